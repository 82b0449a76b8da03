/-
  Each function of the program returns what its pure function computes, and leaves all memory that was there as it was. Condition: the pure function computes something.
-/
import Derived.Test.YthppacohnciinaaFacts
import Derived.Test.YthppacohnciinaaPureA
namespace Go.Proofs.Ythppacohnciinaa
open Go Go.Md Go.RowKit
attribute [local irreducible] Go.wpList Go.Code.wp Go.Calls Go.Md.Rnd Go.Md.Mt Go.Md.MtM Go.Md.RndM Go.Code.wpIn

set_option maxHeartbeats 4000000 in
theorem c14 {w0 : World} {v0 : Value} {x0 : (Int × (List (Int × Int × Int)))} (r0 : RV w0 v0 x0) {r : Bool} (hF : law01_great x0 = some r) :
    Calls Try.prog 14 [v0].toArray w0 (Ret fun v w' => v = .bool r ∧ Ext w0 w') := by
  unfold law01_great at hF
  have hz := id r0; obtain ⟨_, rfl, ⟨_, _, rfl, rfl, ⟨a1, cq1, rfl, p1, q2, e1⟩⟩⟩ := hz
  have r2 := RV.of1 p1 q2 e1
  refine entr (n := 7) Try.func14 rfl rfl rfl <| wp_seq <| rg <| sbx rfl rfl fun b2 w1 hx1 hg1 hb1 => ?_
  have r3 := r2.ext hx1
  have r4 := r0.ext hx1
  refine vl rfl rfl xas <| nl <| wp_seq <| rg <| vl rfl rfl (xfa rfl fa24_1) <| vl rfl rfl (xld rfl ti22 ((Bx.cs hb1).at 1 rfl)) <| vl rfl rfl (xlen rfl Try.underlying22) <| vl rfl rfl (xgtr rfl rfl) <| vl rfl rfl xas <| nl <| ?_
  cases hF
  exact wp_ret <| rt rfl (.tmp rfl rfl .nil) ⟨rfl, hx1⟩

set_option maxHeartbeats 4000000 in
theorem c80 {w0 : World} {v0 : Value} {x0 : (List Int)} (r0 : RV w0 v0 x0) {v1 : Value} {x1 : Int → Option Bool} (h1 : FnB Try.prog Int w0 v1 x1) {F : Nat} {r : Int} (hF : slices_IndexFunc_int F x0 x1 = some r) :
    Calls Try.prog 80 [v0, v1].toArray w0 (Ret fun v w' => v = .int .i64 r ∧ Ext w0 w') := by
  unfold slices_IndexFunc_int at hF
  have hz := r0.sl; obtain ⟨a1, cq1, rfl, -, -, -⟩ := hz
  refine entr (n := 19) Try.func80 rfl rfl rfl <| wp_seq <| rg <| vl rfl rfl xas <| nl <| wp_seq <| wp_seq <| rg <| vl rfl rfl xmv <| vl rfl rfl (xlen rfl Try.underlying36) <| vl rfl rfl xmv <| nl <| ?_
  have hz := bs hF; obtain ⟨o1, hB1, hF⟩ := hz
  refine ct (fun L w => o1 = .inr () ∧ Ext w0 w) ?_ ?_
  ·
    refine wp_block <| lp (I := fun m L w => ∃ y1 : Int, slices_IndexFunc_int_l1 F x0 x1 m y1  = some o1 ∧ L 8 = .int .i64 y1 ∧ L 0 = .slice a1 x0.length cq1 ∧ L 1 = v1 ∧ L 7 = .int .i64 (x0.length : Int) ∧ Ext w0 w) F ⟨_, hB1, rfl, rfl, rfl, rfl, (Ext.refl _)⟩ ?_
    rintro m L w1 ⟨y1, hB1, l8_i1, l0_i1, l1_i1, l7_i1, K0_i1⟩
    rcases m with _ | m
    · rw [slices_IndexFunc_int_l1] at hB1; cases hB1
    rw [slices_IndexFunc_int_l1] at hB1
    have r3 := r0.ext K0_i1
    have h3 := h1.ext K0_i1
    refine wp_seq <| rg <| vl rfl rfl (xlss l8_i1 l7_i1) <| nl <| wp_seq <| cnd rfl (fun h4 => ?_) (fun h4 => ?_)
    ·
      have hB1 := ifp hB1 h4
      refine wp_skip <| wp_seq <| wp_block <| wp_seq <| rg <| vl rfl rfl xmv <| vl rfl rfl xas <| nl <| wp_seq <| rg <| vl rfl rfl xmv <| vl rfl rfl xmv <| vl rfl rfl xmv <| ?_
      have hz := bs hB1; obtain ⟨x3, Ex3, hB1⟩ := hz
      have hz := (RV.els r0).ix Ex3; obtain ⟨b3, f1, cs3, e1, i2, i3, q3, hc1⟩ := hz
      cases e1
      obtain rfl := q3
      have hc2 := hc1.ext K0_i1
      refine vl rfl rfl (xixs l0_i1 l8_i1 Try.underlying36 ti3 i2 i3) <| vl rfl rfl (xld rfl ti3 (hc2.at 0 rfl)) <| ?_
      have hz := bs hB1; obtain ⟨x4, Ex4, hB1⟩ := hz
      have hz := id h3; obtain ⟨g1, fs1, cs4, e2, hg1, hu1⟩ := hz
      refine cl rfl rfl (xcv (l1_i1.trans e2) hg1 (mc rfl mn) rfl) (hu1 _ _ _ _ (Ext.refl _) (RVo.int.2 rfl) Ex4) ?_
      rintro _ w2 ⟨rfl, hx1⟩
      have k1 := K0_i1.tr hx1
      have r4 := r3.ext hx1
      have h5 := h3.ext hx1
      refine nl <| cnd rfl (fun h6 => ?_) (fun h6 => ?_)
      ·
        have hB1 := ifp hB1 h6
        refine wp_seq <| rg <| vl rfl rfl xmv <| vl rfl rfl xas <| nl <| ?_
        cases hB1
        have hF := (show some _ = some _ from hF); cases hF
        exact wp_ret <| rt rfl (.tmp l8_i1 rfl .nil) ⟨rfl, k1⟩
      ·
        have hB1 := ifn hB1 h6
        refine wp_skip <| rg <| vl rfl rfl (xadd l8_i1 rfl) <| vl rfl rfl xmv <| nl <| ?_
        refine lq m (Nat.lt_succ_self _) <| ?_
        exact ⟨_, hB1, rfl, l0_i1, l1_i1, l7_i1, k1⟩
    ·
      have hB1 := ifn hB1 h4
      refine wp_exit <| ?_
      cases hB1
      refine lf <| ?_
      exact ⟨rfl, K0_i1⟩
  rintro L w3 ⟨rfl, K0_j1⟩
  refine wp_seq <| rg <| vl rfl rfl xas <| nl <| ?_
  cases hF
  exact wp_ret <| rt rfl (.tmp rfl rfl .nil) ⟨rfl, K0_j1⟩

set_option maxHeartbeats 4000000 in
theorem c72 {w0 : World} {v0 : Value} {x0 : (List Int)} (r0 : RV w0 v0 x0) {v1 : Value} {x1 : Int → Option Bool} (h1 : FnB Try.prog Int w0 v1 x1) {F : Nat} {r : Bool} (hF : slices_ContainsFunc_int F x0 x1 = some r) :
    Calls Try.prog 72 [v0, v1].toArray w0 (Ret fun v w' => v = .bool r ∧ Ext w0 w') := by
  unfold slices_ContainsFunc_int at hF
  have hz := r0.sl; obtain ⟨a1, cq1, rfl, -, -, -⟩ := hz
  refine entr (n := 9) Try.func72 rfl rfl rfl <| wp_seq <| rg <| vl rfl rfl xas <| nl <| wp_seq <| rg <| vl rfl rfl xmv <| vl rfl rfl xmv <| ?_
  have hz := bs hF; obtain ⟨x3, Ex3, hF⟩ := hz
  refine cl rfl rfl (xc cb80 (mc rfl (mc rfl mn))) (c80 r0 h1 Ex3) ?_
  rintro _ w1 ⟨rfl, hx1⟩
  refine vl rfl rfl (xgeq rfl rfl) <| vl rfl rfl xas <| nl <| ?_
  cases hF
  exact wp_ret <| rt rfl (.tmp rfl rfl .nil) ⟨rfl, hx1⟩

set_option maxHeartbeats 4000000 in
theorem c73 {w0 : World} {x0 : Int} {b1 : Nat} {cs1 : List Value} {x1 : Int} (h1 : Cs w0 b1 0 cs1) (q1 : Enc.rep (fun _ => True) w0 cs1 x1) {b2 : Nat} {cs2 : List Value} {x2 : Int} (h2 : Cs w0 b2 0 cs2) (q2 : Enc.rep (fun _ => True) w0 cs2 x2) {r : Bool} (hF : speed_turns_1 x0 x1 x2 = some r) :
    Calls Try.prog 73 [.int .i64 x0, .pointer (some ⟨b1, 0, none⟩), .pointer (some ⟨b2, 0, none⟩)].toArray w0 (Ret fun v w' => v = .bool r ∧ Ext w0 w') := by
  unfold speed_turns_1 at hF
  obtain rfl := q1
  obtain rfl := q2
  refine entr (n := 13) Try.func73 rfl rfl rfl <| wp_seq <| rg <| vl rfl rfl xas <| nl <| wp_seq <| rg <| vl rfl rfl xmv <| vl rfl rfl (xld rfl ti3 (h1.at 0 rfl)) <| vl rfl rfl (xlss rfl rfl) <| vl rfl rfl xmv <| gv rfl rfl rfl rfl (gw0 rfl) rfl (fun hc => xmva rfl) <| gv rfl rfl rfl rfl (gw0 rfl) rfl (fun hc => xld rfl ti3 (h2.at 0 rfl)) <| gv rfl rfl rfl rfl (gw0 rfl) rfl (fun hc => xgtr (mv hc rfl) (mv hc rfl)) <| vl rfl rfl (xpo rfl rfl rfl) <| vl rfl rfl xas <| nl <| ?_
  cases hF
  exact wp_ret <| rt rfl (.tmp rfl rfl .nil) ⟨rfl, (Ext.refl _)⟩

set_option maxHeartbeats 4000000 in
theorem c53 {w0 : World} {x0 : Int} {x1 : Int} {v2 : Value} {x2 : (List Int)} (r2 : RV w0 v2 x2) {F : Nat} {r : Bool} (hF : speed_turns F x0 x1 x2 = some r) :
    Calls Try.prog 53 [.int .i64 x0, .int .i64 x1, v2].toArray w0 (Ret fun v w' => v = .bool r ∧ Ext w0 w') := by
  unfold speed_turns at hF
  have hz := r2.sl; obtain ⟨a1, cq1, rfl, -, -, -⟩ := hz
  refine entr (n := 11) Try.func53 rfl rfl rfl <| wp_seq <| rg <| sbx rfl rfl fun b4 w1 hx1 hg1 hb1 => ?_
  have r4 := r2.ext hx1
  refine sbx rfl rfl fun b5 w2 hx2 hg2 hb2 => ?_
  have k1 := hx1.tr hx2
  have hb3 := hb1.ext hx2
  have r5 := r4.ext hx2
  refine vl rfl rfl xas <| nl <| wp_seq <| rg <| vl rfl rfl xmv <| vl rfl rfl (xmf mn (mc rfl (mc rfl mn))) <| ?_
  have hz := bs hF; obtain ⟨x4, Ex4, hF⟩ := hz
  refine cl rfl rfl (xc cb72 (mc rfl (mc rfl mn))) (c72 r5 ⟨73, [], [.pointer (some ⟨b4, 0, none⟩), .pointer (some ⟨b5, 0, none⟩)], rfl, cb73, fun w' u x b hk hu hp => by cases RVo.int.1 hu; exact c73 (Bx.cs (hb3.ext hk)) rfl (Bx.cs (hb2.ext hk)) rfl hp⟩ Ex4) ?_
  rintro _ w3 ⟨rfl, hx3⟩
  have k2 := k1.tr hx3
  have k3 := hx2.tr hx3
  refine vl rfl rfl (xnot rfl) <| vl rfl rfl xas <| nl <| ?_
  cases hF
  exact wp_ret <| rt rfl (.tmp rfl rfl .nil) ⟨rfl, k2⟩

set_option maxHeartbeats 4000000 in
theorem c82 {w0 : World} {v0 : Value} {x0 : (List Int)} (r0 : RV w0 v0 x0) {v1 : Value} {x1 : Int → Option Bool} (h1 : FnB Try.prog Int w0 v1 x1) {F : Nat} {r : Int} (hF : slices_IndexFunc_int64 F x0 x1 = some r) :
    Calls Try.prog 82 [v0, v1].toArray w0 (Ret fun v w' => v = .int .i64 r ∧ Ext w0 w') := by
  unfold slices_IndexFunc_int64 at hF
  have hz := r0.sl; obtain ⟨a1, cq1, rfl, -, -, -⟩ := hz
  refine entr (n := 19) Try.func82 rfl rfl rfl <| wp_seq <| rg <| vl rfl rfl xas <| nl <| wp_seq <| wp_seq <| rg <| vl rfl rfl xmv <| vl rfl rfl (xlen rfl Try.underlying32) <| vl rfl rfl xmv <| nl <| ?_
  have hz := bs hF; obtain ⟨o1, hB1, hF⟩ := hz
  refine ct (fun L w => o1 = .inr () ∧ Ext w0 w) ?_ ?_
  ·
    refine wp_block <| lp (I := fun m L w => ∃ y1 : Int, slices_IndexFunc_int64_l1 F x0 x1 m y1  = some o1 ∧ L 8 = .int .i64 y1 ∧ L 0 = .slice a1 x0.length cq1 ∧ L 1 = v1 ∧ L 7 = .int .i64 (x0.length : Int) ∧ Ext w0 w) F ⟨_, hB1, rfl, rfl, rfl, rfl, (Ext.refl _)⟩ ?_
    rintro m L w1 ⟨y1, hB1, l8_i1, l0_i1, l1_i1, l7_i1, K0_i1⟩
    rcases m with _ | m
    · rw [slices_IndexFunc_int64_l1] at hB1; cases hB1
    rw [slices_IndexFunc_int64_l1] at hB1
    have r3 := r0.ext K0_i1
    have h3 := h1.ext K0_i1
    refine wp_seq <| rg <| vl rfl rfl (xlss l8_i1 l7_i1) <| nl <| wp_seq <| cnd rfl (fun h4 => ?_) (fun h4 => ?_)
    ·
      have hB1 := ifp hB1 h4
      refine wp_skip <| wp_seq <| wp_block <| wp_seq <| rg <| vl rfl rfl xmv <| vl rfl rfl xas <| nl <| wp_seq <| rg <| vl rfl rfl xmv <| vl rfl rfl xmv <| vl rfl rfl xmv <| ?_
      have hz := bs hB1; obtain ⟨x3, Ex3, hB1⟩ := hz
      have hz := (RV.els r0).ix Ex3; obtain ⟨b3, f1, cs3, e1, i2, i3, q3, hc1⟩ := hz
      cases e1
      obtain rfl := q3
      have hc2 := hc1.ext K0_i1
      refine vl rfl rfl (xixs l0_i1 l8_i1 Try.underlying32 ti2 i2 i3) <| vl rfl rfl (xld rfl ti2 (hc2.at 0 rfl)) <| ?_
      have hz := bs hB1; obtain ⟨x4, Ex4, hB1⟩ := hz
      have hz := id h3; obtain ⟨g1, fs1, cs4, e2, hg1, hu1⟩ := hz
      refine cl rfl rfl (xcv (l1_i1.trans e2) hg1 (mc rfl mn) rfl) (hu1 _ _ _ _ (Ext.refl _) (RVo.int.2 rfl) Ex4) ?_
      rintro _ w2 ⟨rfl, hx1⟩
      have k1 := K0_i1.tr hx1
      have r4 := r3.ext hx1
      have h5 := h3.ext hx1
      refine nl <| cnd rfl (fun h6 => ?_) (fun h6 => ?_)
      ·
        have hB1 := ifp hB1 h6
        refine wp_seq <| rg <| vl rfl rfl xmv <| vl rfl rfl xas <| nl <| ?_
        cases hB1
        have hF := (show some _ = some _ from hF); cases hF
        exact wp_ret <| rt rfl (.tmp l8_i1 rfl .nil) ⟨rfl, k1⟩
      ·
        have hB1 := ifn hB1 h6
        refine wp_skip <| rg <| vl rfl rfl (xadd l8_i1 rfl) <| vl rfl rfl xmv <| nl <| ?_
        refine lq m (Nat.lt_succ_self _) <| ?_
        exact ⟨_, hB1, rfl, l0_i1, l1_i1, l7_i1, k1⟩
    ·
      have hB1 := ifn hB1 h4
      refine wp_exit <| ?_
      cases hB1
      refine lf <| ?_
      exact ⟨rfl, K0_i1⟩
  rintro L w3 ⟨rfl, K0_j1⟩
  refine wp_seq <| rg <| vl rfl rfl xas <| nl <| ?_
  cases hF
  exact wp_ret <| rt rfl (.tmp rfl rfl .nil) ⟨rfl, K0_j1⟩

set_option maxHeartbeats 4000000 in
theorem c75 {w0 : World} {v0 : Value} {x0 : (List Int)} (r0 : RV w0 v0 x0) {v1 : Value} {x1 : Int → Option Bool} (h1 : FnB Try.prog Int w0 v1 x1) {F : Nat} {r : Bool} (hF : slices_ContainsFunc_int64 F x0 x1 = some r) :
    Calls Try.prog 75 [v0, v1].toArray w0 (Ret fun v w' => v = .bool r ∧ Ext w0 w') := by
  unfold slices_ContainsFunc_int64 at hF
  have hz := r0.sl; obtain ⟨a1, cq1, rfl, -, -, -⟩ := hz
  refine entr (n := 9) Try.func75 rfl rfl rfl <| wp_seq <| rg <| vl rfl rfl xas <| nl <| wp_seq <| rg <| vl rfl rfl xmv <| vl rfl rfl xmv <| ?_
  have hz := bs hF; obtain ⟨x3, Ex3, hF⟩ := hz
  refine cl rfl rfl (xc cb82 (mc rfl (mc rfl mn))) (c82 r0 h1 Ex3) ?_
  rintro _ w1 ⟨rfl, hx1⟩
  refine vl rfl rfl (xgeq rfl rfl) <| vl rfl rfl xas <| nl <| ?_
  cases hF
  exact wp_ret <| rt rfl (.tmp rfl rfl .nil) ⟨rfl, hx1⟩

set_option maxHeartbeats 4000000 in
theorem c76 {w0 : World} {x0 : Int} {b1 : Nat} {cs1 : List Value} {x1 : Int} (h1 : Cs w0 b1 0 cs1) (q1 : Enc.rep (fun _ => True) w0 cs1 x1) {b2 : Nat} {cs2 : List Value} {x2 : Int} (h2 : Cs w0 b2 0 cs2) (q2 : Enc.rep (fun _ => True) w0 cs2 x2) {r : Bool} (hF : speed_within_1 x0 x1 x2 = some r) :
    Calls Try.prog 76 [.int .i64 x0, .pointer (some ⟨b1, 0, none⟩), .pointer (some ⟨b2, 0, none⟩)].toArray w0 (Ret fun v w' => v = .bool r ∧ Ext w0 w') := by
  unfold speed_within_1 at hF
  obtain rfl := q1
  obtain rfl := q2
  refine entr (n := 13) Try.func76 rfl rfl rfl <| wp_seq <| rg <| vl rfl rfl xas <| nl <| wp_seq <| rg <| vl rfl rfl xmv <| vl rfl rfl (xld rfl ti2 (h1.at 0 rfl)) <| vl rfl rfl (xlss rfl rfl) <| vl rfl rfl xmv <| gv rfl rfl rfl rfl (gw0 rfl) rfl (fun hc => xmva rfl) <| gv rfl rfl rfl rfl (gw0 rfl) rfl (fun hc => xld rfl ti2 (h2.at 0 rfl)) <| gv rfl rfl rfl rfl (gw0 rfl) rfl (fun hc => xgtr (mv hc rfl) (mv hc rfl)) <| vl rfl rfl (xpo rfl rfl rfl) <| vl rfl rfl xas <| nl <| ?_
  cases hF
  exact wp_ret <| rt rfl (.tmp rfl rfl .nil) ⟨rfl, (Ext.refl _)⟩

set_option maxHeartbeats 4000000 in
theorem c64 {w0 : World} {x0 : Int} {x1 : Int} {v2 : Value} {x2 : (List Int)} (r2 : RV w0 v2 x2) {F : Nat} {r : Bool} (hF : speed_within F x0 x1 x2 = some r) :
    Calls Try.prog 64 [.int .i64 x0, .int .i64 x1, v2].toArray w0 (Ret fun v w' => v = .bool r ∧ Ext w0 w') := by
  unfold speed_within at hF
  have hz := r2.sl; obtain ⟨a1, cq1, rfl, -, -, -⟩ := hz
  refine entr (n := 11) Try.func64 rfl rfl rfl <| wp_seq <| rg <| sbx rfl rfl fun b4 w1 hx1 hg1 hb1 => ?_
  have r4 := r2.ext hx1
  refine sbx rfl rfl fun b5 w2 hx2 hg2 hb2 => ?_
  have k1 := hx1.tr hx2
  have hb3 := hb1.ext hx2
  have r5 := r4.ext hx2
  refine vl rfl rfl xas <| nl <| wp_seq <| rg <| vl rfl rfl xmv <| vl rfl rfl (xmf mn (mc rfl (mc rfl mn))) <| ?_
  have hz := bs hF; obtain ⟨x4, Ex4, hF⟩ := hz
  refine cl rfl rfl (xc cb75 (mc rfl (mc rfl mn))) (c75 r5 ⟨76, [], [.pointer (some ⟨b4, 0, none⟩), .pointer (some ⟨b5, 0, none⟩)], rfl, cb76, fun w' u x b hk hu hp => by cases RVo.int.1 hu; exact c76 (Bx.cs (hb3.ext hk)) rfl (Bx.cs (hb2.ext hk)) rfl hp⟩ Ex4) ?_
  rintro _ w3 ⟨rfl, hx3⟩
  have k2 := k1.tr hx3
  have k3 := hx2.tr hx3
  refine vl rfl rfl (xnot rfl) <| vl rfl rfl xas <| nl <| ?_
  cases hF
  exact wp_ret <| rt rfl (.tmp rfl rfl .nil) ⟨rfl, k2⟩

set_option maxHeartbeats 4000000 in
theorem c68 {w0 : World} {v0 : Value} {x0 : (Int × Int × Int)} (r0 : RV w0 v0 x0) {b1 : Nat} {cs1 : List Value} {x1 : (Int × (List (Int × Int × Int)))} (h1 : Cs w0 b1 0 cs1) (q1 : Enc.rep (fun _ => True) w0 cs1 x1) {F : Nat} {r : Bool} (hF : speed_CheckSheet_1 F x0 x1 = some r) :
    Calls Try.prog 68 [v0, .pointer (some ⟨b1, 0, none⟩)].toArray w0 (Ret fun v w' => v = .bool r ∧ Ext w0 w') := by
  unfold speed_CheckSheet_1 at hF
  have hz := id r0; obtain ⟨_, rfl, ⟨_, _, rfl, rfl, ⟨_, _, rfl, rfl, rfl⟩⟩⟩ := hz
  obtain ⟨_, _, rfl, rfl, ⟨a1, cq1, rfl, p1, q3, e1⟩⟩ := q1
  have r3 := RV.of1 p1 q3 e1
  refine entr (n := 27) Try.func68 rfl rfl rfl <| wp_seq <| rg <| sbx rfl rfl fun b3 w1 hx1 hg1 hb1 => ?_
  have r4 := r3.ext hx1
  have h3 := h1.ext hx1
  have r5 := r0.ext hx1
  refine vl rfl rfl xas <| nl <| wp_seq <| rg <| vl rfl rfl (xfa rfl fa24_0) <| vl rfl rfl (xld rfl ti3 (h3.at 0 rfl)) <| vl rfl rfl (xfa rfl fa56_0) <| vl rfl rfl (xld rfl ti3 ((Bx.cs hb1).at 0 rfl)) <| vl rfl rfl (xfa rfl fa56_1) <| vl rfl rfl (xld rfl ti3 ((Bx.cs hb1).at 1 rfl)) <| sbsv (cs := [.int .i64 x0.1, .int .i64 x0.2.1]) Try.underlying36 ti3 rfl (pc rfl (pc rfl pn)) rfl rfl rfl rfl rfl fun b4 w2 hx2 hg2 hb2 => ?_
  have k1 := hx1.tr hx2
  have hb3 := hb1.ext hx2
  have o1 : Row (α := Int) 3 w1.heap.size w2 (.slice (some ⟨b4, 0, none⟩) 2 2) [x0.1, x0.2.1] := Row.lit hg2 hb2 rfl (ble rfl)
  have hz := bs hF; obtain ⟨x3, Ex3, hF⟩ := hz
  refine cl rfl rfl (xc cb53 (mc rfl (mc rfl (mc rfl mn)))) (c53 o1.rv Ex3) ?_
  rintro _ w3 ⟨rfl, hx3⟩
  have k2 := k1.tr hx3
  have k3 := hx2.tr hx3
  have hb4 := hb3.ext hx3
  refine vl rfl rfl (xnot rfl) <| vl rfl rfl xmv <| gv rfl rfl rfl rfl (gw0 rfl) rfl (fun hc => xfa rfl fa56_0) <| gv rfl rfl rfl rfl (gw0 rfl) rfl (fun hc => xld (mv hc rfl) ti3 ((Bx.cs hb4).at 0 rfl)) <| gv rfl rfl rfl rfl (gw0 rfl) rfl (fun hc => xfa rfl fa56_1) <| gv rfl rfl rfl rfl (gw0 rfl) rfl (fun hc => xld (mv hc rfl) ti3 ((Bx.cs hb4).at 1 rfl)) <| gv rfl rfl rfl rfl (gw0 rfl) rfl (fun hc => xeql (mv hc rfl) (mv hc rfl)) <| vl rfl rfl (xpo rfl rfl rfl) <| vl rfl rfl xmv <| gv rfl rfl rfl rfl (gw0 rfl) rfl (fun hc => xfa rfl fa56_2) <| gv rfl rfl rfl rfl (gw0 rfl) rfl (fun hc => xld (mv hc rfl) ti2 ((Bx.cs hb4).at 2 rfl)) <| gm (fun v w => RV w v ([x0.2.2] : List Int) ∧ Ext w3 w) rfl rfl rfl rfl (gw0 rfl) rfl (fun hc => sbsv (cs := [.int .i64 x0.2.2]) Try.underlying32 ti2 rfl (pc (mv hc rfl) pn) rfl rfl rfl rfl rfl fun b w' hx hg hb => nl ⟨_, rfl, (Row.lit (base := 0) (l := ([x0.2.2] : List Int)) (Nat.zero_le _) hb rfl (ble rfl)).rv, hx⟩) (fun v3 w4 hy1 hn1 => ?_)
  have hx4 : Ext w3 w4 := gx (fun h => (hy1 h).2) (fun h => (hn1 h).2 ▸ Ext.refl _)
  have k4 := k2.tr hx4
  have k5 := k3.tr hx4
  have hz := bs hF; obtain ⟨x4, Ex4, hF⟩ := hz
  refine gc rfl rfl rfl rfl (gw0 rfl) rfl (fun hc => xc cb64 (mc rfl (mc rfl (mc rfl mn)))) (fun hc => (c64 ((hy1 hc).1) (gdp Ex4 hc))) (fun v4 w5 hy2 hn2 => ?_)
  have hx5 : Ext w4 w5 := gx (fun h => (hy2 h).2) (fun h => (hn2 h).2 ▸ Ext.refl _)
  have e2 := mkw (fun h => (hy2 h).1) (fun h => (hn2 h).1)
  have k6 := k4.tr hx5
  have k7 := k5.tr hx5
  refine gv rfl rfl rfl rfl (gw0 rfl) rfl (fun hc => xnot (mv hc e2)) <| vl rfl rfl (xpo rfl rfl rfl) <| vl rfl rfl xas <| nl <| ?_
  cases hF
  exact wp_ret <| rt rfl (.tmp rfl rfl .nil) ⟨rfl, k6⟩

set_option maxHeartbeats 4000000 in
theorem c78 {w0 : World} {v0 : Value} {x0 : (List (Int × Int × Int))} (r0 : RV w0 v0 x0) {v1 : Value} {x1 : (Int × Int × Int) → Option Bool} (h1 : FnB Try.prog (Int × Int × Int) w0 v1 x1) {F : Nat} {r : Int} (hF : slices_IndexFunc_api_SpeedRule F x0 x1 = some r) :
    Calls Try.prog 78 [v0, v1].toArray w0 (Ret fun v w' => v = .int .i64 r ∧ Ext w0 w') := by
  unfold slices_IndexFunc_api_SpeedRule at hF
  have hz := r0.sl; obtain ⟨a1, cq1, rfl, -, -, -⟩ := hz
  refine entr (n := 19) Try.func78 rfl rfl rfl <| wp_seq <| rg <| vl rfl rfl xas <| nl <| wp_seq <| wp_seq <| rg <| vl rfl rfl xmv <| vl rfl rfl (xlen rfl Try.underlying22) <| vl rfl rfl xmv <| nl <| ?_
  have hz := bs hF; obtain ⟨o1, hB1, hF⟩ := hz
  refine ct (fun L w => o1 = .inr () ∧ Ext w0 w) ?_ ?_
  ·
    refine wp_block <| lp (I := fun m L w => ∃ y1 : Int, slices_IndexFunc_api_SpeedRule_l1 F x0 x1 m y1  = some o1 ∧ L 8 = .int .i64 y1 ∧ L 0 = .slice a1 x0.length cq1 ∧ L 1 = v1 ∧ L 7 = .int .i64 (x0.length : Int) ∧ Ext w0 w) F ⟨_, hB1, rfl, rfl, rfl, rfl, (Ext.refl _)⟩ ?_
    rintro m L w1 ⟨y1, hB1, l8_i1, l0_i1, l1_i1, l7_i1, K0_i1⟩
    rcases m with _ | m
    · rw [slices_IndexFunc_api_SpeedRule_l1] at hB1; cases hB1
    rw [slices_IndexFunc_api_SpeedRule_l1] at hB1
    have r3 := r0.ext K0_i1
    have h3 := h1.ext K0_i1
    refine wp_seq <| rg <| vl rfl rfl (xlss l8_i1 l7_i1) <| nl <| wp_seq <| cnd rfl (fun h4 => ?_) (fun h4 => ?_)
    ·
      have hB1 := ifp hB1 h4
      refine wp_skip <| wp_seq <| wp_block <| wp_seq <| rg <| vl rfl rfl xmv <| vl rfl rfl xas <| nl <| wp_seq <| rg <| vl rfl rfl xmv <| vl rfl rfl xmv <| vl rfl rfl xmv <| ?_
      have hz := bs hB1; obtain ⟨x3, Ex3, hB1⟩ := hz
      have hz := (RV.els r0).ix Ex3; obtain ⟨b3, f1, cs3, e1, i2, i3, q3, hc1⟩ := hz
      cases e1
      obtain ⟨_, _, rfl, rfl, ⟨_, _, rfl, rfl, rfl⟩⟩ := q3
      have hc2 := hc1.ext K0_i1
      refine vl rfl rfl (xixs l0_i1 l8_i1 Try.underlying22 ti56 i2 i3) <| vl rfl rfl (xlda rfl ti56 rfl hc2) <| ?_
      have hz := bs hB1; obtain ⟨x4, Ex4, hB1⟩ := hz
      have hz := id h3; obtain ⟨g1, fs1, cs4, e2, hg1, hu1⟩ := hz
      refine cl rfl rfl (xcv (l1_i1.trans e2) hg1 (mc rfl mn) rfl) (hu1 _ _ _ _ (Ext.refl _) (show RV (α := (Int × Int × Int)) _ (.agg [.int .i64 x3.1, .int .i64 x3.2.1, .int .i64 x3.2.2].toArray) (x3.1, x3.2.1, x3.2.2) from ⟨_, rfl, ⟨[.int .i64 x3.1], [.int .i64 x3.2.1] ++ [.int .i64 x3.2.2], rfl, rfl, ⟨[.int .i64 x3.2.1], [.int .i64 x3.2.2], rfl, rfl, rfl⟩⟩⟩) Ex4) ?_
      rintro _ w2 ⟨rfl, hx1⟩
      have k1 := K0_i1.tr hx1
      have r4 := r3.ext hx1
      have h5 := h3.ext hx1
      refine nl <| cnd rfl (fun h6 => ?_) (fun h6 => ?_)
      ·
        have hB1 := ifp hB1 h6
        refine wp_seq <| rg <| vl rfl rfl xmv <| vl rfl rfl xas <| nl <| ?_
        cases hB1
        have hF := (show some _ = some _ from hF); cases hF
        exact wp_ret <| rt rfl (.tmp l8_i1 rfl .nil) ⟨rfl, k1⟩
      ·
        have hB1 := ifn hB1 h6
        refine wp_skip <| rg <| vl rfl rfl (xadd l8_i1 rfl) <| vl rfl rfl xmv <| nl <| ?_
        refine lq m (Nat.lt_succ_self _) <| ?_
        exact ⟨_, hB1, rfl, l0_i1, l1_i1, l7_i1, k1⟩
    ·
      have hB1 := ifn hB1 h4
      refine wp_exit <| ?_
      cases hB1
      refine lf <| ?_
      exact ⟨rfl, K0_i1⟩
  rintro L w3 ⟨rfl, K0_j1⟩
  refine wp_seq <| rg <| vl rfl rfl xas <| nl <| ?_
  cases hF
  exact wp_ret <| rt rfl (.tmp rfl rfl .nil) ⟨rfl, K0_j1⟩

set_option maxHeartbeats 4000000 in
theorem c69 {w0 : World} {v0 : Value} {x0 : (List (Int × Int × Int))} (r0 : RV w0 v0 x0) {v1 : Value} {x1 : (Int × Int × Int) → Option Bool} (h1 : FnB Try.prog (Int × Int × Int) w0 v1 x1) {F : Nat} {r : Bool} (hF : slices_ContainsFunc_api_SpeedRule F x0 x1 = some r) :
    Calls Try.prog 69 [v0, v1].toArray w0 (Ret fun v w' => v = .bool r ∧ Ext w0 w') := by
  unfold slices_ContainsFunc_api_SpeedRule at hF
  have hz := r0.sl; obtain ⟨a1, cq1, rfl, -, -, -⟩ := hz
  refine entr (n := 9) Try.func69 rfl rfl rfl <| wp_seq <| rg <| vl rfl rfl xas <| nl <| wp_seq <| rg <| vl rfl rfl xmv <| vl rfl rfl xmv <| ?_
  have hz := bs hF; obtain ⟨x3, Ex3, hF⟩ := hz
  refine cl rfl rfl (xc cb78 (mc rfl (mc rfl mn))) (c78 r0 h1 Ex3) ?_
  rintro _ w1 ⟨rfl, hx1⟩
  refine vl rfl rfl (xgeq rfl rfl) <| vl rfl rfl xas <| nl <| ?_
  cases hF
  exact wp_ret <| rt rfl (.tmp rfl rfl .nil) ⟨rfl, hx1⟩

set_option maxHeartbeats 4000000 in
theorem c43 {w0 : World} {v0 : Value} {x0 : (Int × (List (Int × Int × Int)))} (r0 : RV w0 v0 x0) {F : Nat} {r : Int} (hF : speed_CheckSheet F x0 = some r) :
    Calls Try.prog 43 [v0].toArray w0 (Ret fun v w' => v = .int .i64 r ∧ Ext w0 w') := by
  unfold speed_CheckSheet at hF
  have hz := id r0; obtain ⟨_, rfl, ⟨_, _, rfl, rfl, ⟨a1, cq1, rfl, p1, q2, e1⟩⟩⟩ := hz
  have r2 := RV.of1 p1 q2 e1
  refine entr (n := 21) Try.func43 rfl rfl rfl <| wp_seq <| rg <| sbx rfl rfl fun b2 w1 hx1 hg1 hb1 => ?_
  have r3 := r2.ext hx1
  have r4 := r0.ext hx1
  refine vl rfl rfl xas <| nl <| wp_seq <| rg <| vl rfl rfl (xmf mn (mc rfl mn)) <| vl rfl rfl xas <| nl <| wp_seq <| wp_block <| wp_seq <| rg <| vl rfl rfl (xfa rfl fa24_1) <| vl rfl rfl (xld rfl ti22 ((Bx.cs hb1).at 1 rfl)) <| vl rfl rfl (xlen rfl Try.underlying22) <| vl rfl rfl (xgtr rfl rfl) <| vl rfl rfl xas <| nl <| cnd rfl (fun h2 => ?_) (fun h2 => ?_)
  ·
    have hF := ifp hF h2
    refine wp_seq <| rg <| vl rfl rfl xas <| nl <| ?_
    cases hF
    exact wp_ret <| rt rfl (.tmp rfl rfl .nil) ⟨rfl, hx1⟩
  ·
    have hF := ifn hF h2
    refine wp_seq <| rg <| vl rfl rfl (xfa rfl fa24_0) <| vl rfl rfl (xld rfl ti3 ((Bx.cs hb1).at 0 rfl)) <| sbsv (cs := [.int .i64 x0.1]) Try.underlying36 ti3 rfl (pc rfl pn) rfl rfl rfl rfl rfl fun b3 w2 hx2 hg2 hb2 => ?_
    have k1 := hx1.tr hx2
    have hb3 := hb1.ext hx2
    have r5 := r3.ext hx2
    have o1 : Row (α := Int) 3 w1.heap.size w2 (.slice (some ⟨b3, 0, none⟩) 1 1) [x0.1] := Row.lit hg2 hb2 rfl (ble rfl)
    have hz := bs hF; obtain ⟨x2, Ex2, hF⟩ := hz
    refine cl rfl rfl (xc cb53 (mc rfl (mc rfl (mc rfl mn)))) (c53 o1.rv Ex2) ?_
    rintro _ w3 ⟨rfl, hx3⟩
    have k2 := k1.tr hx3
    have k3 := hx2.tr hx3
    have hb4 := hb3.ext hx3
    have r7 := r5.ext hx3
    refine vl rfl rfl (xnot rfl) <| vl rfl rfl xas <| nl <| cnd rfl (fun h3 => ?_) (fun h3 => ?_)
    ·
      have hF := ifp hF h3
      refine wp_seq <| rg <| vl rfl rfl xas <| nl <| ?_
      cases hF
      exact wp_ret <| rt rfl (.tmp rfl rfl .nil) ⟨rfl, k2⟩
    ·
      have hF := ifn hF h3
      refine wp_seq <| rg <| vl rfl rfl (xfa rfl fa24_1) <| vl rfl rfl (xld rfl ti22 ((Bx.cs hb4).at 1 rfl)) <| vl rfl rfl xmv <| ?_
      have hz := bs hF; obtain ⟨x3, Ex3, hF⟩ := hz
      refine cl rfl rfl (xc cb69 (mc rfl (mc rfl mn))) (c69 r7 ⟨68, [], [.pointer (some ⟨b2, 0, none⟩)], rfl, cb68, fun w' u x b hk hu hp => c68 hu (Bx.cs (hb4.ext hk)) ⟨[.int .i64 x0.1], [.slice a1 x0.2.length cq1], rfl, rfl, (r7.ext hk).rep1⟩ hp⟩ Ex3) ?_
      rintro _ w4 ⟨rfl, hx4⟩
      have k4 := k2.tr hx4
      have k5 := k3.tr hx4
      refine vl rfl rfl xas <| nl <| cnd rfl (fun h4 => ?_) (fun h4 => ?_)
      ·
        have hF := ifp hF h4
        refine wp_seq <| rg <| vl rfl rfl xas <| nl <| ?_
        cases hF
        exact wp_ret <| rt rfl (.tmp rfl rfl .nil) ⟨rfl, k4⟩
      ·
        have hF := ifn hF h4
        refine wp_skip <| wp_seq <| rg <| vl rfl rfl xas <| nl <| ?_
        cases hF
        exact wp_ret <| rt rfl (.tmp rfl rfl .nil) ⟨rfl, k4⟩

set_option maxHeartbeats 4000000 in
theorem c66 {w0 : World} {v0 : Value} {x0 : (Int × Int × Int)} (r0 : RV w0 v0 x0) {x1 : Int} {r : Bool} (hF : ref01_IsRule x0 x1 = some r) :
    Calls Try.prog 66 [v0, .int .i64 x1].toArray w0 (Ret fun v w' => v = .bool r ∧ Ext w0 w') := by
  unfold ref01_IsRule at hF
  have hz := id r0; obtain ⟨_, rfl, ⟨_, _, rfl, rfl, ⟨_, _, rfl, rfl, rfl⟩⟩⟩ := hz
  refine entr (n := 42) Try.func66 rfl rfl rfl <| wp_seq <| rg <| sbx rfl rfl fun b3 w1 hx1 hg1 hb1 => ?_
  have r3 := r0.ext hx1
  refine vl rfl rfl xas <| nl <| wp_seq <| rg <| vl rfl rfl (xfa rfl fa56_0) <| vl rfl rfl (xld rfl ti3 ((Bx.cs hb1).at 0 rfl)) <| vl rfl rfl (xgeq rfl rfl) <| vl rfl rfl xmv <| gv rfl rfl rfl rfl (gw1 rfl) rfl (fun hc => xfa rfl fa56_0) <| gv rfl rfl rfl rfl (gw1 rfl) rfl (fun hc => xld (mv hc rfl) ti3 ((Bx.cs hb1).at 0 rfl)) <| gv rfl rfl rfl rfl (gw1 rfl) rfl (fun hc => xmva rfl) <| gv rfl rfl rfl rfl (gw1 rfl) rfl (fun hc => xleq (mv hc rfl) (mv hc rfl)) <| vl rfl rfl (xpa rfl rfl rfl) <| vl rfl rfl xmv <| gv rfl rfl rfl rfl (gw1 rfl) rfl (fun hc => xfa rfl fa56_1) <| gv rfl rfl rfl rfl (gw1 rfl) rfl (fun hc => xld (mv hc rfl) ti3 ((Bx.cs hb1).at 1 rfl)) <| gv rfl rfl rfl rfl (gw1 rfl) rfl (fun hc => xgeq (mv hc rfl) rfl) <| vl rfl rfl (xpa rfl rfl rfl) <| vl rfl rfl xmv <| gv rfl rfl rfl rfl (gw1 rfl) rfl (fun hc => xfa rfl fa56_1) <| gv rfl rfl rfl rfl (gw1 rfl) rfl (fun hc => xld (mv hc rfl) ti3 ((Bx.cs hb1).at 1 rfl)) <| gv rfl rfl rfl rfl (gw1 rfl) rfl (fun hc => xmva rfl) <| gv rfl rfl rfl rfl (gw1 rfl) rfl (fun hc => xleq (mv hc rfl) (mv hc rfl)) <| vl rfl rfl (xpa rfl rfl rfl) <| vl rfl rfl xmv <| gv rfl rfl rfl rfl (gw1 rfl) rfl (fun hc => xfa rfl fa56_0) <| gv rfl rfl rfl rfl (gw1 rfl) rfl (fun hc => xld (mv hc rfl) ti3 ((Bx.cs hb1).at 0 rfl)) <| gv rfl rfl rfl rfl (gw1 rfl) rfl (fun hc => xfa rfl fa56_1) <| gv rfl rfl rfl rfl (gw1 rfl) rfl (fun hc => xld (mv hc rfl) ti3 ((Bx.cs hb1).at 1 rfl)) <| gv rfl rfl rfl rfl (gw1 rfl) rfl (fun hc => xneq (mv hc rfl) (mv hc rfl)) <| vl rfl rfl (xpa rfl rfl rfl) <| vl rfl rfl xmv <| gv rfl rfl rfl rfl (gw1 rfl) rfl (fun hc => xfa rfl fa56_2) <| gv rfl rfl rfl rfl (gw1 rfl) rfl (fun hc => xld (mv hc rfl) ti2 ((Bx.cs hb1).at 2 rfl)) <| gv rfl rfl rfl rfl (gw1 rfl) rfl (fun hc => xgeq (mv hc rfl) rfl) <| vl rfl rfl (xpa rfl rfl rfl) <| vl rfl rfl xmv <| gv rfl rfl rfl rfl (gw1 rfl) rfl (fun hc => xfa rfl fa56_2) <| gv rfl rfl rfl rfl (gw1 rfl) rfl (fun hc => xld (mv hc rfl) ti2 ((Bx.cs hb1).at 2 rfl)) <| gv rfl rfl rfl rfl (gw1 rfl) rfl (fun hc => xleq (mv hc rfl) rfl) <| vl rfl rfl (xpa rfl rfl rfl) <| vl rfl rfl xas <| nl <| ?_
  cases hF
  exact wp_ret <| rt rfl (.tmp rfl rfl .nil) ⟨rfl, hx1⟩

set_option maxHeartbeats 4000000 in
theorem c36 {w0 : World} {v0 : Value} {x0 : (Int × (List (Int × Int × Int)))} (r0 : RV w0 v0 x0) {F : Nat} {r : Int} (hF : ref01_CheckSheet F x0 = some r) :
    Calls Try.prog 36 [v0].toArray w0 (Ret fun v w' => v = .int .i64 r ∧ Ext w0 w') := by
  unfold ref01_CheckSheet at hF
  have hz := id r0; obtain ⟨_, rfl, ⟨_, _, rfl, rfl, ⟨a1, cq1, rfl, p1, q2, e1⟩⟩⟩ := hz
  have r2 := RV.of1 p1 q2 e1
  refine entr (n := 32) Try.func36 rfl rfl rfl <| wp_seq <| rg <| sbx rfl rfl fun b2 w1 hx1 hg1 hb1 => ?_
  have r3 := r2.ext hx1
  have r4 := r0.ext hx1
  refine vl rfl rfl xas <| nl <| wp_seq <| wp_seq <| rg <| vl rfl rfl (xfa rfl fa24_1) <| vl rfl rfl (xld rfl ti22 ((Bx.cs hb1).at 1 rfl)) <| vl rfl rfl (xlen rfl Try.underlying22) <| vl rfl rfl (xgtr rfl rfl) <| nl <| cnd rfl (fun h2 => ?_) (fun h2 => ?_)
  ·
    have hF := ifp hF h2
    refine wp_seq <| rg <| vl rfl rfl xas <| nl <| ?_
    cases hF
    exact wp_ret <| rt rfl (.tmp rfl rfl .nil) ⟨rfl, hx1⟩
  ·
    have hF := ifn hF h2
    refine wp_skip <| wp_seq <| wp_seq <| rg <| vl rfl rfl (xfa rfl fa24_0) <| vl rfl rfl (xld rfl ti3 ((Bx.cs hb1).at 0 rfl)) <| vl rfl rfl (xlss rfl rfl) <| vl rfl rfl xmv <| gv rfl rfl rfl rfl (gw0 rfl) rfl (fun hc => xfa rfl fa24_0) <| gv rfl rfl rfl rfl (gw0 rfl) rfl (fun hc => xld (mv hc rfl) ti3 ((Bx.cs hb1).at 0 rfl)) <| gv rfl rfl rfl rfl (gw0 rfl) rfl (fun hc => xgtr (mv hc rfl) rfl) <| vl rfl rfl (xpo rfl rfl rfl) <| nl <| cnd rfl (fun h3 => ?_) (fun h3 => ?_)
    ·
      have hF := ifp hF h3
      refine wp_seq <| rg <| vl rfl rfl xas <| nl <| ?_
      cases hF
      exact wp_ret <| rt rfl (.tmp rfl rfl .nil) ⟨rfl, hx1⟩
    ·
      have hF := ifn hF h3
      refine wp_skip <| wp_seq <| wp_seq <| rg <| vl rfl rfl xas <| nl <| ?_
      have hz := bs hF; obtain ⟨o1, hB1, hF⟩ := hz
      refine ct (fun L w => o1 = .inr () ∧ Ext w1 w) ?_ ?_
      ·
        refine wp_block <| lp (I := fun m L w => ∃ y1 : Int, ref01_CheckSheet_l1 F x0 m y1  = some o1 ∧ L 3 = .int .i64 y1 ∧ L 1 = .pointer (some ⟨b2, 0, none⟩) ∧ Ext w1 w) F ⟨_, hB1, rfl, rfl, (Ext.refl _)⟩ ?_
        rintro m L w2 ⟨y1, hB1, l3_i1, l1_i1, K0_i1⟩
        rcases m with _ | m
        · rw [ref01_CheckSheet_l1] at hB1; cases hB1
        rw [ref01_CheckSheet_l1] at hB1
        have k1 := hx1.tr K0_i1
        have r5 := r3.ext K0_i1
        have hb2 := hb1.ext K0_i1
        refine wp_seq <| wp_seq <| rg <| vl rfl rfl xmv <| vl rfl rfl (xfa l1_i1 fa24_1) <| vl rfl rfl (xld rfl ti22 ((Bx.cs hb2).at 1 rfl)) <| vl rfl rfl (xlen rfl Try.underlying22) <| vl rfl rfl (xlss l3_i1 rfl) <| nl <| cnd rfl (fun h4 => ?_) (fun h4 => ?_)
        ·
          have hB1 := ifp hB1 h4
          refine wp_skip <| wp_seq <| wp_block <| wp_seq <| wpl [] (.pure true 0 (.pure false 1 (.pure true 2 (.pure true 3 (.pure false 4 (.pure true 5 (.pure false 6 (.eff 7 (.pure true 8 .fin) .stop)))))))) mixed (by kernel_rfl) (fun w3 hx2 => ?_)
          have k2 := k1.tr hx2
          have k3 := K0_i1.tr hx2
          have hb3 := hb2.ext hx2
          have r6 := r5.ext hx2
          refine pv rfl rfl rfl (fun _ _ => xfa l1_i1 fa24_1) (.inl rfl) <| pv rfl rfl rfl (fun _ hS => xld rfl ti22 ((Bx.cs (hb3.ext (hS.resolve_left nofun))).at 1 rfl)) (.inr (Ext.refl _)) <| pv rfl rfl rfl (fun _ _ => xmv) (.inl rfl) <| ?_
          have hz := bs hB1; obtain ⟨x2, Ex2, hB1⟩ := hz
          have hz := (RV.els r2).ix Ex2; obtain ⟨b3, f1, cs2, e2, i2, i3, q3, hc1⟩ := hz
          cases e2
          obtain ⟨_, _, rfl, rfl, ⟨_, _, rfl, rfl, rfl⟩⟩ := q3
          have hc2 := hc1.ext k2
          refine pv rfl rfl rfl (fun _ _ => xixs rfl l3_i1 Try.underlying22 ti56 i2 i3) (.inl rfl) <| pv rfl rfl rfl (fun _ hS => xlda rfl ti56 rfl (hc2.ext (hS.resolve_left nofun))) (.inr (Ext.refl _)) <| pv rfl rfl rfl (fun _ _ => xfa l1_i1 fa24_0) (.inl rfl) <| pv rfl rfl rfl (fun _ hS => xld rfl ti3 ((Bx.cs (hb3.ext (hS.resolve_left nofun))).at 0 rfl)) (.inr (Ext.refl _)) <| ?_
          have hz := bs hB1; obtain ⟨x3, Ex3, hB1⟩ := hz
          refine pe1 rfl <| cl rfl rfl (xc cb66 (mc rfl (mc rfl mn))) (c66 (show RV (α := (Int × Int × Int)) _ (.agg [.int .i64 x2.1, .int .i64 x2.2.1, .int .i64 x2.2.2].toArray) (x2.1, x2.2.1, x2.2.2) from ⟨_, rfl, ⟨[.int .i64 x2.1], [.int .i64 x2.2.1] ++ [.int .i64 x2.2.2], rfl, rfl, ⟨[.int .i64 x2.2.1], [.int .i64 x2.2.2], rfl, rfl, rfl⟩⟩⟩) Ex3) ?_
          rintro _ w4 ⟨rfl, hx3⟩
          have k4 := k2.tr hx3
          have k5 := k3.tr hx3
          have hb4 := hb3.ext hx3
          have r7 := r6.ext hx3
          refine nl ⟨fun _ _ => hx3, ?_⟩
          refine pv rfl rfl rfl (fun _ _ => xnot rfl) (.inl rfl) <| cnd rfl (fun h5 => ?_) (fun h5 => ?_)
          ·
            have hB1 := ifp hB1 h5
            refine wp_seq <| rg <| vl rfl rfl xas <| nl <| ?_
            cases hB1
            have hF := (show some _ = some _ from hF); cases hF
            exact wp_ret <| rt rfl (.tmp rfl rfl .nil) ⟨rfl, k4⟩
          ·
            have hB1 := ifn hB1 h5
            refine wp_skip <| rg <| vl rfl rfl xmv <| vl rfl rfl (xadd l3_i1 rfl) <| vl rfl rfl xas <| nl <| ?_
            refine lq m (Nat.lt_succ_self _) <| ?_
            exact ⟨_, hB1, rfl, l1_i1, k5⟩
        ·
          have hB1 := ifn hB1 h4
          refine wp_exit <| ?_
          cases hB1
          refine lf <| ?_
          exact ⟨rfl, K0_i1⟩
      rintro L w5 ⟨rfl, K0_j1⟩
      have k6 := hx1.tr K0_j1
      refine wp_seq <| rg <| vl rfl rfl xas <| nl <| ?_
      cases hF
      exact wp_ret <| rt rfl (.tmp rfl rfl .nil) ⟨rfl, k6⟩

set_option maxHeartbeats 4000000 in
theorem c24 {w0 : World} {v0 : Value} {x0 : (List Int)} (r0 : RV w0 v0 x0) {v1 : Value} {x1 : (List Int)} (r1 : RV w0 v1 x1) {F : Nat} {r : Bool} (hF : law01_longs F x0 x1 = some r) :
    Calls Try.prog 24 [v0, v1].toArray w0 (Ret fun v w' => v = .bool r ∧ Ext w0 w') := by
  unfold law01_longs at hF
  have hz := r0.sl; obtain ⟨a1, cq1, rfl, -, -, -⟩ := hz
  have hz := r1.sl; obtain ⟨a2, cq2, rfl, -, -, -⟩ := hz
  refine entr (n := 26) Try.func24 rfl rfl rfl <| wp_seq <| rg <| vl rfl rfl xas <| nl <| wp_seq <| wp_seq <| rg <| vl rfl rfl xmv <| vl rfl rfl (xlen rfl Try.underlying32) <| vl rfl rfl xmv <| vl rfl rfl (xlen rfl Try.underlying32) <| vl rfl rfl (xneq rfl rfl) <| nl <| cnd rfl (fun h3 => ?_) (fun h3 => ?_)
  ·
    have hF := ifp hF h3
    refine wp_seq <| rg <| vl rfl rfl xas <| nl <| ?_
    cases hF
    exact wp_ret <| rt rfl (.tmp rfl rfl .nil) ⟨rfl, (Ext.refl _)⟩
  ·
    have hF := ifn hF h3
    refine wp_skip <| wp_seq <| wp_seq <| rg <| vl rfl rfl xas <| nl <| ?_
    have hz := bs hF; obtain ⟨o1, hB1, hF⟩ := hz
    refine ct (fun L w => o1 = .inr () ∧ Ext w0 w) ?_ ?_
    ·
      refine wp_block <| lp (I := fun m L w => ∃ y1 : Int, law01_longs_l1 F x0 x1 m y1  = some o1 ∧ L 5 = .int .i64 y1 ∧ L 0 = .slice a1 x0.length cq1 ∧ L 1 = .slice a2 x1.length cq2 ∧ Ext w0 w) F ⟨_, hB1, rfl, rfl, rfl, (Ext.refl _)⟩ ?_
      rintro m L w1 ⟨y1, hB1, l5_i1, l0_i1, l1_i1, K0_i1⟩
      rcases m with _ | m
      · rw [law01_longs_l1] at hB1; cases hB1
      rw [law01_longs_l1] at hB1
      have r3 := r0.ext K0_i1
      have r4 := r1.ext K0_i1
      refine wp_seq <| wp_seq <| rg <| vl rfl rfl xmv <| vl rfl rfl xmv <| vl rfl rfl (xlen l0_i1 Try.underlying32) <| vl rfl rfl (xlss l5_i1 rfl) <| nl <| cnd rfl (fun h4 => ?_) (fun h4 => ?_)
      ·
        have hB1 := ifp hB1 h4
        refine wp_skip <| wp_seq <| wp_block <| wp_seq <| wpl [] (.pure true 0 (.pure true 1 (.pure true 2 (.pure false 3 (.pure true 4 (.pure true 5 (.pure true 6 (.pure false 7 (.pure true 8 .fin))))))))) mixed (by kernel_rfl) (fun w2 hx1 => ?_)
        have k1 := K0_i1.tr hx1
        have r5 := r3.ext hx1
        have r6 := r4.ext hx1
        refine pv rfl rfl rfl (fun _ _ => xmv) (.inl rfl) <| pv rfl rfl rfl (fun _ _ => xmv) (.inl rfl) <| ?_
        have hz := bs hB1; obtain ⟨x3, Ex3, hB1⟩ := hz
        have hz := (RV.els r0).ix Ex3; obtain ⟨b3, f1, cs3, e1, i2, i3, q3, hc1⟩ := hz
        cases e1
        obtain rfl := q3
        have hc2 := hc1.ext k1
        refine pv rfl rfl rfl (fun _ _ => xixs l0_i1 l5_i1 Try.underlying32 ti2 i2 i3) (.inl rfl) <| pv rfl rfl rfl (fun _ hS => xld rfl ti2 ((hc2.ext (hS.resolve_left nofun)).at 0 rfl)) (.inr (Ext.refl _)) <| pv rfl rfl rfl (fun _ _ => xmv) (.inl rfl) <| pv rfl rfl rfl (fun _ _ => xmv) (.inl rfl) <| ?_
        have hz := bs hB1; obtain ⟨x4, Ex4, hB1⟩ := hz
        have hz := (RV.els r1).ix Ex4; obtain ⟨b4, f2, cs4, e2, i4, i5, q4, hc3⟩ := hz
        cases e2
        obtain rfl := q4
        have hc4 := hc3.ext k1
        refine pv rfl rfl rfl (fun _ _ => xixs l1_i1 l5_i1 Try.underlying32 ti2 i4 i5) (.inl rfl) <| pv rfl rfl rfl (fun _ hS => xld rfl ti2 ((hc4.ext (hS.resolve_left nofun)).at 0 rfl)) (.inr (Ext.refl _)) <| pv rfl rfl rfl (fun _ _ => xneq rfl rfl) (.inl rfl) <| cnd rfl (fun h5 => ?_) (fun h5 => ?_)
        ·
          have hB1 := ifp hB1 h5
          refine wp_seq <| rg <| vl rfl rfl xas <| nl <| ?_
          cases hB1
          have hF := (show some _ = some _ from hF); cases hF
          exact wp_ret <| rt rfl (.tmp rfl rfl .nil) ⟨rfl, k1⟩
        ·
          have hB1 := ifn hB1 h5
          refine wp_skip <| rg <| vl rfl rfl xmv <| vl rfl rfl (xadd l5_i1 rfl) <| vl rfl rfl xas <| nl <| ?_
          refine lq m (Nat.lt_succ_self _) <| ?_
          exact ⟨_, hB1, rfl, l0_i1, l1_i1, k1⟩
      ·
        have hB1 := ifn hB1 h4
        refine wp_exit <| ?_
        cases hB1
        refine lf <| ?_
        exact ⟨rfl, K0_i1⟩
    rintro L w3 ⟨rfl, K0_j1⟩
    refine wp_seq <| rg <| vl rfl rfl xas <| nl <| ?_
    cases hF
    exact wp_ret <| rt rfl (.tmp rfl rfl .nil) ⟨rfl, K0_j1⟩

set_option maxHeartbeats 4000000 in
theorem c62 {w0 : World} {v0 : Value} {x0 : (Int × (List (Int × Int × Int)))} (r0 : RV w0 v0 x0) {F : Nat} {r : (List (Int × Int × Int))} (hF : ref01_All F x0 = some r) :
    Calls Try.prog 62 [v0].toArray w0 (Ret fun v w' => ∃ u0 : Value, v = u0 ∧ RV w' u0 r ∧ Ext w0 w') := by
  unfold ref01_All at hF
  have hz := id r0; obtain ⟨_, rfl, ⟨_, _, rfl, rfl, ⟨a1, cq1, rfl, p1, q2, e1⟩⟩⟩ := hz
  have r2 := RV.of1 p1 q2 e1
  refine entr (n := 23) Try.func62 rfl rfl rfl <| wp_seq <| rg <| sbx rfl rfl fun b2 w1 hx1 hg1 hb1 => ?_
  have r3 := r2.ext hx1
  have r4 := r0.ext hx1
  refine vl rfl rfl xas <| nl <| wp_seq <| rg <| sbsv (cs := []) Try.underlying22 ti56 rfl pn rfl rfl rfl rfl rfl fun b3 w2 hx2 hg2 hb2 => ?_
  have k1 := hx1.tr hx2
  have hb3 := hb1.ext hx2
  have r5 := r3.ext hx2
  have o1 : Row (α := (Int × Int × Int)) 56 w1.heap.size w2 (.slice (some ⟨b3, 0, none⟩) 0 0) [] := Row.lit hg2 hb2 rfl (ble rfl)
  refine vl rfl rfl (xfa rfl fa24_1) <| vl rfl rfl (xld rfl ti22 ((Bx.cs hb3).at 1 rfl)) <| ?_
  have hz := bs hF; obtain ⟨x2, Ex2, hF⟩ := hz
  refine sapx (l := ([] : List (Int × Int × Int))) (k := x0.2) rfl rfl Try.underlying22 ti56 rfl rfl o1 (RV.els r5) Ex2 hx2.size fun v2 w3 o2 hB1 hgr1 how1 => ?_
  have k2 := Ext.grow k1 hx1.size hB1
  have k3 : Ext w1 w3 := hx2.trans hB1
  have hb4 := hb1.ext k3
  have r7 := r3.ext k3
  have hz := RV.sl o2.rv; obtain ⟨a2, cq2, rfl, -, -, -⟩ := hz
  refine vl rfl rfl xas <| nl <| wp_seq <| wp_seq <| rg <| vl rfl rfl xas <| nl <| ?_
  have hz := bs hF; obtain ⟨z1, hB2, hF⟩ := hz
  refine ct (fun L w => ∃ v4 : Value, L 3 = v4 ∧ Row 56 w1.heap.size w v4 z1 ∧ Ext w1 w) ?_ ?_
  ·
    refine wp_block <| lp (I := fun m L w => ∃ y1 : (List (Int × Int × Int)), ∃ y2 : Int, ∃ v3 : Value, ref01_All_l1 F x0 m y1 y2  = some z1 ∧ L 3 = v3 ∧ Row 56 w1.heap.size w v3 y1 ∧ L 4 = .int .i64 y2 ∧ L 1 = .pointer (some ⟨b2, 0, none⟩) ∧ Ext w1 w) F ⟨_, _, _, hB2, rfl, o2, rfl, rfl, k3⟩ ?_
    rintro m L w4 ⟨y1, y2, v3, hB2, l3_i1, O3_i1, l4_i1, l1_i1, K0_i1⟩
    rcases m with _ | m
    · rw [ref01_All_l1] at hB2; cases hB2
    rw [ref01_All_l1] at hB2
    have k4 := hx1.tr K0_i1
    have r8 := r3.ext K0_i1
    have hb5 := hb1.ext K0_i1
    have hz := RV.sl O3_i1.rv; obtain ⟨a3, cq3, rfl, -, -, -⟩ := hz
    refine wp_seq <| wp_seq <| rg <| vl rfl rfl xmv <| vl rfl rfl (xfa l1_i1 fa24_0) <| vl rfl rfl (xld rfl ti3 ((Bx.cs hb5).at 0 rfl)) <| vl rfl rfl (xleq l4_i1 rfl) <| nl <| cnd rfl (fun h2 => ?_) (fun h2 => ?_)
    ·
      have hB2 := ifp hB2 h2
      refine wp_skip <| wp_seq <| wp_block <| rg <| vl rfl rfl xmv <| vl rfl rfl xmv <| vl rfl rfl (xbdv (r := [.int .i64 0, .int .i64 y2, .int .i64 100000]) ti56 sp56 (pc rfl (pc l4_i1 (pc rfl pn))) rfl) <| vl rfl rfl xmv <| vl rfl rfl (xbdv (r := [.int .i64 y2, .int .i64 0, .int .i64 0]) ti56 sp56 (pc l4_i1 (pc rfl (pc rfl pn))) rfl) <| sbsv (cs := [.int .i64 0, .int .i64 y2, .int .i64 100000, .int .i64 y2, .int .i64 0, .int .i64 0]) Try.underlying22 ti56 rfl (pc rfl (pc rfl pn)) rfl rfl rfl rfl rfl fun b4 w5 hx3 hg3 hb6 => ?_
      have k5 := k4.tr hx3
      have k6 := K0_i1.tr hx3
      have hb7 := hb5.ext hx3
      have r9 := r8.ext hx3
      have O1 := O3_i1.ext hx3
      have o4 : Row (α := (Int × Int × Int)) 56 w4.heap.size w5 (.slice (some ⟨b4, 0, none⟩) 2 2) [(0, y2, 100000), (y2, 0, 0)] := Row.lit hg3 hb6 rfl (ble rfl)
      have hz := bs hB2; obtain ⟨x3, Ex3, hB2⟩ := hz
      refine sapx (l := y1) (k := ([(0, y2, 100000), (y2, 0, 0)] : List (Int × Int × Int))) l3_i1 rfl Try.underlying22 ti56 rfl rfl O1 (RV.els o4.rv) Ex3 k6.size fun v5 w6 o5 hB4 hgr2 how2 => ?_
      have k7 := Ext.grow k5 hx1.size hB4
      have k8 : Ext w1 w6 := k6.trans hB4
      have hb8 := hb1.ext k8
      have r11 := r3.ext k8
      have hz := RV.sl o5.rv; obtain ⟨a4, cq4, rfl, -, -, -⟩ := hz
      refine vl rfl rfl xas <| nl <| rg <| vl rfl rfl xmv <| vl rfl rfl (xadd l4_i1 rfl) <| vl rfl rfl xas <| nl <| ?_
      refine lq m (Nat.lt_succ_self _) <| ?_
      exact ⟨_, _, _, hB2, rfl, o5, rfl, l1_i1, k8⟩
    ·
      have hB2 := ifn hB2 h2
      refine wp_exit <| ?_
      cases hB2
      refine lf <| ?_
      exact ⟨_, l3_i1, O3_i1, K0_i1⟩
  rintro L w7 ⟨v4, l3_j1, O3_j1, K0_j1⟩
  have k9 := hx1.tr K0_j1
  have hz := RV.sl O3_j1.rv; obtain ⟨a5, cq5, rfl, -, -, -⟩ := hz
  refine wp_seq <| rg <| vl rfl rfl xmv <| vl rfl rfl xas <| nl <| ?_
  cases hF
  exact wp_ret <| rt rfl (.tmp l3_j1 rfl .nil) ⟨_, rfl, O3_j1.rv, k9⟩

set_option maxHeartbeats 4000000 in
theorem c61 {w0 : World} {v0 : Value} {x0 : (Int × (List (Int × Int × Int)))} (r0 : RV w0 v0 x0) {v1 : Value} {x1 : (List Int)} (r1 : RV w0 v1 x1) {F : Nat} {r : (Int × Int)} (hF : ref01_chain F x0 x1 = some r) :
    Calls Try.prog 61 [v0, v1].toArray w0 (Ret fun v w' => v = .tuple #[.int .i64 r.1, .int .i64 r.2] ∧ Ext w0 w') := by
  unfold ref01_chain at hF
  have hz := id r0; obtain ⟨_, rfl, ⟨_, _, rfl, rfl, ⟨a1, cq1, rfl, p1, q3, e1⟩⟩⟩ := hz
  have r3 := RV.of1 p1 q3 e1
  have hz := r1.sl; obtain ⟨a2, cq2, rfl, -, -, -⟩ := hz
  refine entr (n := 71) Try.func61 rfl rfl rfl <| wp_seq <| rg <| sbx rfl rfl fun b3 w1 hx1 hg1 hb1 => ?_
  have r4 := r1.ext hx1
  have r5 := r3.ext hx1
  have r6 := r0.ext hx1
  refine vl rfl rfl xas <| vl rfl rfl xas <| nl <| wp_seq <| rg <| vl rfl rfl (xlda rfl ti24 rfl (Bx.cs hb1)) <| ?_
  have hz := bs hF; obtain ⟨x3, Ex3, hF⟩ := hz
  refine cl rfl rfl (xc cb62 (mc rfl mn)) (c62 (show RV (α := (Int × (List (Int × Int × Int)))) _ (.agg [.int .i64 x0.1, .slice a1 x0.2.length cq1].toArray) (x0.1, x0.2) from ⟨_, rfl, ⟨[.int .i64 x0.1], [.slice a1 x0.2.length cq1], rfl, rfl, r5.rep1⟩⟩) Ex3) ?_
  rintro _ w2 ⟨u1, rfl, r7, hx2⟩
  have k1 := hx1.tr hx2
  have r8 := r4.ext hx2
  have hz := RV.sl r7; obtain ⟨a3, cq3, rfl, -, -, -⟩ := hz
  refine vl rfl rfl xas <| nl <| wp_seq <| wp_seq <| rg <| vl rfl rfl xas <| nl <| ?_
  have hz := bs hF; obtain ⟨o1, hB1, hF⟩ := hz
  refine ct (fun L w => o1 = .inr () ∧ L 1 = .slice a2 x1.length cq2 ∧ L 6 = .slice a3 x3.length cq3 ∧ Ext w2 w) ?_ ?_
  ·
    refine wp_block <| lp (I := fun m L w => ∃ y1 : Int, ref01_chain_l1 F x1 x3 m y1  = some o1 ∧ L 7 = .int .i64 y1 ∧ L 1 = .slice a2 x1.length cq2 ∧ L 6 = .slice a3 x3.length cq3 ∧ Ext w2 w) F ⟨_, hB1, rfl, rfl, rfl, (Ext.refl _)⟩ ?_
    rintro m L w3 ⟨y1, hB1, l7_i1, l1_i1, l6_i1, K0_i1⟩
    rcases m with _ | m
    · rw [ref01_chain_l1] at hB1; cases hB1
    rw [ref01_chain_l1] at hB1
    have k2 := k1.tr K0_i1
    have r9 := r8.ext K0_i1
    have r10 := r7.ext K0_i1
    refine wp_seq <| wp_seq <| rg <| vl rfl rfl xmv <| vl rfl rfl xmv <| vl rfl rfl (xlen l1_i1 Try.underlying36) <| vl rfl rfl (xlss l7_i1 rfl) <| nl <| cnd rfl (fun h3 => ?_) (fun h3 => ?_)
    ·
      have hB1 := ifp hB1 h3
      refine wp_skip <| wp_seq <| wp_block <| wp_seq <| ?_
      have hz := bs hB1; obtain ⟨y2, hB3, hB1⟩ := hz
      refine ct (fun L w => L 31 = .bool y2 ∧ L 1 = .slice a2 x1.length cq2 ∧ L 6 = .slice a3 x3.length cq3 ∧ L 7 = .int .i64 y1 ∧ Ext w3 w) ?_ ?_
      ·
        refine rg <| vl rfl rfl xmv <| vl rfl rfl xmv <| ?_
        have hz := bs hB3; obtain ⟨x5, Ex5, hB3⟩ := hz
        have hz := (RV.els r1).ix Ex5; obtain ⟨b5, f2, cs4, e3, i4, i5, q5, hc3⟩ := hz
        cases e3
        obtain rfl := q5
        have hc4 := hc3.ext k2
        refine vl rfl rfl (xixs l1_i1 l7_i1 Try.underlying36 ti3 i4 i5) <| vl rfl rfl (xld rfl ti3 (hc4.at 0 rfl)) <| vl rfl rfl (xlss rfl rfl) <| vl rfl rfl xmv <| ?_
        refine Or.elim (Bool.eq_false_or_eq_true (decide (x5 < 0))) (fun h4 => ?_) (fun h4 => ?_)
        ·
          have hB3 := ifp hB3 h4
          refine gfk rfl rfl rfl rfl rfl (btf h4) rfl <| gfk rfl rfl rfl rfl rfl (btf h4) rfl <| gfk rfl rfl rfl rfl rfl (btf h4) rfl <| gfk rfl rfl rfl rfl rfl (btf h4) rfl <| gfk rfl rfl rfl rfl rfl (btf h4) rfl <| gfk rfl rfl rfl rfl rfl (btf h4) rfl <| gfk rfl rfl rfl rfl rfl (btf h4) rfl <| vl rfl rfl (xpt rfl h4 rfl) <| nl <| ?_
          cases hB3
          refine lf <| ?_
          exact ⟨rfl, l1_i1, l6_i1, l7_i1, (Ext.refl _)⟩
        ·
          have hB3 := ifn hB3 h4
          refine gtk rfl rfl rfl rfl rfl (bf h4) <| vl rfl rfl xmv <| gtk rfl rfl rfl rfl rfl (bf h4) <| vl rfl rfl xmv <| ?_
          have hz := bs hB3; obtain ⟨x6, Ex6, hB3⟩ := hz
          have hz := ix2 r1 Ex6; obtain ⟨cs5, i6, i7, q6, hc5⟩ := hz
          obtain rfl := q6
          have hc6 := hc5.ext k2
          refine gtk rfl rfl rfl rfl rfl (bf h4) <| vl rfl rfl (xixs l1_i1 l7_i1 Try.underlying36 ti3 i6 i7) <| gtk rfl rfl rfl rfl rfl (bf h4) <| vl rfl rfl (xld rfl ti3 (hc6.at 0 rfl)) <| gtk rfl rfl rfl rfl rfl (bf h4) <| vl rfl rfl xmv <| gtk rfl rfl rfl rfl rfl (bf h4) <| vl rfl rfl (xlen l6_i1 Try.underlying22) <| gtk rfl rfl rfl rfl rfl (bf h4) <| vl rfl rfl (xgeq rfl rfl) <| vl rfl rfl (xpf rfl h4 rfl) <| nl <| ?_
          cases hB3
          refine lf <| ?_
          exact ⟨rfl, l1_i1, l6_i1, l7_i1, (Ext.refl _)⟩
      rintro L w4 ⟨l31_j1, l1_j1, l6_j1, l7_j1, K0_j1⟩
      have k3 := k2.tr K0_j1
      have k4 := K0_i1.tr K0_j1
      have r11 := r9.ext K0_j1
      have r12 := r10.ext K0_j1
      refine cnd l31_j1 (fun h5 => ?_) (fun h5 => ?_)
      ·
        have hB1 := ifp hB1 h5
        refine wp_seq <| rg <| vl rfl rfl xas <| vl rfl rfl xas <| nl <| ?_
        cases hB1
        have hF := (show some _ = some _ from hF); cases hF
        exact wp_ret <| rt rfl (.tmp rfl rfl (.tmp rfl rfl .nil)) ⟨rfl, k3⟩
      ·
        have hB1 := ifn hB1 h5
        refine wp_skip <| rg <| vl rfl rfl xmv <| vl rfl rfl (xadd l7_j1 rfl) <| vl rfl rfl xas <| nl <| ?_
        refine lq m (Nat.lt_succ_self _) <| ?_
        exact ⟨_, hB1, rfl, l1_j1, l6_j1, k4⟩
    ·
      have hB1 := ifn hB1 h3
      refine wp_exit <| ?_
      cases hB1
      refine lf <| ?_
      exact ⟨rfl, l1_i1, l6_i1, K0_i1⟩
  rintro L w5 ⟨rfl, l1_j2, l6_j2, K0_j2⟩
  have k5 := k1.tr K0_j2
  have r13 := r8.ext K0_j2
  have r14 := r7.ext K0_j2
  refine wp_seq <| rg <| vl rfl rfl xas <| nl <| wp_seq <| wp_seq <| rg <| vl rfl rfl xas <| nl <| ?_
  have hz := bs hF; obtain ⟨o2, hB7, hF⟩ := hz
  refine ct (fun L w => ∃ z1 : Int, o2 = .inr z1 ∧ L 8 = .int .i64 z1 ∧ Ext w5 w) ?_ ?_
  ·
    refine wp_block <| lp (I := fun m L w => ∃ y3 : Int, ∃ y4 : Int, ref01_chain_l2 F x1 x3 m y3 y4  = some o2 ∧ L 8 = .int .i64 y3 ∧ L 9 = .int .i64 y4 ∧ L 1 = .slice a2 x1.length cq2 ∧ L 6 = .slice a3 x3.length cq3 ∧ Ext w5 w) F ⟨_, _, hB7, rfl, rfl, l1_j2, l6_j2, (Ext.refl _)⟩ ?_
    rintro m L w6 ⟨y3, y4, hB7, l8_i8, l9_i8, l1_i8, l6_i8, K0_i8⟩
    rcases m with _ | m
    · rw [ref01_chain_l2] at hB7; cases hB7
    rw [ref01_chain_l2] at hB7
    have k6 := k5.tr K0_i8
    have k7 := K0_j2.tr K0_i8
    have r15 := r13.ext K0_i8
    have r16 := r14.ext K0_i8
    refine wp_seq <| wp_seq <| rg <| vl rfl rfl xmv <| vl rfl rfl xmv <| vl rfl rfl (xlen l1_i8 Try.underlying36) <| vl rfl rfl (xlss l9_i8 rfl) <| nl <| cnd rfl (fun h6 => ?_) (fun h6 => ?_)
    ·
      have hB7 := ifp hB7 h6
      refine wp_skip <| wp_seq <| wp_block <| wp_seq <| wp_seq <| ?_
      have hz := bs hB7; obtain ⟨y5, hB9, hB7⟩ := hz
      refine ct (fun L w => L 59 = .bool y5 ∧ L 1 = .slice a2 x1.length cq2 ∧ L 6 = .slice a3 x3.length cq3 ∧ L 8 = .int .i64 y3 ∧ L 9 = .int .i64 y4 ∧ Ext w6 w) ?_ ?_
      ·
        refine wpl [] (.pure true 0 (.pure true 1 (.pure true 2 (.pure true 3 (.pure true 4 (.pure true 5 (.pure true 6 (.pure false 7 (.pure true 8 (.pure true 9 (.pure false 10 (.pure true 11 (.pure true 12 (.pure true 13 (.pure true 14 (.pure true 15 (.pure false 16 (.pure true 17 (.pure true 18 (.pure false 19 (.pure true 20 (.pure true 21 .fin)))))))))))))))))))))) mixed (by kernel_rfl) (fun w8 hx4 => ?_)
        have k11 := k6.tr hx4
        have k12 := k7.tr hx4
        have k13 := K0_i8.tr hx4
        have r19 := r15.ext hx4
        have r20 := r16.ext hx4
        refine pv rfl rfl rfl (fun _ _ => xmv) (.inl rfl) <| pv rfl rfl rfl (fun _ _ => xgtr l9_i8 rfl) (.inl rfl) <| pv rfl rfl rfl (fun _ _ => xmv) (.inl rfl) <| ?_
        refine Or.elim (Bool.eq_false_or_eq_true (decide (0 < y4))) (fun h7 => ?_) (fun h7 => ?_)
        ·
          have hB9 := ifp hB9 h7
          refine pvt rfl rfl rfl rfl rfl rfl (bt h7) rfl (fun _ _ => xmv) (.inl rfl) <| pvt rfl rfl rfl rfl rfl rfl (bt h7) rfl (fun _ _ => xmv) (.inl rfl) <| pvt rfl rfl rfl rfl rfl rfl (bt h7) rfl (fun _ _ => xmv) (.inl rfl) <| ?_
          have hz := bs hB9; obtain ⟨x7, Ex7, hB9⟩ := hz
          have hz := (RV.els r1).ix Ex7; obtain ⟨b6, f3, cs6, e4, i9, i10, q7, hc7⟩ := hz
          cases e4
          obtain rfl := q7
          have hc8 := hc7.ext k11
          refine pvt rfl rfl rfl rfl rfl rfl (bt h7) rfl (fun _ _ => xixs l1_i8 l9_i8 Try.underlying36 ti3 i9 i10) (.inl rfl) <| pvt rfl rfl rfl rfl rfl rfl (bt h7) rfl (fun _ hS => xld rfl ti3 ((hc8.ext (hS.resolve_left nofun)).at 0 rfl)) (.inr (Ext.refl _)) <| ?_
          have hz := bs hB9; obtain ⟨x8, Ex8, hB9⟩ := hz
          have hz := (RV.els r7).ix Ex8; obtain ⟨b7, f4, cs7, e5, i11, i12, q8, hc9⟩ := hz
          cases e5
          obtain ⟨_, _, rfl, rfl, ⟨_, _, rfl, rfl, rfl⟩⟩ := q8
          have hc10 := hc9.ext k12
          refine pvt rfl rfl rfl rfl rfl rfl (bt h7) rfl (fun _ _ => xixs l6_i8 rfl Try.underlying22 ti56 i11 i12) (.inl rfl) <| pvt rfl rfl rfl rfl rfl rfl (bt h7) rfl (fun _ _ => xfa rfl fa56_0) (.inl rfl) <| pvt rfl rfl rfl rfl rfl rfl (bt h7) rfl (fun _ hS => xld rfl ti3 ((hc10.ext (hS.resolve_left nofun)).at 0 rfl)) (.inr (Ext.refl _)) <| pvt rfl rfl rfl rfl rfl rfl (bt h7) rfl (fun _ _ => xmv) (.inl rfl) <| pvt rfl rfl rfl rfl rfl rfl (bt h7) rfl (fun _ _ => xmv) (.inl rfl) <| pvt rfl rfl rfl rfl rfl rfl (bt h7) rfl (fun _ _ => xmv) (.inl rfl) <| pvt rfl rfl rfl rfl rfl rfl (bt h7) rfl (fun _ _ => xsub l9_i8 rfl) (.inl rfl) <| ?_
          have hz := bs hB9; obtain ⟨x9, Ex9, hB9⟩ := hz
          have hz := ix2 r1 Ex9; obtain ⟨cs8, i13, i14, q9, hc11⟩ := hz
          obtain rfl := q9
          have hc12 := hc11.ext k11
          refine pvt rfl rfl rfl rfl rfl rfl (bt h7) rfl (fun _ _ => xixs l1_i8 rfl Try.underlying36 ti3 i13 i14) (.inl rfl) <| pvt rfl rfl rfl rfl rfl rfl (bt h7) rfl (fun _ hS => xld rfl ti3 ((hc12.ext (hS.resolve_left nofun)).at 0 rfl)) (.inr (Ext.refl _)) <| ?_
          have hz := bs hB9; obtain ⟨x10, Ex10, hB9⟩ := hz
          have hz := ix2 r7 Ex10; obtain ⟨cs9, i15, i16, q10, hc13⟩ := hz
          obtain ⟨_, _, rfl, rfl, ⟨_, _, rfl, rfl, rfl⟩⟩ := q10
          have hc14 := hc13.ext k12
          refine pvt rfl rfl rfl rfl rfl rfl (bt h7) rfl (fun _ _ => xixs l6_i8 rfl Try.underlying22 ti56 i15 i16) (.inl rfl) <| pvt rfl rfl rfl rfl rfl rfl (bt h7) rfl (fun _ _ => xfa rfl fa56_1) (.inl rfl) <| pvt rfl rfl rfl rfl rfl rfl (bt h7) rfl (fun _ hS => xld rfl ti3 ((hc14.ext (hS.resolve_left nofun)).at 1 rfl)) (.inr (Ext.refl _)) <| pvt rfl rfl rfl rfl rfl rfl (bt h7) rfl (fun _ _ => xneq rfl rfl) (.inl rfl) <| pv rfl rfl rfl (fun _ _ => xpt rfl h7 rfl) (.inl rfl) <| ?_
          cases hB9
          refine lf <| ?_
          exact ⟨rfl, l1_i8, l6_i8, l8_i8, l9_i8, hx4⟩
        ·
          have hB9 := ifn hB9 h7
          refine pvf rfl rfl rfl rfl rfl rfl (bft h7) rfl (.inl rfl) <| pvf rfl rfl rfl rfl rfl rfl (bft h7) rfl (.inl rfl) <| pvf rfl rfl rfl rfl rfl rfl (bft h7) rfl (.inl rfl) <| pvf rfl rfl rfl rfl rfl rfl (bft h7) rfl (.inl rfl) <| pvf rfl rfl rfl rfl rfl rfl (bft h7) rfl (.inr (Ext.refl _)) <| pvf rfl rfl rfl rfl rfl rfl (bft h7) rfl (.inl rfl) <| pvf rfl rfl rfl rfl rfl rfl (bft h7) rfl (.inl rfl) <| pvf rfl rfl rfl rfl rfl rfl (bft h7) rfl (.inr (Ext.refl _)) <| pvf rfl rfl rfl rfl rfl rfl (bft h7) rfl (.inl rfl) <| pvf rfl rfl rfl rfl rfl rfl (bft h7) rfl (.inl rfl) <| pvf rfl rfl rfl rfl rfl rfl (bft h7) rfl (.inl rfl) <| pvf rfl rfl rfl rfl rfl rfl (bft h7) rfl (.inl rfl) <| pvf rfl rfl rfl rfl rfl rfl (bft h7) rfl (.inl rfl) <| pvf rfl rfl rfl rfl rfl rfl (bft h7) rfl (.inr (Ext.refl _)) <| pvf rfl rfl rfl rfl rfl rfl (bft h7) rfl (.inl rfl) <| pvf rfl rfl rfl rfl rfl rfl (bft h7) rfl (.inl rfl) <| pvf rfl rfl rfl rfl rfl rfl (bft h7) rfl (.inr (Ext.refl _)) <| pvf rfl rfl rfl rfl rfl rfl (bft h7) rfl (.inl rfl) <| pv rfl rfl rfl (fun _ _ => xpf rfl h7 rfl) (.inl rfl) <| ?_
          cases hB9
          refine lf <| ?_
          exact ⟨rfl, l1_i8, l6_i8, l8_i8, l9_i8, hx4⟩
      rintro L w9 ⟨l59_j3, l1_j3, l6_j3, l8_j3, l9_j3, K0_j3⟩
      have k14 := k6.tr K0_j3
      have k15 := k7.tr K0_j3
      have k16 := K0_i8.tr K0_j3
      have r21 := r15.ext K0_j3
      have r22 := r16.ext K0_j3
      refine cnd l59_j3 (fun h8 => ?_) (fun h8 => ?_)
      ·
        have hB7 := ifp hB7 h8
        refine wp_seq <| rg <| vl rfl rfl xas <| vl rfl rfl xas <| nl <| ?_
        cases hB7
        have hF := (show some _ = some _ from hF); cases hF
        exact wp_ret <| rt rfl (.tmp rfl rfl (.tmp rfl rfl .nil)) ⟨rfl, k14⟩
      ·
        have hB7 := ifn hB7 h8
        refine wp_skip <| rg <| vl rfl rfl xmv <| vl rfl rfl xmv <| vl rfl rfl xmv <| vl rfl rfl xmv <| ?_
        have hz := bs hB7; obtain ⟨x11, Ex11, hB7⟩ := hz
        have hz := (RV.els r1).ix Ex11; obtain ⟨b8, f5, cs10, e6, i17, i18, q11, hc15⟩ := hz
        cases e6
        obtain rfl := q11
        have hc16 := hc15.ext k14
        refine vl rfl rfl (xixs l1_j3 l9_j3 Try.underlying36 ti3 i17 i18) <| vl rfl rfl (xld rfl ti3 (hc16.at 0 rfl)) <| ?_
        have hz := bs hB7; obtain ⟨x12, Ex12, hB7⟩ := hz
        have hz := (RV.els r7).ix Ex12; obtain ⟨b9, f6, cs11, e7, i19, i20, q12, hc17⟩ := hz
        cases e7
        obtain ⟨_, _, rfl, rfl, ⟨_, _, rfl, rfl, rfl⟩⟩ := q12
        have hc18 := hc17.ext k15
        refine vl rfl rfl (xixs l6_j3 rfl Try.underlying22 ti56 i19 i20) <| vl rfl rfl (xfa rfl fa56_2) <| vl rfl rfl (xld rfl ti2 (hc18.at 2 rfl)) <| vl rfl rfl (xadd l8_j3 rfl) <| vl rfl rfl xas <| nl <| rg <| vl rfl rfl xmv <| vl rfl rfl (xadd l9_j3 rfl) <| vl rfl rfl xas <| nl <| ?_
        refine lq m (Nat.lt_succ_self _) <| ?_
        exact ⟨_, _, hB7, rfl, rfl, l1_j3, l6_j3, k16⟩
    ·
      have hB7 := ifn hB7 h6
      refine wp_exit <| ?_
      cases hB7
      refine lf <| ?_
      exact ⟨_, rfl, l8_i8, K0_i8⟩
  rintro L w10 ⟨z1, rfl, l8_j4, K0_j4⟩
  have k17 := k5.tr K0_j4
  have k18 := K0_j2.tr K0_j4
  refine wp_seq <| rg <| vl rfl rfl xmv <| vl rfl rfl xas <| vl rfl rfl xas <| nl <| ?_
  cases hF
  exact wp_ret <| rt rfl (.tmp l8_j4 rfl (.tmp rfl rfl .nil)) ⟨rfl, k17⟩

set_option maxHeartbeats 4000000 in
theorem c25 {w0 : World} {v0 : Value} {x0 : (Int × (List (Int × Int × Int)))} (r0 : RV w0 v0 x0) {x1 : Int} {x2 : Int} {v3 : Value} {x3 : (List Int)} (r3 : RV w0 v3 x3) {F : Nat} {r : (Int × Int)} (hF : ref01_CheckWay F x0 x1 x2 x3 = some r) :
    Calls Try.prog 25 [v0, .int .i64 x1, .int .i64 x2, v3].toArray w0 (Ret fun v w' => v = .tuple #[.int .i64 r.1, .int .i64 r.2] ∧ Ext w0 w') := by
  unfold ref01_CheckWay at hF
  have hz := id r0; obtain ⟨_, rfl, ⟨_, _, rfl, rfl, ⟨a1, cq1, rfl, p1, q5, e1⟩⟩⟩ := hz
  have r5 := RV.of1 p1 q5 e1
  have hz := r3.sl; obtain ⟨a2, cq2, rfl, -, -, -⟩ := hz
  refine entr (n := 80) Try.func25 rfl rfl rfl <| wp_seq <| rg <| sbx rfl rfl fun b5 w1 hx1 hg1 hb1 => ?_
  have r6 := r3.ext hx1
  have r7 := r5.ext hx1
  have r8 := r0.ext hx1
  refine vl rfl rfl xas <| vl rfl rfl xas <| nl <| wp_seq <| wp_seq <| rg <| vl rfl rfl (xlda rfl ti24 rfl (Bx.cs hb1)) <| ?_
  have hz := bs hF; obtain ⟨x5, Ex5, hF⟩ := hz
  refine cl rfl rfl (xc cb36 (mc rfl mn)) (c36 (show RV (α := (Int × (List (Int × Int × Int)))) _ (.agg [.int .i64 x0.1, .slice a1 x0.2.length cq1].toArray) (x0.1, x0.2) from ⟨_, rfl, ⟨[.int .i64 x0.1], [.slice a1 x0.2.length cq1], rfl, rfl, r7.rep1⟩⟩) Ex5) ?_
  rintro _ w2 ⟨rfl, hx2⟩
  have k1 := hx1.tr hx2
  have hb2 := hb1.ext hx2
  have r9 := r7.ext hx2
  have r10 := r6.ext hx2
  refine vl rfl rfl (xneq rfl rfl) <| nl <| cnd rfl (fun h5 => ?_) (fun h5 => ?_)
  ·
    have hF := ifp hF h5
    refine wp_seq <| rg <| vl rfl rfl (xlda rfl ti24 rfl (Bx.cs hb2)) <| ?_
    have hz := bs hF; obtain ⟨x6, Ex6, hF⟩ := hz
    refine cl rfl rfl (xc cb36 (mc rfl mn)) (c36 (show RV (α := (Int × (List (Int × Int × Int)))) _ (.agg [.int .i64 x0.1, .slice a1 x0.2.length cq1].toArray) (x0.1, x0.2) from ⟨_, rfl, ⟨[.int .i64 x0.1], [.slice a1 x0.2.length cq1], rfl, rfl, r9.rep1⟩⟩) Ex6) ?_
    rintro _ w3 ⟨rfl, hx3⟩
    have k2 := k1.tr hx3
    refine vl rfl rfl xas <| vl rfl rfl xas <| nl <| ?_
    cases hF
    exact wp_ret <| rt rfl (.tmp rfl rfl (.tmp rfl rfl .nil)) ⟨rfl, k2⟩
  ·
    have hF := ifn hF h5
    refine wp_skip <| wp_seq <| wp_seq <| rg <| vl rfl rfl xmv <| vl rfl rfl (xlss rfl rfl) <| vl rfl rfl xmv <| gv rfl rfl rfl rfl (gw0 rfl) rfl (fun hc => xmva rfl) <| gv rfl rfl rfl rfl (gw0 rfl) rfl (fun hc => xfa rfl fa24_0) <| gv rfl rfl rfl rfl (gw0 rfl) rfl (fun hc => xld (mv hc rfl) ti3 ((Bx.cs hb2).at 0 rfl)) <| gv rfl rfl rfl rfl (gw0 rfl) rfl (fun hc => xgtr (mv hc rfl) (mv hc rfl)) <| vl rfl rfl (xpo rfl rfl rfl) <| vl rfl rfl xmv <| gv rfl rfl rfl rfl (gw0 rfl) rfl (fun hc => xmva rfl) <| gv rfl rfl rfl rfl (gw0 rfl) rfl (fun hc => xlss (mv hc rfl) rfl) <| vl rfl rfl (xpo rfl rfl rfl) <| vl rfl rfl xmv <| gv rfl rfl rfl rfl (gw0 rfl) rfl (fun hc => xmva rfl) <| gv rfl rfl rfl rfl (gw0 rfl) rfl (fun hc => xfa rfl fa24_0) <| gv rfl rfl rfl rfl (gw0 rfl) rfl (fun hc => xld (mv hc rfl) ti3 ((Bx.cs hb2).at 0 rfl)) <| gv rfl rfl rfl rfl (gw0 rfl) rfl (fun hc => xgtr (mv hc rfl) (mv hc rfl)) <| vl rfl rfl (xpo rfl rfl rfl) <| nl <| cnd rfl (fun h6 => ?_) (fun h6 => ?_)
    ·
      have hF := ifp hF h6
      refine wp_seq <| rg <| vl rfl rfl xas <| vl rfl rfl xas <| nl <| ?_
      cases hF
      exact wp_ret <| rt rfl (.tmp rfl rfl (.tmp rfl rfl .nil)) ⟨rfl, k1⟩
    ·
      have hF := ifn hF h6
      refine wp_skip <| wp_seq <| wp_seq <| rg <| vl rfl rfl xmv <| vl rfl rfl (xlen rfl Try.underlying36) <| vl rfl rfl (xgtr rfl rfl) <| nl <| cnd rfl (fun h7 => ?_) (fun h7 => ?_)
      ·
        have hF := ifp hF h7
        refine wp_seq <| rg <| vl rfl rfl xas <| vl rfl rfl xas <| nl <| ?_
        cases hF
        exact wp_ret <| rt rfl (.tmp rfl rfl (.tmp rfl rfl .nil)) ⟨rfl, k1⟩
      ·
        have hF := ifn hF h7
        refine wp_skip <| wp_seq <| rg <| vl rfl rfl (xlda rfl ti24 rfl (Bx.cs hb2)) <| vl rfl rfl xmv <| ?_
        have hz := bs hF; obtain ⟨x7, Ex7, hF⟩ := hz
        refine cl rfl rfl (xc cb61 (mc rfl (mc rfl mn))) (c61 (show RV (α := (Int × (List (Int × Int × Int)))) _ (.agg [.int .i64 x0.1, .slice a1 x0.2.length cq1].toArray) (x0.1, x0.2) from ⟨_, rfl, ⟨[.int .i64 x0.1], [.slice a1 x0.2.length cq1], rfl, rfl, r9.rep1⟩⟩) r10 Ex7) ?_
        rintro _ w4 ⟨rfl, hx4⟩
        have k3 := k1.tr hx4
        have hb3 := hb2.ext hx4
        have r11 := r9.ext hx4
        have r12 := r10.ext hx4
        refine vl rfl rfl xmv <| vl rfl rfl (xext rfl rfl) <| vl rfl rfl (xext rfl rfl) <| vl rfl rfl xas <| vl rfl rfl xas <| nl <| wp_seq <| wp_seq <| rg <| vl rfl rfl xmv <| vl rfl rfl (xneq rfl rfl) <| nl <| cnd rfl (fun h8 => ?_) (fun h8 => ?_)
        ·
          have hF := ifp hF h8
          refine wp_seq <| rg <| vl rfl rfl xmv <| vl rfl rfl xas <| vl rfl rfl xas <| nl <| ?_
          cases hF
          exact wp_ret <| rt rfl (.tmp rfl rfl (.tmp rfl rfl .nil)) ⟨rfl, k3⟩
        ·
          have hF := ifn hF h8
          refine wp_skip <| wp_seq <| wp_seq <| rg <| vl rfl rfl xmv <| vl rfl rfl (xlen rfl Try.underlying36) <| vl rfl rfl (xeql rfl rfl) <| nl <| cnd rfl (fun h9 => ?_) (fun h9 => ?_)
          ·
            have hF := ifp hF h9
            refine wp_seq <| wp_seq <| rg <| vl rfl rfl xmv <| vl rfl rfl xmv <| vl rfl rfl (xneq rfl rfl) <| nl <| cnd rfl (fun h10 => ?_) (fun h10 => ?_)
            ·
              have hF := ifp hF h10
              refine wp_seq <| rg <| vl rfl rfl xas <| vl rfl rfl xas <| nl <| ?_
              cases hF
              exact wp_ret <| rt rfl (.tmp rfl rfl (.tmp rfl rfl .nil)) ⟨rfl, k3⟩
            ·
              have hF := ifn hF h10
              refine wp_skip <| wp_seq <| rg <| vl rfl rfl xas <| vl rfl rfl xas <| nl <| ?_
              cases hF
              exact wp_ret <| rt rfl (.tmp rfl rfl (.tmp rfl rfl .nil)) ⟨rfl, k3⟩
          ·
            have hF := ifn hF h9
            refine wp_skip <| wp_seq <| rg <| vl rfl rfl (xlda rfl ti24 rfl (Bx.cs hb3)) <| ?_
            have hz := bs hF; obtain ⟨x8, Ex8, hF⟩ := hz
            refine cl rfl rfl (xc cb62 (mc rfl mn)) (c62 (show RV (α := (Int × (List (Int × Int × Int)))) _ (.agg [.int .i64 x0.1, .slice a1 x0.2.length cq1].toArray) (x0.1, x0.2) from ⟨_, rfl, ⟨[.int .i64 x0.1], [.slice a1 x0.2.length cq1], rfl, rfl, r11.rep1⟩⟩) Ex8) ?_
            rintro _ w5 ⟨u1, rfl, r13, hx5⟩
            have k4 := k3.tr hx5
            have r14 := r12.ext hx5
            have hz := RV.sl r13; obtain ⟨a3, cq3, rfl, -, -, -⟩ := hz
            refine vl rfl rfl xas <| nl <| wp_seq <| wp_seq <| ?_
            have hz := bs hF; obtain ⟨y1, hB1, hF⟩ := hz
            refine ct (fun L w => L 78 = .bool y1 ∧ L 10 = .int .i64 x7.1 ∧ Ext w5 w) ?_ ?_
            ·
              refine rg <| vl rfl rfl xmv <| vl rfl rfl xmv <| ?_
              have hz := bs hB1; obtain ⟨x11, Ex11, hB1⟩ := hz
              have hz := (RV.els r3).ix Ex11; obtain ⟨b8, f3, cs7, e4, i5, i6, q8, hc4⟩ := hz
              cases e4
              obtain rfl := q8
              have hc5 := hc4.ext k4
              refine vl rfl rfl (xixs rfl rfl Try.underlying36 ti3 i5 i6) <| vl rfl rfl (xld rfl ti3 (hc5.at 0 rfl)) <| ?_
              have hz := bs hB1; obtain ⟨x12, Ex12, hB1⟩ := hz
              have hz := (RV.els r13).ix Ex12; obtain ⟨b9, f4, cs8, e5, i7, i8, q9, hc6⟩ := hz
              cases e5
              obtain ⟨_, _, rfl, rfl, ⟨_, _, rfl, rfl, rfl⟩⟩ := q9
              refine vl rfl rfl (xixs rfl rfl Try.underlying22 ti56 i7 i8) <| vl rfl rfl (xfa rfl fa56_0) <| vl rfl rfl (xld rfl ti3 (hc6.at 0 rfl)) <| vl rfl rfl xmv <| vl rfl rfl (xneq rfl rfl) <| vl rfl rfl xmv <| ?_
              refine Or.elim (Bool.eq_false_or_eq_true (!decide (x12.1 = x1))) (fun h11 => ?_) (fun h11 => ?_)
              ·
                have hB1 := ifp hB1 h11
                refine gfk rfl rfl rfl rfl rfl (btf h11) rfl <| gfk rfl rfl rfl rfl rfl (btf h11) rfl <| gfk rfl rfl rfl rfl rfl (btf h11) rfl <| gfk rfl rfl rfl rfl rfl (btf h11) rfl <| gfk rfl rfl rfl rfl rfl (btf h11) rfl <| gfk rfl rfl rfl rfl rfl (btf h11) rfl <| gfk rfl rfl rfl rfl rfl (btf h11) rfl <| gfk rfl rfl rfl rfl rfl (btf h11) rfl <| gfk rfl rfl rfl rfl rfl (btf h11) rfl <| gfk rfl rfl rfl rfl rfl (btf h11) rfl <| gfk rfl rfl rfl rfl rfl (btf h11) rfl <| gfk rfl rfl rfl rfl rfl (btf h11) rfl <| vl rfl rfl (xpt rfl h11 rfl) <| nl <| ?_
                cases hB1
                refine lf <| ?_
                exact ⟨rfl, rfl, (Ext.refl _)⟩
              ·
                have hB1 := ifn hB1 h11
                refine gtk rfl rfl rfl rfl rfl (bf h11) <| vl rfl rfl xmv <| gtk rfl rfl rfl rfl rfl (bf h11) <| vl rfl rfl xmv <| gtk rfl rfl rfl rfl rfl (bf h11) <| vl rfl rfl xmv <| gtk rfl rfl rfl rfl rfl (bf h11) <| vl rfl rfl (xlen rfl Try.underlying36) <| gtk rfl rfl rfl rfl rfl (bf h11) <| vl rfl rfl (xsub rfl rfl) <| ?_
                have hz := bs hB1; obtain ⟨x13, Ex13, hB1⟩ := hz
                have hz := ix2 r3 Ex13; obtain ⟨cs9, i9, i10, q10, hc7⟩ := hz
                obtain rfl := q10
                have hc8 := hc7.ext k4
                refine gtk rfl rfl rfl rfl rfl (bf h11) <| vl rfl rfl (xixs rfl rfl Try.underlying36 ti3 i9 i10) <| gtk rfl rfl rfl rfl rfl (bf h11) <| vl rfl rfl (xld rfl ti3 (hc8.at 0 rfl)) <| ?_
                have hz := bs hB1; obtain ⟨x14, Ex14, hB1⟩ := hz
                have hz := ix2 r13 Ex14; obtain ⟨cs10, i11, i12, q11, hc9⟩ := hz
                obtain ⟨_, _, rfl, rfl, ⟨_, _, rfl, rfl, rfl⟩⟩ := q11
                refine gtk rfl rfl rfl rfl rfl (bf h11) <| vl rfl rfl (xixs rfl rfl Try.underlying22 ti56 i11 i12) <| gtk rfl rfl rfl rfl rfl (bf h11) <| vl rfl rfl (xfa rfl fa56_1) <| gtk rfl rfl rfl rfl rfl (bf h11) <| vl rfl rfl (xld rfl ti3 (hc9.at 1 rfl)) <| gtk rfl rfl rfl rfl rfl (bf h11) <| vl rfl rfl xmv <| gtk rfl rfl rfl rfl rfl (bf h11) <| vl rfl rfl (xneq rfl rfl) <| vl rfl rfl (xpf rfl h11 rfl) <| nl <| ?_
                cases hB1
                refine lf <| ?_
                exact ⟨rfl, rfl, (Ext.refl _)⟩
            rintro L w6 ⟨l78_j1, l10_j1, K0_j1⟩
            have k5 := k4.tr K0_j1
            refine cnd l78_j1 (fun h12 => ?_) (fun h12 => ?_)
            ·
              have hF := ifp hF h12
              refine wp_seq <| rg <| vl rfl rfl xas <| vl rfl rfl xas <| nl <| ?_
              cases hF
              exact wp_ret <| rt rfl (.tmp rfl rfl (.tmp rfl rfl .nil)) ⟨rfl, k5⟩
            ·
              have hF := ifn hF h12
              refine wp_skip <| wp_seq <| rg <| vl rfl rfl xmv <| vl rfl rfl xas <| vl rfl rfl xas <| nl <| ?_
              cases hF
              exact wp_ret <| rt rfl (.tmp l10_j1 rfl (.tmp rfl rfl .nil)) ⟨rfl, k5⟩

set_option maxHeartbeats 4000000 in
theorem c58 {w0 : World} {v0 : Value} {x0 : (List Int)} (r0 : RV w0 v0 x0) {F : Nat} {r : Bool} (hF : speed_tone F x0 = some r) :
    Calls Try.prog 58 [v0].toArray w0 (Ret fun v w' => v = .bool r ∧ Ext w0 w') := by
  unfold speed_tone at hF
  have hz := r0.sl; obtain ⟨a1, cq1, rfl, -, -, -⟩ := hz
  refine entr (n := 5) Try.func58 rfl rfl rfl <| wp_seq <| rg <| vl rfl rfl xas <| nl <| wp_seq <| rg <| vl rfl rfl xmv <| ?_
  have hz := bs hF; obtain ⟨x2, Ex2, hF⟩ := hz
  refine cl rfl rfl (xc cb64 (mc rfl (mc rfl (mc rfl mn)))) (c64 r0 Ex2) ?_
  rintro _ w1 ⟨rfl, hx1⟩
  refine vl rfl rfl xas <| nl <| ?_
  cases hF
  exact wp_ret <| rt rfl (.tmp rfl rfl .nil) ⟨rfl, hx1⟩

set_option maxHeartbeats 4000000 in
theorem c63 {w0 : World} {x0 : Int} {x1 : Int} {r : Int} (hF : speed_up__int64 x0 x1 = some r) :
    Calls Try.prog 63 [.int .i64 x0, .int .i64 x1].toArray w0 (Ret fun v w' => v = .int .i64 r ∧ Ext w0 w') := by
  unfold speed_up__int64 at hF
  refine entr (n := 11) Try.func63 rfl rfl rfl <| wp_seq <| rg <| vl rfl rfl xas <| nl <| wp_seq <| rg <| vl rfl rfl xmv <| vl rfl rfl xmv <| vl rfl rfl (xadd rfl rfl) <| vl rfl rfl (xsub rfl rfl) <| vl rfl rfl xmv <| ?_
  have hz := bs hF; obtain ⟨x3, Ex3, hF⟩ := hz
  refine vl rfl rfl (xquov rfl rfl Ex3) <| vl rfl rfl xas <| nl <| ?_
  cases hF
  exact wp_ret <| rt rfl (.tmp rfl rfl .nil) ⟨rfl, (Ext.refl _)⟩

set_option maxHeartbeats 4000000 in
theorem c26 {w0 : World} {x0 : Int} {x1 : Int} {v2 : Value} {x2 : (Int × Int)} (r2 : RV w0 v2 x2) {F : Nat} {r : ((List (Int × Int × Int)) × Int)} (hF : speed_Pipe F x0 x1 x2 = some r) :
    Calls Try.prog 26 [.int .i64 x0, .int .i64 x1, v2].toArray w0 (Ret fun v w' => ∃ u0 : Value, v = .tuple #[u0, .int .i64 r.2] ∧ RV w' u0 r.1 ∧ Ext w0 w') := by
  unfold speed_Pipe at hF
  have hz := id r2; obtain ⟨_, rfl, ⟨_, _, rfl, rfl, rfl⟩⟩ := hz
  refine entr (n := 54) Try.func26 rfl rfl rfl <| wp_seq <| rg <| sbx rfl rfl fun b4 w1 hx1 hg1 hb1 => ?_
  have r4 := r2.ext hx1
  refine vl rfl rfl xas <| vl rfl rfl xas <| nl <| wp_seq <| wp_block <| wp_seq <| rg <| vl rfl rfl xmv <| sbsv (cs := [.int .i64 x0]) Try.underlying36 ti3 rfl (pc rfl pn) rfl rfl rfl rfl rfl fun b5 w2 hx2 hg2 hb2 => ?_
  have k1 := hx1.tr hx2
  have hb3 := hb1.ext hx2
  have o1 : Row (α := Int) 3 w1.heap.size w2 (.slice (some ⟨b5, 0, none⟩) 1 1) [x0] := Row.lit hg2 hb2 rfl (ble rfl)
  have hz := bs hF; obtain ⟨x4, Ex4, hF⟩ := hz
  refine cl rfl rfl (xc cb53 (mc rfl (mc rfl (mc rfl mn)))) (c53 o1.rv Ex4) ?_
  rintro _ w3 ⟨rfl, hx3⟩
  have k2 := k1.tr hx3
  have k3 := hx2.tr hx3
  have hb4 := hb3.ext hx3
  refine vl rfl rfl (xnot rfl) <| vl rfl rfl xas <| nl <| cnd rfl (fun h4 => ?_) (fun h4 => ?_)
  ·
    have hF := ifp hF h4
    refine wp_seq <| rg <| vl rfl rfl xas <| vl rfl rfl xas <| nl <| ?_
    cases hF
    exact wp_ret <| rt rfl (.tmp rfl rfl (.tmp rfl rfl .nil)) ⟨_, rfl, (RVo.nil (Nat.zero_le _)), k2⟩
  ·
    have hF := ifn hF h4
    refine wp_seq <| rg <| vl rfl rfl xmv <| vl rfl rfl (xfa rfl fa28_0) <| vl rfl rfl (xld rfl ti2 ((Bx.cs hb4).at 0 rfl)) <| vl rfl rfl (xfa rfl fa28_1) <| vl rfl rfl (xld rfl ti2 ((Bx.cs hb4).at 1 rfl)) <| sbsv (cs := [.int .i64 x1, .int .i64 x2.1, .int .i64 x2.2]) Try.underlying32 ti2 rfl (pc rfl (pc rfl (pc rfl pn))) rfl rfl rfl rfl rfl fun b6 w4 hx4 hg3 hb5 => ?_
    have k4 := k2.tr hx4
    have k5 := k3.tr hx4
    have hb6 := hb4.ext hx4
    have o2 : Row (α := Int) 2 w3.heap.size w4 (.slice (some ⟨b6, 0, none⟩) 3 3) [x1, x2.1, x2.2] := Row.lit hg3 hb5 rfl (ble rfl)
    have hz := bs hF; obtain ⟨x5, Ex5, hF⟩ := hz
    refine cl rfl rfl (xc cb58 (mc rfl mn)) (c58 o2.rv Ex5) ?_
    rintro _ w5 ⟨rfl, hx5⟩
    have k6 := k4.tr hx5
    have k7 := k5.tr hx5
    have k8 := hx4.tr hx5
    have hb7 := hb6.ext hx5
    refine vl rfl rfl (xnot rfl) <| vl rfl rfl xmv <| gv rfl rfl rfl rfl (gw0 rfl) rfl (fun hc => xfa rfl fa28_0) <| gv rfl rfl rfl rfl (gw0 rfl) rfl (fun hc => xld (mv hc rfl) ti2 ((Bx.cs hb7).at 0 rfl)) <| gv rfl rfl rfl rfl (gw0 rfl) rfl (fun hc => xfa rfl fa28_1) <| gv rfl rfl rfl rfl (gw0 rfl) rfl (fun hc => xld (mv hc rfl) ti2 ((Bx.cs hb7).at 1 rfl)) <| gv rfl rfl rfl rfl (gw0 rfl) rfl (fun hc => xgtr (mv hc rfl) (mv hc rfl)) <| vl rfl rfl (xpo rfl rfl rfl) <| vl rfl rfl xas <| nl <| cnd rfl (fun h5 => ?_) (fun h5 => ?_)
    ·
      have hF := ifp hF h5
      refine wp_seq <| rg <| vl rfl rfl xas <| vl rfl rfl xas <| nl <| ?_
      cases hF
      exact wp_ret <| rt rfl (.tmp rfl rfl (.tmp rfl rfl .nil)) ⟨_, rfl, (RVo.nil (Nat.zero_le _)), k6⟩
    ·
      have hF := ifn hF h5
      refine wp_skip <| wp_seq <| rg <| vl rfl rfl xmv <| vl rfl rfl (xmul rfl rfl) <| vl rfl rfl xas <| nl <| wp_seq <| wpl [] (.pure true 0 (.pure true 1 (.pure false 2 (.pure true 4 (.pure true 5 (.pure false 6 (.pure true 7 (.pure false 8 (.eff 3 (.pure true 9 (.pure true 10 .fin)) .stop))))))))) mixed (by kernel_rfl) (fun w6 hx6 => ?_)
      have k9 := k6.tr hx6
      have k10 := k7.tr hx6
      have k11 := k8.tr hx6
      have hb8 := hb7.ext hx6
      refine pv rfl rfl rfl (fun _ _ => xmv) (.inl rfl) <| pv rfl rfl rfl (fun _ _ => xfa rfl fa28_1) (.inl rfl) <| pv rfl rfl rfl (fun _ hS => xld rfl ti2 ((Bx.cs (hb8.ext (hS.resolve_left nofun))).at 1 rfl)) (.inr (Ext.refl _)) <| pv rfl rfl rfl (fun _ _ => xmv) (.inl rfl) <| pv rfl rfl rfl (fun _ _ => xfa rfl fa28_0) (.inl rfl) <| pv rfl rfl rfl (fun _ hS => xld rfl ti2 ((Bx.cs (hb8.ext (hS.resolve_left nofun))).at 0 rfl)) (.inr (Ext.refl _)) <| ?_
      have hz := bs hF; obtain ⟨x6, Ex6, hF⟩ := hz
      refine pv rfl rfl rfl (fun _ _ => xquov rfl rfl Ex6) (.inl rfl) <| pv rfl rfl rfl (fun _ hS => xmin rfl rfl) (.inr (Ext.refl _)) <| ?_
      have hz := bs hF; obtain ⟨x7, Ex7, hF⟩ := hz
      refine pe1 rfl <| cl rfl rfl (xc cb63 (mc rfl (mc rfl mn))) (c63 Ex7) ?_
      rintro _ w7 ⟨rfl, hx7⟩
      have k12 := k9.tr hx7
      have k13 := k10.tr hx7
      have k14 := k11.tr hx7
      refine nl ⟨fun _ _ => hx7, ?_⟩
      refine pv rfl rfl rfl (fun _ _ => xas) (.inl rfl) <| pv rfl rfl rfl (fun _ _ => xas) (.inl rfl) <| wp_seq <| wp_seq <| rg <| vl rfl rfl xmv <| vl rfl rfl xmv <| vl rfl rfl (xgtr rfl rfl) <| nl <| cnd rfl (fun h6 => ?_) (fun h6 => ?_)
      ·
        have hF := ifp hF h6
        refine wp_seq <| rg <| vl rfl rfl xas <| vl rfl rfl xas <| nl <| ?_
        cases hF
        exact wp_ret <| rt rfl (.tmp rfl rfl (.tmp rfl rfl .nil)) ⟨_, rfl, (RVo.nil (Nat.zero_le _)), k12⟩
      ·
        have hF := ifn hF h6
        refine wp_skip <| wp_seq <| rg <| vl rfl rfl xmv <| vl rfl rfl xmv <| vl rfl rfl (xbdv (r := [.int .i64 0, .int .i64 x0, .int .i64 (if x6 < 100000 then x6 else 100000)]) ti56 sp56 (pc rfl (pc rfl pn)) rfl) <| vl rfl rfl xmv <| vl rfl rfl xmv <| vl rfl rfl (xneg rfl) <| vl rfl rfl (xbdv (r := [.int .i64 x0, .int .i64 0, .int .i64 (w64 (0 - x7))]) ti56 sp56 (pc rfl (pc rfl pn)) rfl) <| sbsv (cs := [.int .i64 0, .int .i64 x0, .int .i64 (if x6 < 100000 then x6 else 100000), .int .i64 x0, .int .i64 0, .int .i64 (w64 (0 - x7))]) Try.underlying22 ti56 rfl (pc rfl (pc rfl pn)) rfl rfl rfl rfl rfl fun b7 w8 hx8 hg4 hb9 => ?_
        have k15 := k12.tr hx8
        have k16 := k13.tr hx8
        have k17 := k14.tr hx8
        have k18 := hx7.tr hx8
        have o3 : Row (α := (Int × Int × Int)) 56 w7.heap.size w8 (.slice (some ⟨b7, 0, none⟩) 2 2) [(0, x0, if x6 < 100000 then x6 else 100000), (x0, 0, w64 (0 - x7))] := Row.lit hg4 hb9 rfl (ble rfl)
        refine vl rfl rfl xas <| vl rfl rfl xas <| nl <| ?_
        cases hF
        exact wp_ret <| rt rfl (.tmp rfl rfl (.tmp rfl rfl .nil)) ⟨_, rfl, o3.rv, k15⟩

set_option maxHeartbeats 4000000 in
theorem c59 {w0 : World} {x0 : Int} {r : Bool} (hF : ref01_tone x0 = some r) :
    Calls Try.prog 59 [.int .i64 x0].toArray w0 (Ret fun v w' => v = .bool r ∧ Ext w0 w') := by
  unfold ref01_tone at hF
  refine entr (n := 9) Try.func59 rfl rfl rfl <| wp_seq <| rg <| vl rfl rfl xas <| nl <| wp_seq <| rg <| vl rfl rfl xmv <| vl rfl rfl (xgeq rfl rfl) <| vl rfl rfl xmv <| gv rfl rfl rfl rfl (gw1 rfl) rfl (fun hc => xmva rfl) <| gv rfl rfl rfl rfl (gw1 rfl) rfl (fun hc => xleq (mv hc rfl) rfl) <| vl rfl rfl (xpa rfl rfl rfl) <| vl rfl rfl xas <| nl <| ?_
  cases hF
  exact wp_ret <| rt rfl (.tmp rfl rfl .nil) ⟨rfl, (Ext.refl _)⟩

set_option maxHeartbeats 4000000 in
theorem c27 {w0 : World} {x0 : Int} {x1 : Int} {v2 : Value} {x2 : (Int × Int)} (r2 : RV w0 v2 x2) {r : ((List (Int × Int × Int)) × Int)} (hF : ref01_Pipe x0 x1 x2 = some r) :
    Calls Try.prog 27 [.int .i64 x0, .int .i64 x1, v2].toArray w0 (Ret fun v w' => ∃ u0 : Value, v = .tuple #[u0, .int .i64 r.2] ∧ RV w' u0 r.1 ∧ Ext w0 w') := by
  unfold ref01_Pipe at hF
  have hz := id r2; obtain ⟨_, rfl, ⟨_, _, rfl, rfl, rfl⟩⟩ := hz
  refine entr (n := 64) Try.func27 rfl rfl rfl <| wp_seq <| rg <| sbx rfl rfl fun b4 w1 hx1 hg1 hb1 => ?_
  have r4 := r2.ext hx1
  refine vl rfl rfl xas <| vl rfl rfl xas <| nl <| wp_seq <| wp_seq <| rg <| vl rfl rfl xmv <| vl rfl rfl (xlss rfl rfl) <| vl rfl rfl xmv <| gv rfl rfl rfl rfl (gw0 rfl) rfl (fun hc => xmva rfl) <| gv rfl rfl rfl rfl (gw0 rfl) rfl (fun hc => xgtr (mv hc rfl) rfl) <| vl rfl rfl (xpo rfl rfl rfl) <| nl <| cnd rfl (fun h4 => ?_) (fun h4 => ?_)
  ·
    have hF := ifp hF h4
    refine wp_seq <| rg <| vl rfl rfl xas <| vl rfl rfl xas <| nl <| ?_
    cases hF
    exact wp_ret <| rt rfl (.tmp rfl rfl (.tmp rfl rfl .nil)) ⟨_, rfl, (RVo.nil (Nat.zero_le _)), hx1⟩
  ·
    have hF := ifn hF h4
    refine wp_skip <| wp_seq <| wp_seq <| rg <| vl rfl rfl xmv <| ?_
    have hz := bs hF; obtain ⟨x4, Ex4, hF⟩ := hz
    refine cl rfl rfl (xc cb59 (mc rfl mn)) (c59 Ex4) ?_
    rintro _ w2 ⟨rfl, hx2⟩
    have k1 := hx1.tr hx2
    have hb2 := hb1.ext hx2
    refine vl rfl rfl (xnot rfl) <| vl rfl rfl xmv <| gv rfl rfl rfl rfl (gw0 rfl) rfl (fun hc => xfa rfl fa28_0) <| gv rfl rfl rfl rfl (gw0 rfl) rfl (fun hc => xld (mv hc rfl) ti2 ((Bx.cs hb2).at 0 rfl)) <| ?_
    have hz := bs hF; obtain ⟨x5, Ex5, hF⟩ := hz
    refine gc rfl rfl rfl rfl (gw0 rfl) rfl (fun hc => xc cb59 (mc (mv hc rfl) mn)) (fun hc => (c59 (gdp Ex5 hc))) (fun v4 w3 hy1 hn1 => ?_)
    have hx3 : Ext w2 w3 := gx (fun h => (hy1 h).2) (fun h => (hn1 h).2 ▸ Ext.refl _)
    have e1 := mkw (fun h => (hy1 h).1) (fun h => (hn1 h).1)
    have k2 := k1.tr hx3
    have hb3 := hb2.ext hx3
    refine gv rfl rfl rfl rfl (gw0 rfl) rfl (fun hc => xnot (mv hc e1)) <| vl rfl rfl (xpo rfl rfl rfl) <| vl rfl rfl xmv <| gv rfl rfl rfl rfl (gw0 rfl) rfl (fun hc => xfa rfl fa28_1) <| gv rfl rfl rfl rfl (gw0 rfl) rfl (fun hc => xld (mv hc rfl) ti2 ((Bx.cs hb3).at 1 rfl)) <| ?_
    have hz := bs hF; obtain ⟨x6, Ex6, hF⟩ := hz
    refine gc rfl rfl rfl rfl (gw0 rfl) rfl (fun hc => xc cb59 (mc (mv hc rfl) mn)) (fun hc => (c59 (gdp Ex6 hc))) (fun v5 w4 hy2 hn2 => ?_)
    have hx4 : Ext w3 w4 := gx (fun h => (hy2 h).2) (fun h => (hn2 h).2 ▸ Ext.refl _)
    have e2 := mkw (fun h => (hy2 h).1) (fun h => (hn2 h).1)
    have k3 := k2.tr hx4
    have hb4 := hb3.ext hx4
    refine gv rfl rfl rfl rfl (gw0 rfl) rfl (fun hc => xnot (mv hc e2)) <| vl rfl rfl (xpo rfl rfl rfl) <| vl rfl rfl xmv <| gv rfl rfl rfl rfl (gw0 rfl) rfl (fun hc => xfa rfl fa28_0) <| gv rfl rfl rfl rfl (gw0 rfl) rfl (fun hc => xld (mv hc rfl) ti2 ((Bx.cs hb4).at 0 rfl)) <| gv rfl rfl rfl rfl (gw0 rfl) rfl (fun hc => xfa rfl fa28_1) <| gv rfl rfl rfl rfl (gw0 rfl) rfl (fun hc => xld (mv hc rfl) ti2 ((Bx.cs hb4).at 1 rfl)) <| gv rfl rfl rfl rfl (gw0 rfl) rfl (fun hc => xgtr (mv hc rfl) (mv hc rfl)) <| vl rfl rfl (xpo rfl rfl rfl) <| nl <| cnd rfl (fun h5 => ?_) (fun h5 => ?_)
    ·
      have hF := ifp hF h5
      refine wp_seq <| rg <| vl rfl rfl xas <| vl rfl rfl xas <| nl <| ?_
      cases hF
      exact wp_ret <| rt rfl (.tmp rfl rfl (.tmp rfl rfl .nil)) ⟨_, rfl, (RVo.nil (Nat.zero_le _)), k3⟩
    ·
      have hF := ifn hF h5
      refine wp_skip <| wp_seq <| rg <| vl rfl rfl xmv <| vl rfl rfl (xmul rfl rfl) <| vl rfl rfl (xfa rfl fa28_1) <| vl rfl rfl (xld rfl ti2 ((Bx.cs hb4).at 1 rfl)) <| vl rfl rfl (xadd rfl rfl) <| vl rfl rfl (xsub rfl rfl) <| vl rfl rfl (xfa rfl fa28_1) <| vl rfl rfl (xld rfl ti2 ((Bx.cs hb4).at 1 rfl)) <| ?_
      have hz := bs hF; obtain ⟨x7, Ex7, hF⟩ := hz
      refine vl rfl rfl (xquov rfl rfl Ex7) <| vl rfl rfl xas <| nl <| wp_seq <| rg <| vl rfl rfl xmv <| vl rfl rfl (xmul rfl rfl) <| vl rfl rfl (xfa rfl fa28_0) <| vl rfl rfl (xld rfl ti2 ((Bx.cs hb4).at 0 rfl)) <| ?_
      have hz := bs hF; obtain ⟨x8, Ex8, hF⟩ := hz
      refine vl rfl rfl (xquov rfl rfl Ex8) <| vl rfl rfl (xmin rfl rfl) <| vl rfl rfl xas <| nl <| wp_seq <| wp_seq <| rg <| vl rfl rfl xmv <| vl rfl rfl xmv <| vl rfl rfl (xgtr rfl rfl) <| nl <| cnd rfl (fun h6 => ?_) (fun h6 => ?_)
      ·
        have hF := ifp hF h6
        refine wp_seq <| rg <| vl rfl rfl xas <| vl rfl rfl xas <| nl <| ?_
        cases hF
        exact wp_ret <| rt rfl (.tmp rfl rfl (.tmp rfl rfl .nil)) ⟨_, rfl, (RVo.nil (Nat.zero_le _)), k3⟩
      ·
        have hF := ifn hF h6
        refine wp_skip <| wp_seq <| rg <| vl rfl rfl xmv <| vl rfl rfl xmv <| vl rfl rfl (xbdv (r := [.int .i64 0, .int .i64 x0, .int .i64 (if x8 < 100000 then x8 else 100000)]) ti56 sp56 (pc rfl (pc rfl (pc rfl pn))) rfl) <| vl rfl rfl xmv <| vl rfl rfl xmv <| vl rfl rfl (xneg rfl) <| vl rfl rfl (xbdv (r := [.int .i64 x0, .int .i64 0, .int .i64 (w64 (0 - x7))]) ti56 sp56 (pc rfl (pc rfl (pc rfl pn))) rfl) <| sbsv (cs := [.int .i64 0, .int .i64 x0, .int .i64 (if x8 < 100000 then x8 else 100000), .int .i64 x0, .int .i64 0, .int .i64 (w64 (0 - x7))]) Try.underlying22 ti56 rfl (pc rfl (pc rfl pn)) rfl rfl rfl rfl rfl fun b5 w5 hx5 hg2 hb5 => ?_
        have k4 := k3.tr hx5
        have o1 : Row (α := (Int × Int × Int)) 56 w4.heap.size w5 (.slice (some ⟨b5, 0, none⟩) 2 2) [(0, x0, if x8 < 100000 then x8 else 100000), (x0, 0, w64 (0 - x7))] := Row.lit hg2 hb5 rfl (ble rfl)
        refine vl rfl rfl xas <| vl rfl rfl xas <| nl <| ?_
        cases hF
        exact wp_ret <| rt rfl (.tmp rfl rfl (.tmp rfl rfl .nil)) ⟨_, rfl, o1.rv, k4⟩

set_option maxHeartbeats 4000000 in
theorem c28 {w0 : World} {x0 : Int} {x1 : Int} {x2 : Int} {F : Nat} {r : ((List (Int × Int × Int)) × Int)} (hF : speed_Spring F x0 x1 x2 = some r) :
    Calls Try.prog 28 [.int .i64 x0, .int .i64 x1, .int .i64 x2].toArray w0 (Ret fun v w' => ∃ u0 : Value, v = .tuple #[u0, .int .i64 r.2] ∧ RV w' u0 r.1 ∧ Ext w0 w') := by
  unfold speed_Spring at hF
  refine entr (n := 45) Try.func28 rfl rfl rfl <| wp_seq <| rg <| vl rfl rfl xas <| vl rfl rfl xas <| nl <| wp_seq <| wp_block <| wp_seq <| rg <| vl rfl rfl xmv <| vl rfl rfl xmv <| sbsv (cs := [.int .i64 x0, .int .i64 x1]) Try.underlying36 ti3 rfl (pc rfl (pc rfl pn)) rfl rfl rfl rfl rfl fun b4 w1 hx1 hg1 hb1 => ?_
  have o1 : Row (α := Int) 3 w0.heap.size w1 (.slice (some ⟨b4, 0, none⟩) 2 2) [x0, x1] := Row.lit hg1 hb1 rfl (ble rfl)
  have hz := bs hF; obtain ⟨x4, Ex4, hF⟩ := hz
  refine cl rfl rfl (xc cb53 (mc rfl (mc rfl (mc rfl mn)))) (c53 o1.rv Ex4) ?_
  rintro _ w2 ⟨rfl, hx2⟩
  have k1 := hx1.tr hx2
  refine vl rfl rfl (xnot rfl) <| vl rfl rfl xmv <| gv rfl rfl rfl rfl (gw0 rfl) rfl (fun hc => xmva rfl) <| gv rfl rfl rfl rfl (gw0 rfl) rfl (fun hc => xmva rfl) <| gv rfl rfl rfl rfl (gw0 rfl) rfl (fun hc => xgeq (mv hc rfl) (mv hc rfl)) <| vl rfl rfl (xpo rfl rfl rfl) <| vl rfl rfl xas <| nl <| cnd rfl (fun h4 => ?_) (fun h4 => ?_)
  ·
    have hF := ifp hF h4
    refine wp_seq <| rg <| vl rfl rfl xas <| vl rfl rfl xas <| nl <| ?_
    cases hF
    exact wp_ret <| rt rfl (.tmp rfl rfl (.tmp rfl rfl .nil)) ⟨_, rfl, (RVo.nil (Nat.zero_le _)), k1⟩
  ·
    have hF := ifn hF h4
    refine wp_seq <| rg <| vl rfl rfl xmv <| sbsv (cs := [.int .i64 x2]) Try.underlying32 ti2 rfl (pc rfl pn) rfl rfl rfl rfl rfl fun b5 w3 hx3 hg2 hb2 => ?_
    have k2 := k1.tr hx3
    have o2 : Row (α := Int) 2 w2.heap.size w3 (.slice (some ⟨b5, 0, none⟩) 1 1) [x2] := Row.lit hg2 hb2 rfl (ble rfl)
    have hz := bs hF; obtain ⟨x5, Ex5, hF⟩ := hz
    refine cl rfl rfl (xc cb64 (mc rfl (mc rfl (mc rfl mn)))) (c64 o2.rv Ex5) ?_
    rintro _ w4 ⟨rfl, hx4⟩
    have k3 := k2.tr hx4
    have k4 := hx3.tr hx4
    refine vl rfl rfl (xnot rfl) <| vl rfl rfl xas <| nl <| cnd rfl (fun h5 => ?_) (fun h5 => ?_)
    ·
      have hF := ifp hF h5
      refine wp_seq <| rg <| vl rfl rfl xas <| vl rfl rfl xas <| nl <| ?_
      cases hF
      exact wp_ret <| rt rfl (.tmp rfl rfl (.tmp rfl rfl .nil)) ⟨_, rfl, (RVo.nil (Nat.zero_le _)), k3⟩
    ·
      have hF := ifn hF h5
      refine wp_skip <| wp_seq <| rg <| vl rfl rfl xas <| nl <| wp_seq <| wp_seq <| rg <| vl rfl rfl xmv <| vl rfl rfl xas <| nl <| ?_
      have o3 : Row (α := (Int × Int × Int)) 56 w4.heap.size w4 (.slice none 0 0) [] := Row.nil
      have hz := bs hF; obtain ⟨z1, hB1, hF⟩ := hz
      refine ct (fun L w => ∃ v5 : Value, L 8 = v5 ∧ Row 56 w4.heap.size w v5 z1 ∧ Ext w4 w) ?_ ?_
      ·
        refine wp_block <| lp (I := fun m L w => ∃ y1 : (List (Int × Int × Int)), ∃ y2 : Int, ∃ v4 : Value, speed_Spring_l1 F x1 x2 m y1 y2  = some z1 ∧ L 8 = v4 ∧ Row 56 w4.heap.size w v4 y1 ∧ L 9 = .int .i64 y2 ∧ L 1 = .int .i64 x1 ∧ L 2 = .int .i64 x2 ∧ Ext w4 w) F ⟨_, _, _, hB1, rfl, o3, rfl, rfl, rfl, (Ext.refl _)⟩ ?_
        rintro m L w5 ⟨y1, y2, v4, hB1, l8_i1, O8_i1, l9_i1, l1_i1, l2_i1, K0_i1⟩
        rcases m with _ | m
        · rw [speed_Spring_l1] at hB1; cases hB1
        rw [speed_Spring_l1] at hB1
        have k5 := k3.tr K0_i1
        have k6 := k4.tr K0_i1
        have hz := RV.sl O8_i1.rv; obtain ⟨a1, cq1, rfl, -, -, -⟩ := hz
        refine wp_seq <| wp_seq <| rg <| vl rfl rfl xmv <| vl rfl rfl xmv <| vl rfl rfl (xlss l9_i1 l1_i1) <| nl <| cnd rfl (fun h6 => ?_) (fun h6 => ?_)
        ·
          have hB1 := ifp hB1 h6
          refine wp_skip <| wp_seq <| wp_block <| rg <| vl rfl rfl xmv <| vl rfl rfl xmv <| vl rfl rfl xmv <| vl rfl rfl (xadd l9_i1 rfl) <| vl rfl rfl (xbdv (r := [.int .i64 y2, .int .i64 (w64 (y2 + 1)), .int .i64 0]) ti56 sp56 (pc l9_i1 (pc rfl pn)) rfl) <| vl rfl rfl xmv <| vl rfl rfl (xadd l9_i1 rfl) <| vl rfl rfl xmv <| vl rfl rfl xmv <| vl rfl rfl (xbdv (r := [.int .i64 (w64 (y2 + 1)), .int .i64 y2, .int .i64 x2]) ti56 sp56 (pc rfl (pc l9_i1 (pc l2_i1 pn))) rfl) <| sbsv (cs := [.int .i64 y2, .int .i64 (w64 (y2 + 1)), .int .i64 0, .int .i64 (w64 (y2 + 1)), .int .i64 y2, .int .i64 x2]) Try.underlying22 ti56 rfl (pc rfl (pc rfl pn)) rfl rfl rfl rfl rfl fun b6 w6 hx5 hg3 hb3 => ?_
          have k7 := k5.tr hx5
          have k8 := k6.tr hx5
          have k9 := K0_i1.tr hx5
          have O1 := O8_i1.ext hx5
          have o5 : Row (α := (Int × Int × Int)) 56 w5.heap.size w6 (.slice (some ⟨b6, 0, none⟩) 2 2) [(y2, w64 (y2 + 1), 0), (w64 (y2 + 1), y2, x2)] := Row.lit hg3 hb3 rfl (ble rfl)
          have hz := bs hB1; obtain ⟨x6, Ex6, hB1⟩ := hz
          refine sapx (l := y1) (k := ([(y2, w64 (y2 + 1), 0), (w64 (y2 + 1), y2, x2)] : List (Int × Int × Int))) l8_i1 rfl Try.underlying22 ti56 rfl rfl O1 (RV.els o5.rv) Ex6 k9.size fun v6 w7 o6 hB3 hgr1 how1 => ?_
          have k10 := Ext.grow k7 k3.size hB3
          have k11 := Ext.grow k8 k4.size hB3
          have k12 : Ext w4 w7 := k9.trans hB3
          have hz := RV.sl o6.rv; obtain ⟨a2, cq2, rfl, -, -, -⟩ := hz
          refine vl rfl rfl xas <| nl <| rg <| vl rfl rfl xmv <| vl rfl rfl (xadd l9_i1 rfl) <| vl rfl rfl xas <| nl <| ?_
          refine lq m (Nat.lt_succ_self _) <| ?_
          exact ⟨_, _, _, hB1, rfl, o6, rfl, l1_i1, l2_i1, k12⟩
        ·
          have hB1 := ifn hB1 h6
          refine wp_exit <| ?_
          cases hB1
          refine lf <| ?_
          exact ⟨_, l8_i1, O8_i1, K0_i1⟩
      rintro L w8 ⟨v5, l8_j1, O8_j1, K0_j1⟩
      have k13 := k3.tr K0_j1
      have k14 := k4.tr K0_j1
      have hz := RV.sl O8_j1.rv; obtain ⟨a3, cq3, rfl, -, -, -⟩ := hz
      refine wp_seq <| rg <| vl rfl rfl xmv <| vl rfl rfl xas <| vl rfl rfl xas <| nl <| ?_
      cases hF
      exact wp_ret <| rt rfl (.tmp l8_j1 rfl (.tmp rfl rfl .nil)) ⟨_, rfl, O8_j1.rv, k13⟩

set_option maxHeartbeats 4000000 in
theorem c29 {w0 : World} {x0 : Int} {x1 : Int} {x2 : Int} {F : Nat} {r : ((List (Int × Int × Int)) × Int)} (hF : ref01_Spring F x0 x1 x2 = some r) :
    Calls Try.prog 29 [.int .i64 x0, .int .i64 x1, .int .i64 x2].toArray w0 (Ret fun v w' => ∃ u0 : Value, v = .tuple #[u0, .int .i64 r.2] ∧ RV w' u0 r.1 ∧ Ext w0 w') := by
  unfold ref01_Spring at hF
  refine entr (n := 54) Try.func29 rfl rfl rfl <| wp_seq <| rg <| vl rfl rfl xas <| vl rfl rfl xas <| nl <| wp_seq <| wp_seq <| rg <| vl rfl rfl xmv <| vl rfl rfl (xlss rfl rfl) <| vl rfl rfl xmv <| gv rfl rfl rfl rfl (gw0 rfl) rfl (fun hc => xmva rfl) <| gv rfl rfl rfl rfl (gw0 rfl) rfl (fun hc => xgtr (mv hc rfl) rfl) <| vl rfl rfl (xpo rfl rfl rfl) <| vl rfl rfl xmv <| gv rfl rfl rfl rfl (gw0 rfl) rfl (fun hc => xmva rfl) <| gv rfl rfl rfl rfl (gw0 rfl) rfl (fun hc => xlss (mv hc rfl) rfl) <| vl rfl rfl (xpo rfl rfl rfl) <| vl rfl rfl xmv <| gv rfl rfl rfl rfl (gw0 rfl) rfl (fun hc => xmva rfl) <| gv rfl rfl rfl rfl (gw0 rfl) rfl (fun hc => xgtr (mv hc rfl) rfl) <| vl rfl rfl (xpo rfl rfl rfl) <| vl rfl rfl xmv <| gv rfl rfl rfl rfl (gw0 rfl) rfl (fun hc => xmva rfl) <| gv rfl rfl rfl rfl (gw0 rfl) rfl (fun hc => xmva rfl) <| gv rfl rfl rfl rfl (gw0 rfl) rfl (fun hc => xgeq (mv hc rfl) (mv hc rfl)) <| vl rfl rfl (xpo rfl rfl rfl) <| nl <| cnd rfl (fun h4 => ?_) (fun h4 => ?_)
  ·
    have hF := ifp hF h4
    refine wp_seq <| rg <| vl rfl rfl xas <| vl rfl rfl xas <| nl <| ?_
    cases hF
    exact wp_ret <| rt rfl (.tmp rfl rfl (.tmp rfl rfl .nil)) ⟨_, rfl, (RVo.nil (Nat.zero_le _)), (Ext.refl _)⟩
  ·
    have hF := ifn hF h4
    refine wp_skip <| wp_seq <| wp_seq <| rg <| vl rfl rfl xmv <| vl rfl rfl (xlss rfl rfl) <| vl rfl rfl xmv <| gv rfl rfl rfl rfl (gw0 rfl) rfl (fun hc => xmva rfl) <| gv rfl rfl rfl rfl (gw0 rfl) rfl (fun hc => xgtr (mv hc rfl) rfl) <| vl rfl rfl (xpo rfl rfl rfl) <| nl <| cnd rfl (fun h5 => ?_) (fun h5 => ?_)
    ·
      have hF := ifp hF h5
      refine wp_seq <| rg <| vl rfl rfl xas <| vl rfl rfl xas <| nl <| ?_
      cases hF
      exact wp_ret <| rt rfl (.tmp rfl rfl (.tmp rfl rfl .nil)) ⟨_, rfl, (RVo.nil (Nat.zero_le _)), (Ext.refl _)⟩
    ·
      have hF := ifn hF h5
      refine wp_skip <| wp_seq <| rg <| vl rfl rfl xas <| nl <| wp_seq <| wp_seq <| rg <| vl rfl rfl xmv <| vl rfl rfl xas <| nl <| ?_
      have o1 : Row (α := (Int × Int × Int)) 56 w0.heap.size w0 (.slice none 0 0) [] := Row.nil
      have hz := bs hF; obtain ⟨z1, hB1, hF⟩ := hz
      refine ct (fun L w => ∃ v5 : Value, L 8 = v5 ∧ Row 56 w0.heap.size w v5 z1 ∧ Ext w0 w) ?_ ?_
      ·
        refine wp_block <| lp (I := fun m L w => ∃ y1 : (List (Int × Int × Int)), ∃ y2 : Int, ∃ v4 : Value, ref01_Spring_l1 F x1 x2 m y1 y2  = some z1 ∧ L 8 = v4 ∧ Row 56 w0.heap.size w v4 y1 ∧ L 9 = .int .i64 y2 ∧ L 1 = .int .i64 x1 ∧ L 2 = .int .i64 x2 ∧ Ext w0 w) F ⟨_, _, _, hB1, rfl, o1, rfl, rfl, rfl, (Ext.refl _)⟩ ?_
        rintro m L w1 ⟨y1, y2, v4, hB1, l8_i1, O8_i1, l9_i1, l1_i1, l2_i1, K0_i1⟩
        rcases m with _ | m
        · rw [ref01_Spring_l1] at hB1; cases hB1
        rw [ref01_Spring_l1] at hB1
        have hz := RV.sl O8_i1.rv; obtain ⟨a1, cq1, rfl, -, -, -⟩ := hz
        refine wp_seq <| wp_seq <| rg <| vl rfl rfl xmv <| vl rfl rfl xmv <| vl rfl rfl (xlss l9_i1 l1_i1) <| nl <| cnd rfl (fun h6 => ?_) (fun h6 => ?_)
        ·
          have hB1 := ifp hB1 h6
          refine wp_skip <| wp_seq <| wp_block <| rg <| vl rfl rfl xmv <| vl rfl rfl xmv <| vl rfl rfl xmv <| vl rfl rfl (xadd l9_i1 rfl) <| vl rfl rfl (xbdv (r := [.int .i64 y2, .int .i64 (w64 (y2 + 1)), .int .i64 0]) ti56 sp56 (pc l9_i1 (pc rfl (pc rfl pn))) rfl) <| vl rfl rfl xmv <| vl rfl rfl (xadd l9_i1 rfl) <| vl rfl rfl xmv <| vl rfl rfl xmv <| vl rfl rfl (xbdv (r := [.int .i64 (w64 (y2 + 1)), .int .i64 y2, .int .i64 x2]) ti56 sp56 (pc rfl (pc l9_i1 (pc l2_i1 pn))) rfl) <| sbsv (cs := [.int .i64 y2, .int .i64 (w64 (y2 + 1)), .int .i64 0, .int .i64 (w64 (y2 + 1)), .int .i64 y2, .int .i64 x2]) Try.underlying22 ti56 rfl (pc rfl (pc rfl pn)) rfl rfl rfl rfl rfl fun b4 w2 hx1 hg1 hb1 => ?_
          have k1 := K0_i1.tr hx1
          have O1 := O8_i1.ext hx1
          have o3 : Row (α := (Int × Int × Int)) 56 w1.heap.size w2 (.slice (some ⟨b4, 0, none⟩) 2 2) [(y2, w64 (y2 + 1), 0), (w64 (y2 + 1), y2, x2)] := Row.lit hg1 hb1 rfl (ble rfl)
          have hz := bs hB1; obtain ⟨x4, Ex4, hB1⟩ := hz
          refine sapx (l := y1) (k := ([(y2, w64 (y2 + 1), 0), (w64 (y2 + 1), y2, x2)] : List (Int × Int × Int))) l8_i1 rfl Try.underlying22 ti56 rfl rfl O1 (RV.els o3.rv) Ex4 k1.size fun v6 w3 o4 hB3 hgr1 how1 => ?_
          have k2 : Ext w0 w3 := k1.trans hB3
          have hz := RV.sl o4.rv; obtain ⟨a2, cq2, rfl, -, -, -⟩ := hz
          refine vl rfl rfl xas <| nl <| rg <| vl rfl rfl xmv <| vl rfl rfl (xadd l9_i1 rfl) <| vl rfl rfl xas <| nl <| ?_
          refine lq m (Nat.lt_succ_self _) <| ?_
          exact ⟨_, _, _, hB1, rfl, o4, rfl, l1_i1, l2_i1, k2⟩
        ·
          have hB1 := ifn hB1 h6
          refine wp_exit <| ?_
          cases hB1
          refine lf <| ?_
          exact ⟨_, l8_i1, O8_i1, K0_i1⟩
      rintro L w4 ⟨v5, l8_j1, O8_j1, K0_j1⟩
      have hz := RV.sl O8_j1.rv; obtain ⟨a3, cq3, rfl, -, -, -⟩ := hz
      refine wp_seq <| rg <| vl rfl rfl xmv <| vl rfl rfl xas <| vl rfl rfl xas <| nl <| ?_
      cases hF
      exact wp_ret <| rt rfl (.tmp l8_j1 rfl (.tmp rfl rfl .nil)) ⟨_, rfl, O8_j1.rv, K0_j1⟩

set_option maxHeartbeats 4000000 in
theorem c30 {w0 : World} {v0 : Value} {x0 : (List (Int × Int × Int))} (r0 : RV w0 v0 x0) {v1 : Value} {x1 : (List (Int × Int × Int))} (r1 : RV w0 v1 x1) {F : Nat} {r : Bool} (hF : law01_rules F x0 x1 = some r) :
    Calls Try.prog 30 [v0, v1].toArray w0 (Ret fun v w' => v = .bool r ∧ Ext w0 w') := by
  unfold law01_rules at hF
  have hz := r0.sl; obtain ⟨a1, cq1, rfl, -, -, -⟩ := hz
  have hz := r1.sl; obtain ⟨a2, cq2, rfl, -, -, -⟩ := hz
  refine entr (n := 26) Try.func30 rfl rfl rfl <| wp_seq <| rg <| vl rfl rfl xas <| nl <| wp_seq <| wp_seq <| rg <| vl rfl rfl xmv <| vl rfl rfl (xlen rfl Try.underlying22) <| vl rfl rfl xmv <| vl rfl rfl (xlen rfl Try.underlying22) <| vl rfl rfl (xneq rfl rfl) <| nl <| cnd rfl (fun h3 => ?_) (fun h3 => ?_)
  ·
    have hF := ifp hF h3
    refine wp_seq <| rg <| vl rfl rfl xas <| nl <| ?_
    cases hF
    exact wp_ret <| rt rfl (.tmp rfl rfl .nil) ⟨rfl, (Ext.refl _)⟩
  ·
    have hF := ifn hF h3
    refine wp_skip <| wp_seq <| wp_seq <| rg <| vl rfl rfl xas <| nl <| ?_
    have hz := bs hF; obtain ⟨o1, hB1, hF⟩ := hz
    refine ct (fun L w => o1 = .inr () ∧ Ext w0 w) ?_ ?_
    ·
      refine wp_block <| lp (I := fun m L w => ∃ y1 : Int, law01_rules_l1 F x0 x1 m y1  = some o1 ∧ L 5 = .int .i64 y1 ∧ L 0 = .slice a1 x0.length cq1 ∧ L 1 = .slice a2 x1.length cq2 ∧ Ext w0 w) F ⟨_, hB1, rfl, rfl, rfl, (Ext.refl _)⟩ ?_
      rintro m L w1 ⟨y1, hB1, l5_i1, l0_i1, l1_i1, K0_i1⟩
      rcases m with _ | m
      · rw [law01_rules_l1] at hB1; cases hB1
      rw [law01_rules_l1] at hB1
      have r3 := r0.ext K0_i1
      have r4 := r1.ext K0_i1
      refine wp_seq <| wp_seq <| rg <| vl rfl rfl xmv <| vl rfl rfl xmv <| vl rfl rfl (xlen l0_i1 Try.underlying22) <| vl rfl rfl (xlss l5_i1 rfl) <| nl <| cnd rfl (fun h4 => ?_) (fun h4 => ?_)
      ·
        have hB1 := ifp hB1 h4
        refine wp_skip <| wp_seq <| wp_block <| wp_seq <| wpl [] (.pure true 0 (.pure true 1 (.pure true 2 (.pure false 3 (.pure true 4 (.pure true 5 (.pure true 6 (.pure false 7 (.pure true 8 .fin))))))))) mixed (by kernel_rfl) (fun w2 hx1 => ?_)
        have k1 := K0_i1.tr hx1
        have r5 := r3.ext hx1
        have r6 := r4.ext hx1
        refine pv rfl rfl rfl (fun _ _ => xmv) (.inl rfl) <| pv rfl rfl rfl (fun _ _ => xmv) (.inl rfl) <| ?_
        have hz := bs hB1; obtain ⟨x3, Ex3, hB1⟩ := hz
        have hz := (RV.els r0).ix Ex3; obtain ⟨b3, f1, cs3, e1, i2, i3, q3, hc1⟩ := hz
        cases e1
        obtain ⟨_, _, rfl, rfl, ⟨_, _, rfl, rfl, rfl⟩⟩ := q3
        have hc2 := hc1.ext k1
        refine pv rfl rfl rfl (fun _ _ => xixs l0_i1 l5_i1 Try.underlying22 ti56 i2 i3) (.inl rfl) <| pv rfl rfl rfl (fun _ hS => xlda rfl ti56 rfl (hc2.ext (hS.resolve_left nofun))) (.inr (Ext.refl _)) <| pv rfl rfl rfl (fun _ _ => xmv) (.inl rfl) <| pv rfl rfl rfl (fun _ _ => xmv) (.inl rfl) <| ?_
        have hz := bs hB1; obtain ⟨x4, Ex4, hB1⟩ := hz
        have hz := (RV.els r1).ix Ex4; obtain ⟨b4, f2, cs4, e2, i4, i5, q4, hc3⟩ := hz
        cases e2
        obtain ⟨_, _, rfl, rfl, ⟨_, _, rfl, rfl, rfl⟩⟩ := q4
        have hc4 := hc3.ext k1
        refine pv rfl rfl rfl (fun _ _ => xixs l1_i1 l5_i1 Try.underlying22 ti56 i4 i5) (.inl rfl) <| pv rfl rfl rfl (fun _ hS => xlda rfl ti56 rfl (hc4.ext (hS.resolve_left nofun))) (.inr (Ext.refl _)) <| pv rfl rfl rfl (fun _ _ => xagn (α := (Int × Int × Int)) (a := (x3.1, x3.2.1, x3.2.2)) (b := (x4.1, x4.2.1, x4.2.2)) rfl eg56 eq56 rfl rfl rfl rfl rfl) (.inl rfl) <| cnd rfl (fun h5 => ?_) (fun h5 => ?_)
        ·
          have hB1 := ifp hB1 h5
          refine wp_seq <| rg <| vl rfl rfl xas <| nl <| ?_
          cases hB1
          have hF := (show some _ = some _ from hF); cases hF
          exact wp_ret <| rt rfl (.tmp rfl rfl .nil) ⟨rfl, k1⟩
        ·
          have hB1 := ifn hB1 h5
          refine wp_skip <| rg <| vl rfl rfl xmv <| vl rfl rfl (xadd l5_i1 rfl) <| vl rfl rfl xas <| nl <| ?_
          refine lq m (Nat.lt_succ_self _) <| ?_
          exact ⟨_, hB1, rfl, l0_i1, l1_i1, k1⟩
      ·
        have hB1 := ifn hB1 h4
        refine wp_exit <| ?_
        cases hB1
        refine lf <| ?_
        exact ⟨rfl, K0_i1⟩
    rintro L w3 ⟨rfl, K0_j1⟩
    refine wp_seq <| rg <| vl rfl rfl xas <| nl <| ?_
    cases hF
    exact wp_ret <| rt rfl (.tmp rfl rfl .nil) ⟨rfl, K0_j1⟩

set_option maxHeartbeats 4000000 in
theorem c49 {w0 : World} {v0 : Value} {x0 : (List Int)} (r0 : RV w0 v0 x0) {x1 : Int} {r : Int} (hF : ref01_Of x0 x1 = some r) :
    Calls Try.prog 49 [v0, .int .i64 x1].toArray w0 (Ret fun v w' => v = .int .i64 r ∧ Ext w0 w') := by
  unfold ref01_Of at hF
  have hz := r0.sl; obtain ⟨a1, cq1, rfl, -, -, -⟩ := hz
  refine entr (n := 12) Try.func49 rfl rfl rfl <| wp_seq <| rg <| vl rfl rfl xas <| nl <| wp_seq <| wp_seq <| rg <| vl rfl rfl xmv <| vl rfl rfl (xeql rfl rfl) <| nl <| cnd rfl (fun h3 => ?_) (fun h3 => ?_)
  ·
    have hF := ifp hF h3
    refine wp_seq <| rg <| vl rfl rfl xas <| nl <| ?_
    cases hF
    exact wp_ret <| rt rfl (.tmp rfl rfl .nil) ⟨rfl, (Ext.refl _)⟩
  ·
    have hF := ifn hF h3
    refine wp_skip <| wp_seq <| rg <| vl rfl rfl xmv <| vl rfl rfl xmv <| vl rfl rfl (xsub rfl rfl) <| ?_
    have hz := bs hF; obtain ⟨x3, Ex3, hF⟩ := hz
    have hz := (RV.els r0).ix Ex3; obtain ⟨b3, f1, cs3, e1, i1, i2, q3, hc1⟩ := hz
    cases e1
    obtain rfl := q3
    refine vl rfl rfl (xixs rfl rfl Try.underlying32 ti2 i1 i2) <| vl rfl rfl (xld rfl ti2 (hc1.at 0 rfl)) <| vl rfl rfl xas <| nl <| ?_
    cases hF
    exact wp_ret <| rt rfl (.tmp rfl rfl .nil) ⟨rfl, (Ext.refl _)⟩

set_option maxHeartbeats 4000000 in
theorem c32 {w0 : World} {v0 : Value} {x0 : (Int × (List (Int × Int × Int)))} (r0 : RV w0 v0 x0) {v1 : Value} {x1 : (List Int)} (r1 : RV w0 v1 x1) {F : Nat} {r : Int} (hF : ref01_CheckSpeeds F x0 x1 = some r) :
    Calls Try.prog 32 [v0, v1].toArray w0 (Ret fun v w' => v = .int .i64 r ∧ Ext w0 w') := by
  unfold ref01_CheckSpeeds at hF
  have hz := id r0; obtain ⟨_, rfl, ⟨_, _, rfl, rfl, ⟨a1, cq1, rfl, p1, q3, e1⟩⟩⟩ := hz
  have r3 := RV.of1 p1 q3 e1
  have hz := r1.sl; obtain ⟨a2, cq2, rfl, -, -, -⟩ := hz
  refine entr (n := 60) Try.func32 rfl rfl rfl <| wp_seq <| rg <| sbx rfl rfl fun b3 w1 hx1 hg1 hb1 => ?_
  have r4 := r1.ext hx1
  have r5 := r3.ext hx1
  have r6 := r0.ext hx1
  refine vl rfl rfl xas <| nl <| wp_seq <| wp_seq <| rg <| vl rfl rfl (xlda rfl ti24 rfl (Bx.cs hb1)) <| ?_
  have hz := bs hF; obtain ⟨x3, Ex3, hF⟩ := hz
  refine cl rfl rfl (xc cb36 (mc rfl mn)) (c36 (show RV (α := (Int × (List (Int × Int × Int)))) _ (.agg [.int .i64 x0.1, .slice a1 x0.2.length cq1].toArray) (x0.1, x0.2) from ⟨_, rfl, ⟨[.int .i64 x0.1], [.slice a1 x0.2.length cq1], rfl, rfl, r5.rep1⟩⟩) Ex3) ?_
  rintro _ w2 ⟨rfl, hx2⟩
  have k1 := hx1.tr hx2
  have hb2 := hb1.ext hx2
  have r7 := r5.ext hx2
  have r8 := r4.ext hx2
  refine vl rfl rfl (xneq rfl rfl) <| nl <| cnd rfl (fun h3 => ?_) (fun h3 => ?_)
  ·
    have hF := ifp hF h3
    refine wp_seq <| rg <| vl rfl rfl (xlda rfl ti24 rfl (Bx.cs hb2)) <| ?_
    have hz := bs hF; obtain ⟨x4, Ex4, hF⟩ := hz
    refine cl rfl rfl (xc cb36 (mc rfl mn)) (c36 (show RV (α := (Int × (List (Int × Int × Int)))) _ (.agg [.int .i64 x0.1, .slice a1 x0.2.length cq1].toArray) (x0.1, x0.2) from ⟨_, rfl, ⟨[.int .i64 x0.1], [.slice a1 x0.2.length cq1], rfl, rfl, r7.rep1⟩⟩) Ex4) ?_
    rintro _ w3 ⟨rfl, hx3⟩
    have k2 := k1.tr hx3
    refine vl rfl rfl xas <| nl <| ?_
    cases hF
    exact wp_ret <| rt rfl (.tmp rfl rfl .nil) ⟨rfl, k2⟩
  ·
    have hF := ifn hF h3
    refine wp_skip <| wp_seq <| wp_seq <| rg <| vl rfl rfl xmv <| vl rfl rfl (xlen rfl Try.underlying32) <| vl rfl rfl (xfa rfl fa24_0) <| vl rfl rfl (xld rfl ti3 ((Bx.cs hb2).at 0 rfl)) <| vl rfl rfl (xneq rfl rfl) <| nl <| cnd rfl (fun h4 => ?_) (fun h4 => ?_)
    ·
      have hF := ifp hF h4
      refine wp_seq <| rg <| vl rfl rfl xas <| nl <| ?_
      cases hF
      exact wp_ret <| rt rfl (.tmp rfl rfl .nil) ⟨rfl, k1⟩
    ·
      have hF := ifn hF h4
      refine wp_skip <| wp_seq <| wp_seq <| rg <| vl rfl rfl xas <| nl <| ?_
      have hz := bs hF; obtain ⟨o1, hB1, hF⟩ := hz
      refine ct (fun L w => o1 = .inr () ∧ L 1 = .slice a2 x1.length cq2 ∧ L 2 = .pointer (some ⟨b3, 0, none⟩) ∧ Ext w2 w) ?_ ?_
      ·
        refine wp_block <| lp (I := fun m L w => ∃ y1 : Int, ref01_CheckSpeeds_l1 F x1 m y1  = some o1 ∧ L 5 = .int .i64 y1 ∧ L 1 = .slice a2 x1.length cq2 ∧ L 2 = .pointer (some ⟨b3, 0, none⟩) ∧ Ext w2 w) F ⟨_, hB1, rfl, rfl, rfl, (Ext.refl _)⟩ ?_
        rintro m L w4 ⟨y1, hB1, l5_i1, l1_i1, l2_i1, K0_i1⟩
        rcases m with _ | m
        · rw [ref01_CheckSpeeds_l1] at hB1; cases hB1
        rw [ref01_CheckSpeeds_l1] at hB1
        have k3 := k1.tr K0_i1
        have r9 := r8.ext K0_i1
        have r10 := r7.ext K0_i1
        have hb3 := hb2.ext K0_i1
        refine wp_seq <| wp_seq <| rg <| vl rfl rfl xmv <| vl rfl rfl xmv <| vl rfl rfl (xlen l1_i1 Try.underlying32) <| vl rfl rfl (xlss l5_i1 rfl) <| nl <| cnd rfl (fun h5 => ?_) (fun h5 => ?_)
        ·
          have hB1 := ifp hB1 h5
          refine wp_skip <| wp_seq <| wp_block <| wp_seq <| ?_
          have hz := bs hB1; obtain ⟨y2, hB3, hB1⟩ := hz
          refine ct (fun L w => L 35 = .bool y2 ∧ L 1 = .slice a2 x1.length cq2 ∧ L 2 = .pointer (some ⟨b3, 0, none⟩) ∧ L 5 = .int .i64 y1 ∧ Ext w4 w) ?_ ?_
          ·
            refine rg <| vl rfl rfl xmv <| vl rfl rfl xmv <| ?_
            have hz := bs hB3; obtain ⟨x6, Ex6, hB3⟩ := hz
            have hz := (RV.els r1).ix Ex6; obtain ⟨b5, f2, cs4, e3, i4, i5, q5, hc3⟩ := hz
            cases e3
            obtain rfl := q5
            have hc4 := hc3.ext k3
            refine vl rfl rfl (xixs l1_i1 l5_i1 Try.underlying32 ti2 i4 i5) <| vl rfl rfl (xld rfl ti2 (hc4.at 0 rfl)) <| vl rfl rfl (xlss rfl rfl) <| vl rfl rfl xmv <| ?_
            refine Or.elim (Bool.eq_false_or_eq_true (decide (x6 < 0))) (fun h6 => ?_) (fun h6 => ?_)
            ·
              have hB3 := ifp hB3 h6
              refine gfk rfl rfl rfl rfl rfl (btf h6) rfl <| gfk rfl rfl rfl rfl rfl (btf h6) rfl <| gfk rfl rfl rfl rfl rfl (btf h6) rfl <| gfk rfl rfl rfl rfl rfl (btf h6) rfl <| gfk rfl rfl rfl rfl rfl (btf h6) rfl <| vl rfl rfl (xpt rfl h6 rfl) <| nl <| ?_
              cases hB3
              refine lf <| ?_
              exact ⟨rfl, l1_i1, l2_i1, l5_i1, (Ext.refl _)⟩
            ·
              have hB3 := ifn hB3 h6
              refine gtk rfl rfl rfl rfl rfl (bf h6) <| vl rfl rfl xmv <| gtk rfl rfl rfl rfl rfl (bf h6) <| vl rfl rfl xmv <| ?_
              have hz := bs hB3; obtain ⟨x7, Ex7, hB3⟩ := hz
              have hz := ix2 r1 Ex7; obtain ⟨cs5, i6, i7, q6, hc5⟩ := hz
              obtain rfl := q6
              have hc6 := hc5.ext k3
              refine gtk rfl rfl rfl rfl rfl (bf h6) <| vl rfl rfl (xixs l1_i1 l5_i1 Try.underlying32 ti2 i6 i7) <| gtk rfl rfl rfl rfl rfl (bf h6) <| vl rfl rfl (xld rfl ti2 (hc6.at 0 rfl)) <| gtk rfl rfl rfl rfl rfl (bf h6) <| vl rfl rfl (xgtr rfl rfl) <| vl rfl rfl (xpf rfl h6 rfl) <| nl <| ?_
              cases hB3
              refine lf <| ?_
              exact ⟨rfl, l1_i1, l2_i1, l5_i1, (Ext.refl _)⟩
          rintro L w5 ⟨l35_j1, l1_j1, l2_j1, l5_j1, K0_j1⟩
          have k4 := k3.tr K0_j1
          have k5 := K0_i1.tr K0_j1
          have r11 := r9.ext K0_j1
          have r12 := r10.ext K0_j1
          have hb4 := hb3.ext K0_j1
          refine cnd l35_j1 (fun h7 => ?_) (fun h7 => ?_)
          ·
            have hB1 := ifp hB1 h7
            refine wp_seq <| rg <| vl rfl rfl xas <| nl <| ?_
            cases hB1
            have hF := (show some _ = some _ from hF); cases hF
            exact wp_ret <| rt rfl (.tmp rfl rfl .nil) ⟨rfl, k4⟩
          ·
            have hB1 := ifn hB1 h7
            refine wp_skip <| rg <| vl rfl rfl xmv <| vl rfl rfl (xadd l5_j1 rfl) <| vl rfl rfl xas <| nl <| ?_
            refine lq m (Nat.lt_succ_self _) <| ?_
            exact ⟨_, hB1, rfl, l1_j1, l2_j1, k5⟩
        ·
          have hB1 := ifn hB1 h5
          refine wp_exit <| ?_
          cases hB1
          refine lf <| ?_
          exact ⟨rfl, l1_i1, l2_i1, K0_i1⟩
      rintro L w6 ⟨rfl, l1_j2, l2_j2, K0_j2⟩
      have k6 := k1.tr K0_j2
      have r13 := r8.ext K0_j2
      have r14 := r7.ext K0_j2
      have hb5 := hb2.ext K0_j2
      refine wp_seq <| wp_seq <| rg <| vl rfl rfl xas <| nl <| ?_
      have hz := bs hF; obtain ⟨o2, hB7, hF⟩ := hz
      refine ct (fun L w => o2 = .inr () ∧ Ext w6 w) ?_ ?_
      ·
        refine wp_block <| lp (I := fun m L w => ∃ y3 : Int, ref01_CheckSpeeds_l2 F x0 x1 m y3  = some o2 ∧ L 6 = .int .i64 y3 ∧ L 1 = .slice a2 x1.length cq2 ∧ L 2 = .pointer (some ⟨b3, 0, none⟩) ∧ Ext w6 w) F ⟨_, hB7, rfl, l1_j2, l2_j2, (Ext.refl _)⟩ ?_
        rintro m L w7 ⟨y3, hB7, l6_i8, l1_i8, l2_i8, K0_i8⟩
        rcases m with _ | m
        · rw [ref01_CheckSpeeds_l2] at hB7; cases hB7
        rw [ref01_CheckSpeeds_l2] at hB7
        have k7 := k6.tr K0_i8
        have k8 := K0_j2.tr K0_i8
        have r15 := r13.ext K0_i8
        have r16 := r14.ext K0_i8
        have hb6 := hb5.ext K0_i8
        refine wp_seq <| wp_seq <| rg <| vl rfl rfl xmv <| vl rfl rfl (xfa l2_i8 fa24_1) <| vl rfl rfl (xld rfl ti22 ((Bx.cs hb6).at 1 rfl)) <| vl rfl rfl (xlen rfl Try.underlying22) <| vl rfl rfl (xlss l6_i8 rfl) <| nl <| cnd rfl (fun h8 => ?_) (fun h8 => ?_)
        ·
          have hB7 := ifp hB7 h8
          refine wp_skip <| wp_seq <| wp_block <| wp_seq <| rg <| vl rfl rfl (xfa l2_i8 fa24_1) <| vl rfl rfl (xld rfl ti22 ((Bx.cs hb6).at 1 rfl)) <| vl rfl rfl xmv <| ?_
          have hz := bs hB7; obtain ⟨x8, Ex8, hB7⟩ := hz
          have hz := (RV.els r3).ix Ex8; obtain ⟨b6, f3, cs6, e4, i9, i10, q7, hc7⟩ := hz
          cases e4
          obtain ⟨_, _, rfl, rfl, ⟨_, _, rfl, rfl, rfl⟩⟩ := q7
          have hc8 := hc7.ext k7
          refine vl rfl rfl (xixs rfl l6_i8 Try.underlying22 ti56 i9 i10) <| vl rfl rfl (xlda rfl ti56 rfl hc8) <| sal ti56 fun b7 w8 hx4 hg2 hb7 => ?_
          have k9 := k7.tr hx4
          have k10 := k8.tr hx4
          have k11 := K0_i8.tr hx4
          have hb8 := hb6.ext hx4
          have r17 := r16.ext hx4
          have r18 := r15.ext hx4
          refine sst rfl rfl rfl ti56 hb7 rfl rfl (ble rfl) fun w9 hch1 hb9 => ?_
          have k12 := Ext.chg k9 hch1 (Nat.le_trans k7.size hg2)
          have k13 := Ext.chg k10 hch1 (Nat.le_trans k8.size hg2)
          have k14 := Ext.chg k11 hch1 (Nat.le_trans K0_i8.size hg2)
          have k15 := Ext.chg hx4 hch1 (Nat.le_trans (Nat.le_refl _) hg2)
          have hb10 := hb6.ext k15
          have r19 := r16.ext k15
          have r20 := r15.ext k15
          have hb11 : Bx w9 b7 56 [.int .i64 x8.1, .int .i64 x8.2.1, .int .i64 x8.2.2] := hb9
          refine nl <| wp_seq <| wpl [] (.pure true 0 (.pure true 1 (.pure false 2 (.pure true 4 (.pure true 5 (.pure false 6 (.pure true 8 (.pure false 9 (.eff 3 (.eff 7 (.pure true 10 (.pure true 11 .fin)) .stop) .stop))))))))) mixed (by kernel_rfl) (fun w10 hx5 => ?_)
          have k16 := k12.tr hx5
          have k17 := k13.tr hx5
          have k18 := k14.tr hx5
          have k19 := k15.tr hx5
          have hb12 := hb10.ext hx5
          have r21 := r19.ext hx5
          have hb13 := hb11.ext hx5
          have r22 := r20.ext hx5
          refine pv rfl rfl rfl (fun _ _ => xmv) (.inl rfl) <| pv rfl rfl rfl (fun _ _ => xfa rfl fa56_1) (.inl rfl) <| pv rfl rfl rfl (fun _ hS => xld rfl ti3 ((Bx.cs (hb13.ext (hS.resolve_left nofun))).at 1 rfl)) (.inr (Ext.refl _)) <| pv rfl rfl rfl (fun _ _ => xmv) (.inl rfl) <| pv rfl rfl rfl (fun _ _ => xfa rfl fa56_0) (.inl rfl) <| pv rfl rfl rfl (fun _ hS => xld rfl ti3 ((Bx.cs (hb13.ext (hS.resolve_left nofun))).at 0 rfl)) (.inr (Ext.refl _)) <| pv rfl rfl rfl (fun _ _ => xfa rfl fa56_2) (.inl rfl) <| pv rfl rfl rfl (fun _ hS => xld rfl ti2 ((Bx.cs (hb13.ext (hS.resolve_left nofun))).at 2 rfl)) (.inr (Ext.refl _)) <| ?_
          have hz := bs hB7; obtain ⟨x9, Ex9, hB7⟩ := hz
          refine pe1 rfl <| cl rfl rfl (xc cb49 (mc l1_i8 (mc rfl mn))) (c49 r22 Ex9) ?_
          rintro _ w11 ⟨rfl, hx6⟩
          have k20 := k16.tr hx6
          have k21 := k17.tr hx6
          have k22 := k18.tr hx6
          have k23 := k19.tr hx6
          have hb14 := hb12.ext hx6
          have r23 := r21.ext hx6
          have r24 := r22.ext hx6
          refine nl ⟨fun _ _ => hx6, ?_⟩
          have hz := bs hB7; obtain ⟨x10, Ex10, hB7⟩ := hz
          refine pe1 rfl <| cl rfl rfl (xc cb49 (mc l1_i8 (mc rfl mn))) (c49 r24 Ex10) ?_
          rintro _ w12 ⟨rfl, hx7⟩
          have k24 := k20.tr hx7
          have k25 := k21.tr hx7
          have k26 := k22.tr hx7
          have k27 := k23.tr hx7
          have k28 := hx6.tr hx7
          have hb15 := hb14.ext hx7
          have r25 := r23.ext hx7
          have r26 := r24.ext hx7
          refine nl ⟨fun _ _ => k28, ?_⟩
          refine pv rfl rfl rfl (fun _ _ => xadd rfl rfl) (.inl rfl) <| pv rfl rfl rfl (fun _ _ => xgtr rfl rfl) (.inl rfl) <| cnd rfl (fun h9 => ?_) (fun h9 => ?_)
          ·
            have hB7 := ifp hB7 h9
            refine wp_seq <| rg <| vl rfl rfl xas <| nl <| ?_
            cases hB7
            have hF := (show some _ = some _ from hF); cases hF
            exact wp_ret <| rt rfl (.tmp rfl rfl .nil) ⟨rfl, k24⟩
          ·
            have hB7 := ifn hB7 h9
            refine wp_skip <| rg <| vl rfl rfl xmv <| vl rfl rfl (xadd l6_i8 rfl) <| vl rfl rfl xas <| nl <| ?_
            refine lq m (Nat.lt_succ_self _) <| ?_
            exact ⟨_, hB7, rfl, l1_i8, l2_i8, k26⟩
        ·
          have hB7 := ifn hB7 h8
          refine wp_exit <| ?_
          cases hB7
          refine lf <| ?_
          exact ⟨rfl, K0_i8⟩
      rintro L w13 ⟨rfl, K0_j3⟩
      have k29 := k6.tr K0_j3
      have k30 := K0_j2.tr K0_j3
      refine wp_seq <| rg <| vl rfl rfl xas <| nl <| ?_
      cases hF
      exact wp_ret <| rt rfl (.tmp rfl rfl .nil) ⟨rfl, k29⟩

set_option maxHeartbeats 4000000 in
theorem c34 {w0 : World} {x0 : Int} {x1 : Int} {r : (Int × Int)} (hF : law01_rg x0 x1 = some r) :
    Calls Try.prog 34 [.int .i64 x0, .int .i64 x1].toArray w0 (Ret fun v w' => ∃ u0 : Value, v = u0 ∧ RV w' u0 r ∧ Ext w0 w') := by
  unfold law01_rg at hF
  refine entr (n := 8) Try.func34 rfl rfl rfl <| wp_seq <| rg <| sal ti28 fun b3 w1 hx1 hg1 hb1 => ?_
  refine nl <| wp_seq <| rg <| vl rfl rfl xmv <| vl rfl rfl xmv <| vl rfl rfl (xbdv (r := [.int .i64 x0, .int .i64 x1]) ti28 sp28 (pc rfl (pc rfl pn)) rfl) <| sst rfl rfl rfl ti28 hb1 rfl rfl (ble rfl) fun w2 hch1 hb2 => ?_
  have k1 := Ext.chg hx1 hch1 (Nat.le_trans (Nat.le_refl _) hg1)
  have hb3 : Bx w2 b3 28 [.int .i64 x0, .int .i64 x1] := hb2
  refine nl <| ?_
  cases hF
  exact wp_ret <| rt rfl (.cell rfl rfl ti28 rfl (Bx.cs hb3) .nil) ⟨_, rfl, (show RV (α := (Int × Int)) _ (.agg [.int .i64 x0, .int .i64 x1].toArray) (x0, x1) from ⟨_, rfl, ⟨[.int .i64 x0], [.int .i64 x1], rfl, rfl, rfl⟩⟩), k1⟩

set_option maxHeartbeats 4000000 in
theorem c38 {w0 : World} {v0 : Value} {x0 : (Int × Int)} (r0 : RV w0 v0 x0) {v1 : Value} {x1 : (Int × Int)} (r1 : RV w0 v1 x1) {r : Bool} (hF : law01_inside x0 x1 = some r) :
    Calls Try.prog 38 [v0, v1].toArray w0 (Ret fun v w' => v = .bool r ∧ Ext w0 w') := by
  unfold law01_inside at hF
  have hz := id r0; obtain ⟨_, rfl, ⟨_, _, rfl, rfl, rfl⟩⟩ := hz
  have hz := id r1; obtain ⟨_, rfl, ⟨_, _, rfl, rfl, rfl⟩⟩ := hz
  refine entr (n := 24) Try.func38 rfl rfl rfl <| wp_seq <| rg <| sbx rfl rfl fun b3 w1 hx1 hg1 hb1 => ?_
  have r3 := r1.ext hx1
  have r4 := r0.ext hx1
  refine sbx rfl rfl fun b4 w2 hx2 hg2 hb2 => ?_
  have k1 := hx1.tr hx2
  have hb3 := hb1.ext hx2
  have r5 := r3.ext hx2
  refine vl rfl rfl xas <| nl <| wp_seq <| rg <| vl rfl rfl (xfa rfl fa28_0) <| vl rfl rfl (xld rfl ti2 ((Bx.cs hb3).at 0 rfl)) <| vl rfl rfl (xfa rfl fa28_0) <| vl rfl rfl (xld rfl ti2 ((Bx.cs hb2).at 0 rfl)) <| vl rfl rfl (xgeq rfl rfl) <| vl rfl rfl xmv <| gv rfl rfl rfl rfl (gw1 rfl) rfl (fun hc => xfa rfl fa28_1) <| gv rfl rfl rfl rfl (gw1 rfl) rfl (fun hc => xld (mv hc rfl) ti2 ((Bx.cs hb3).at 1 rfl)) <| gv rfl rfl rfl rfl (gw1 rfl) rfl (fun hc => xfa rfl fa28_1) <| gv rfl rfl rfl rfl (gw1 rfl) rfl (fun hc => xld (mv hc rfl) ti2 ((Bx.cs hb2).at 1 rfl)) <| gv rfl rfl rfl rfl (gw1 rfl) rfl (fun hc => xleq (mv hc rfl) (mv hc rfl)) <| vl rfl rfl (xpa rfl rfl rfl) <| vl rfl rfl xmv <| gv rfl rfl rfl rfl (gw1 rfl) rfl (fun hc => xfa rfl fa28_0) <| gv rfl rfl rfl rfl (gw1 rfl) rfl (fun hc => xld (mv hc rfl) ti2 ((Bx.cs hb3).at 0 rfl)) <| gv rfl rfl rfl rfl (gw1 rfl) rfl (fun hc => xfa rfl fa28_1) <| gv rfl rfl rfl rfl (gw1 rfl) rfl (fun hc => xld (mv hc rfl) ti2 ((Bx.cs hb3).at 1 rfl)) <| gv rfl rfl rfl rfl (gw1 rfl) rfl (fun hc => xleq (mv hc rfl) (mv hc rfl)) <| vl rfl rfl (xpa rfl rfl rfl) <| vl rfl rfl xas <| nl <| ?_
  cases hF
  exact wp_ret <| rt rfl (.tmp rfl rfl .nil) ⟨rfl, k1⟩

set_option maxHeartbeats 4000000 in
theorem c39 {w0 : World} {x0 : Int} {x1 : Int} {x2 : Int} {r : (Int × Int × Int)} (hF : law01_Rule x0 x1 x2 = some r) :
    Calls Try.prog 39 [.int .i64 x0, .int .i64 x1, .int .i64 x2].toArray w0 (Ret fun v w' => ∃ u0 : Value, v = u0 ∧ RV w' u0 r ∧ Ext w0 w') := by
  unfold law01_Rule at hF
  refine entr (n := 11) Try.func39 rfl rfl rfl <| wp_seq <| rg <| sal ti56 fun b4 w1 hx1 hg1 hb1 => ?_
  refine nl <| wp_seq <| rg <| vl rfl rfl xmv <| vl rfl rfl xmv <| vl rfl rfl xmv <| vl rfl rfl (xbdv (r := [.int .i64 x0, .int .i64 x1, .int .i64 x2]) ti56 sp56 (pc rfl (pc rfl (pc rfl pn))) rfl) <| sst rfl rfl rfl ti56 hb1 rfl rfl (ble rfl) fun w2 hch1 hb2 => ?_
  have k1 := Ext.chg hx1 hch1 (Nat.le_trans (Nat.le_refl _) hg1)
  have hb3 : Bx w2 b4 56 [.int .i64 x0, .int .i64 x1, .int .i64 x2] := hb2
  refine nl <| ?_
  cases hF
  exact wp_ret <| rt rfl (.cell rfl rfl ti56 rfl (Bx.cs hb3) .nil) ⟨_, rfl, (show RV (α := (Int × Int × Int)) _ (.agg [.int .i64 x0, .int .i64 x1, .int .i64 x2].toArray) (x0, x1, x2) from ⟨_, rfl, ⟨[.int .i64 x0], [.int .i64 x1] ++ [.int .i64 x2], rfl, rfl, ⟨[.int .i64 x1], [.int .i64 x2], rfl, rfl, rfl⟩⟩⟩), k1⟩

set_option maxHeartbeats 4000000 in
theorem c40 {w0 : World} {x0 : Int} {x1 : Int} {v2 : Value} {x2 : (Int × Int)} (r2 : RV w0 v2 x2) {r : Bool} (hF : ref01_Heard x0 x1 x2 = some r) :
    Calls Try.prog 40 [.int .i64 x0, .int .i64 x1, v2].toArray w0 (Ret fun v w' => v = .bool r ∧ Ext w0 w') := by
  unfold ref01_Heard at hF
  have hz := id r2; obtain ⟨_, rfl, ⟨_, _, rfl, rfl, rfl⟩⟩ := hz
  refine entr (n := 27) Try.func40 rfl rfl rfl <| wp_seq <| rg <| sbx rfl rfl fun b4 w1 hx1 hg1 hb1 => ?_
  have r4 := r2.ext hx1
  refine vl rfl rfl xas <| nl <| wp_seq <| rg <| vl rfl rfl xmv <| vl rfl rfl (xgtr rfl rfl) <| vl rfl rfl xmv <| gv rfl rfl rfl rfl (gw1 rfl) rfl (fun hc => xmva rfl) <| gv rfl rfl rfl rfl (gw1 rfl) rfl (fun hc => xmul (mv hc rfl) rfl) <| gv rfl rfl rfl rfl (gw1 rfl) rfl (fun hc => xfa rfl fa28_0) <| gv rfl rfl rfl rfl (gw1 rfl) rfl (fun hc => xld (mv hc rfl) ti2 ((Bx.cs hb1).at 0 rfl)) <| gv rfl rfl rfl rfl (gw1 rfl) rfl (fun hc => xmva rfl) <| gv rfl rfl rfl rfl (gw1 rfl) rfl (fun hc => xmul (mv hc rfl) (mv hc rfl)) <| gv rfl rfl rfl rfl (gw1 rfl) rfl (fun hc => xgeq (mv hc rfl) (mv hc rfl)) <| vl rfl rfl (xpa rfl rfl rfl) <| vl rfl rfl xmv <| gv rfl rfl rfl rfl (gw1 rfl) rfl (fun hc => xmva rfl) <| gv rfl rfl rfl rfl (gw1 rfl) rfl (fun hc => xmul (mv hc rfl) rfl) <| gv rfl rfl rfl rfl (gw1 rfl) rfl (fun hc => xfa rfl fa28_1) <| gv rfl rfl rfl rfl (gw1 rfl) rfl (fun hc => xld (mv hc rfl) ti2 ((Bx.cs hb1).at 1 rfl)) <| gv rfl rfl rfl rfl (gw1 rfl) rfl (fun hc => xmva rfl) <| gv rfl rfl rfl rfl (gw1 rfl) rfl (fun hc => xmul (mv hc rfl) (mv hc rfl)) <| gv rfl rfl rfl rfl (gw1 rfl) rfl (fun hc => xleq (mv hc rfl) (mv hc rfl)) <| vl rfl rfl (xpa rfl rfl rfl) <| vl rfl rfl xas <| nl <| ?_
  cases hF
  exact wp_ret <| rt rfl (.tmp rfl rfl .nil) ⟨rfl, hx1⟩

set_option maxHeartbeats 4000000 in
theorem c42 {w0 : World} {v0 : Value} {x0 : (Int × (List (Int × Int × Int)))} (r0 : RV w0 v0 x0) {F : Nat} {r : ((List (Int × Int × Int)) × Int)} (hF : ref01_Whole F x0 = some r) :
    Calls Try.prog 42 [v0].toArray w0 (Ret fun v w' => ∃ u0 : Value, v = .tuple #[u0, .int .i64 r.2] ∧ RV w' u0 r.1 ∧ Ext w0 w') := by
  unfold ref01_Whole at hF
  have hz := id r0; obtain ⟨_, rfl, ⟨_, _, rfl, rfl, ⟨a1, cq1, rfl, p1, q2, e1⟩⟩⟩ := hz
  have r2 := RV.of1 p1 q2 e1
  refine entr (n := 11) Try.func42 rfl rfl rfl <| wp_seq <| rg <| sbx rfl rfl fun b2 w1 hx1 hg1 hb1 => ?_
  have r3 := r2.ext hx1
  have r4 := r0.ext hx1
  refine vl rfl rfl xas <| vl rfl rfl xas <| nl <| wp_seq <| wp_seq <| rg <| vl rfl rfl (xlda rfl ti24 rfl (Bx.cs hb1)) <| ?_
  have hz := bs hF; obtain ⟨x2, Ex2, hF⟩ := hz
  refine cl rfl rfl (xc cb36 (mc rfl mn)) (c36 (show RV (α := (Int × (List (Int × Int × Int)))) _ (.agg [.int .i64 x0.1, .slice a1 x0.2.length cq1].toArray) (x0.1, x0.2) from ⟨_, rfl, ⟨[.int .i64 x0.1], [.slice a1 x0.2.length cq1], rfl, rfl, r3.rep1⟩⟩) Ex2) ?_
  rintro _ w2 ⟨rfl, hx2⟩
  have k1 := hx1.tr hx2
  have hb2 := hb1.ext hx2
  have r5 := r3.ext hx2
  refine vl rfl rfl (xneq rfl rfl) <| nl <| cnd rfl (fun h2 => ?_) (fun h2 => ?_)
  ·
    have hF := ifp hF h2
    refine wp_seq <| rg <| vl rfl rfl (xlda rfl ti24 rfl (Bx.cs hb2)) <| ?_
    have hz := bs hF; obtain ⟨x3, Ex3, hF⟩ := hz
    refine cl rfl rfl (xc cb36 (mc rfl mn)) (c36 (show RV (α := (Int × (List (Int × Int × Int)))) _ (.agg [.int .i64 x0.1, .slice a1 x0.2.length cq1].toArray) (x0.1, x0.2) from ⟨_, rfl, ⟨[.int .i64 x0.1], [.slice a1 x0.2.length cq1], rfl, rfl, r5.rep1⟩⟩) Ex3) ?_
    rintro _ w3 ⟨rfl, hx3⟩
    have k2 := k1.tr hx3
    refine vl rfl rfl xas <| vl rfl rfl xas <| nl <| ?_
    cases hF
    exact wp_ret <| rt rfl (.tmp rfl rfl (.tmp rfl rfl .nil)) ⟨_, rfl, (RVo.nil (Nat.zero_le _)), k2⟩
  ·
    have hF := ifn hF h2
    refine wp_skip <| wp_seq <| rg <| vl rfl rfl (xlda rfl ti24 rfl (Bx.cs hb2)) <| ?_
    have hz := bs hF; obtain ⟨x4, Ex4, hF⟩ := hz
    refine cl rfl rfl (xc cb62 (mc rfl mn)) (c62 (show RV (α := (Int × (List (Int × Int × Int)))) _ (.agg [.int .i64 x0.1, .slice a1 x0.2.length cq1].toArray) (x0.1, x0.2) from ⟨_, rfl, ⟨[.int .i64 x0.1], [.slice a1 x0.2.length cq1], rfl, rfl, r5.rep1⟩⟩) Ex4) ?_
    rintro _ w4 ⟨u1, rfl, r6, hx4⟩
    have k3 := k1.tr hx4
    have hz := RV.sl r6; obtain ⟨a2, cq2, rfl, -, -, -⟩ := hz
    refine vl rfl rfl xas <| vl rfl rfl xas <| nl <| ?_
    cases hF
    exact wp_ret <| rt rfl (.tmp rfl rfl (.tmp rfl rfl .nil)) ⟨_, rfl, r6, k3⟩

set_option maxHeartbeats 4000000 in
theorem c46 {w0 : World} {v0 : Value} {x0 : (Int × (List (Int × Int × Int)))} (r0 : RV w0 v0 x0) {v1 : Value} {x1 : (List Int)} (r1 : RV w0 v1 x1) {F : Nat} {r : Int} (hF : ref01_CheckCircle F x0 x1 = some r) :
    Calls Try.prog 46 [v0, v1].toArray w0 (Ret fun v w' => v = .int .i64 r ∧ Ext w0 w') := by
  unfold ref01_CheckCircle at hF
  have hz := id r0; obtain ⟨_, rfl, ⟨_, _, rfl, rfl, ⟨a1, cq1, rfl, p1, q3, e1⟩⟩⟩ := hz
  have r3 := RV.of1 p1 q3 e1
  have hz := r1.sl; obtain ⟨a2, cq2, rfl, -, -, -⟩ := hz
  refine entr (n := 52) Try.func46 rfl rfl rfl <| wp_seq <| rg <| sbx rfl rfl fun b3 w1 hx1 hg1 hb1 => ?_
  have r4 := r1.ext hx1
  have r5 := r3.ext hx1
  have r6 := r0.ext hx1
  refine vl rfl rfl xas <| nl <| wp_seq <| wp_seq <| rg <| vl rfl rfl (xlda rfl ti24 rfl (Bx.cs hb1)) <| ?_
  have hz := bs hF; obtain ⟨x3, Ex3, hF⟩ := hz
  refine cl rfl rfl (xc cb36 (mc rfl mn)) (c36 (show RV (α := (Int × (List (Int × Int × Int)))) _ (.agg [.int .i64 x0.1, .slice a1 x0.2.length cq1].toArray) (x0.1, x0.2) from ⟨_, rfl, ⟨[.int .i64 x0.1], [.slice a1 x0.2.length cq1], rfl, rfl, r5.rep1⟩⟩) Ex3) ?_
  rintro _ w2 ⟨rfl, hx2⟩
  have k1 := hx1.tr hx2
  have hb2 := hb1.ext hx2
  have r7 := r5.ext hx2
  have r8 := r4.ext hx2
  refine vl rfl rfl (xneq rfl rfl) <| nl <| cnd rfl (fun h3 => ?_) (fun h3 => ?_)
  ·
    have hF := ifp hF h3
    refine wp_seq <| rg <| vl rfl rfl (xlda rfl ti24 rfl (Bx.cs hb2)) <| ?_
    have hz := bs hF; obtain ⟨x4, Ex4, hF⟩ := hz
    refine cl rfl rfl (xc cb36 (mc rfl mn)) (c36 (show RV (α := (Int × (List (Int × Int × Int)))) _ (.agg [.int .i64 x0.1, .slice a1 x0.2.length cq1].toArray) (x0.1, x0.2) from ⟨_, rfl, ⟨[.int .i64 x0.1], [.slice a1 x0.2.length cq1], rfl, rfl, r7.rep1⟩⟩) Ex4) ?_
    rintro _ w3 ⟨rfl, hx3⟩
    have k2 := k1.tr hx3
    refine vl rfl rfl xas <| nl <| ?_
    cases hF
    exact wp_ret <| rt rfl (.tmp rfl rfl .nil) ⟨rfl, k2⟩
  ·
    have hF := ifn hF h3
    refine wp_skip <| wp_seq <| wp_seq <| rg <| vl rfl rfl xmv <| vl rfl rfl (xlen rfl Try.underlying36) <| vl rfl rfl (xlss rfl rfl) <| vl rfl rfl xmv <| gv rfl rfl rfl rfl (gw0 rfl) rfl (fun hc => xmva rfl) <| gv rfl rfl rfl rfl (gw0 rfl) rfl (fun hc => xlen (mv hc rfl) Try.underlying36) <| gv rfl rfl rfl rfl (gw0 rfl) rfl (fun hc => xgtr (mv hc rfl) rfl) <| vl rfl rfl (xpo rfl rfl rfl) <| nl <| cnd rfl (fun h4 => ?_) (fun h4 => ?_)
    ·
      have hF := ifp hF h4
      refine wp_seq <| rg <| vl rfl rfl xas <| nl <| ?_
      cases hF
      exact wp_ret <| rt rfl (.tmp rfl rfl .nil) ⟨rfl, k1⟩
    ·
      have hF := ifn hF h4
      refine wp_skip <| wp_seq <| rg <| vl rfl rfl (xlda rfl ti24 rfl (Bx.cs hb2)) <| vl rfl rfl xmv <| ?_
      have hz := bs hF; obtain ⟨x5, Ex5, hF⟩ := hz
      refine cl rfl rfl (xc cb61 (mc rfl (mc rfl mn))) (c61 (show RV (α := (Int × (List (Int × Int × Int)))) _ (.agg [.int .i64 x0.1, .slice a1 x0.2.length cq1].toArray) (x0.1, x0.2) from ⟨_, rfl, ⟨[.int .i64 x0.1], [.slice a1 x0.2.length cq1], rfl, rfl, r7.rep1⟩⟩) r8 Ex5) ?_
      rintro _ w4 ⟨rfl, hx4⟩
      have k3 := k1.tr hx4
      have hb3 := hb2.ext hx4
      have r9 := r7.ext hx4
      have r10 := r8.ext hx4
      refine vl rfl rfl xmv <| vl rfl rfl (xext rfl rfl) <| vl rfl rfl (xext rfl rfl) <| vl rfl rfl xas <| vl rfl rfl xas <| nl <| wp_seq <| wp_seq <| rg <| vl rfl rfl xmv <| vl rfl rfl (xneq rfl rfl) <| nl <| cnd rfl (fun h5 => ?_) (fun h5 => ?_)
      ·
        have hF := ifp hF h5
        refine wp_seq <| rg <| vl rfl rfl xmv <| vl rfl rfl xas <| nl <| ?_
        cases hF
        exact wp_ret <| rt rfl (.tmp rfl rfl .nil) ⟨rfl, k3⟩
      ·
        have hF := ifn hF h5
        refine wp_skip <| wp_seq <| rg <| vl rfl rfl (xlda rfl ti24 rfl (Bx.cs hb3)) <| ?_
        have hz := bs hF; obtain ⟨x6, Ex6, hF⟩ := hz
        refine cl rfl rfl (xc cb62 (mc rfl mn)) (c62 (show RV (α := (Int × (List (Int × Int × Int)))) _ (.agg [.int .i64 x0.1, .slice a1 x0.2.length cq1].toArray) (x0.1, x0.2) from ⟨_, rfl, ⟨[.int .i64 x0.1], [.slice a1 x0.2.length cq1], rfl, rfl, r9.rep1⟩⟩) Ex6) ?_
        rintro _ w5 ⟨u1, rfl, r11, hx5⟩
        have k4 := k3.tr hx5
        have r12 := r10.ext hx5
        have hz := RV.sl r11; obtain ⟨a3, cq3, rfl, -, -, -⟩ := hz
        refine vl rfl rfl xas <| nl <| wp_seq <| wp_seq <| wpl [] (.pure true 0 (.pure true 1 (.pure true 2 (.pure false 3 (.pure true 4 (.pure true 5 (.pure false 6 (.pure true 7 (.pure true 8 (.pure true 9 (.pure false 10 (.pure true 11 (.pure true 12 (.pure false 13 (.pure true 14 (.pure true 15 (.pure false 16 (.pure true 17 .fin)))))))))))))))))) mixed (by kernel_rfl) (fun w6 hx6 => ?_)
        have k5 := k4.tr hx6
        have r13 := r12.ext hx6
        have r14 := r11.ext hx6
        refine pv rfl rfl rfl (fun _ _ => xmv) (.inl rfl) <| pv rfl rfl rfl (fun _ _ => xmv) (.inl rfl) <| ?_
        have hz := bs hF; obtain ⟨x7, Ex7, hF⟩ := hz
        have hz := (RV.els r1).ix Ex7; obtain ⟨b4, f1, cs3, e2, i1, i2, q4, hc1⟩ := hz
        cases e2
        obtain rfl := q4
        have hc2 := hc1.ext k5
        refine pv rfl rfl rfl (fun _ _ => xixs rfl rfl Try.underlying36 ti3 i1 i2) (.inl rfl) <| pv rfl rfl rfl (fun _ hS => xld rfl ti3 ((hc2.ext (hS.resolve_left nofun)).at 0 rfl)) (.inr (Ext.refl _)) <| ?_
        have hz := bs hF; obtain ⟨x8, Ex8, hF⟩ := hz
        have hz := (RV.els r14).ix Ex8; obtain ⟨b5, f2, cs4, e3, i3, i4, q5, hc3⟩ := hz
        cases e3
        obtain ⟨_, _, rfl, rfl, ⟨_, _, rfl, rfl, rfl⟩⟩ := q5
        refine pv rfl rfl rfl (fun _ _ => xixs rfl rfl Try.underlying22 ti56 i3 i4) (.inl rfl) <| pv rfl rfl rfl (fun _ _ => xfa rfl fa56_0) (.inl rfl) <| pv rfl rfl rfl (fun _ hS => xld rfl ti3 ((hc3.ext (hS.resolve_left nofun)).at 0 rfl)) (.inr (Ext.refl _)) <| pv rfl rfl rfl (fun _ _ => xmv) (.inl rfl) <| pv rfl rfl rfl (fun _ _ => xmv) (.inl rfl) <| pv rfl rfl rfl (fun _ _ => xmv) (.inl rfl) <| pv rfl rfl rfl (fun _ hS => xlen rfl Try.underlying36) (.inr (Ext.refl _)) <| pv rfl rfl rfl (fun _ _ => xsub rfl rfl) (.inl rfl) <| ?_
        have hz := bs hF; obtain ⟨x9, Ex9, hF⟩ := hz
        have hz := ix2 r1 Ex9; obtain ⟨cs5, i5, i6, q6, hc4⟩ := hz
        obtain rfl := q6
        have hc5 := hc4.ext k5
        refine pv rfl rfl rfl (fun _ _ => xixs rfl rfl Try.underlying36 ti3 i5 i6) (.inl rfl) <| pv rfl rfl rfl (fun _ hS => xld rfl ti3 ((hc5.ext (hS.resolve_left nofun)).at 0 rfl)) (.inr (Ext.refl _)) <| ?_
        have hz := bs hF; obtain ⟨x10, Ex10, hF⟩ := hz
        have hz := ix2 r14 Ex10; obtain ⟨cs6, i7, i8, q7, hc6⟩ := hz
        obtain ⟨_, _, rfl, rfl, ⟨_, _, rfl, rfl, rfl⟩⟩ := q7
        refine pv rfl rfl rfl (fun _ _ => xixs rfl rfl Try.underlying22 ti56 i7 i8) (.inl rfl) <| pv rfl rfl rfl (fun _ _ => xfa rfl fa56_1) (.inl rfl) <| pv rfl rfl rfl (fun _ hS => xld rfl ti3 ((hc6.ext (hS.resolve_left nofun)).at 1 rfl)) (.inr (Ext.refl _)) <| pv rfl rfl rfl (fun _ _ => xneq rfl rfl) (.inl rfl) <| cnd rfl (fun h6 => ?_) (fun h6 => ?_)
        ·
          have hF := ifp hF h6
          refine wp_seq <| rg <| vl rfl rfl xas <| nl <| ?_
          cases hF
          exact wp_ret <| rt rfl (.tmp rfl rfl .nil) ⟨rfl, k5⟩
        ·
          have hF := ifn hF h6
          refine wp_skip <| wp_seq <| wp_seq <| rg <| vl rfl rfl xmv <| vl rfl rfl (xgeq rfl rfl) <| nl <| cnd rfl (fun h7 => ?_) (fun h7 => ?_)
          ·
            have hF := ifp hF h7
            refine wp_seq <| rg <| vl rfl rfl xas <| nl <| ?_
            cases hF
            exact wp_ret <| rt rfl (.tmp rfl rfl .nil) ⟨rfl, k5⟩
          ·
            have hF := ifn hF h7
            refine wp_skip <| wp_seq <| rg <| vl rfl rfl xas <| nl <| ?_
            cases hF
            exact wp_ret <| rt rfl (.tmp rfl rfl .nil) ⟨rfl, k5⟩

set_option maxHeartbeats 4000000 in
theorem c52 {w0 : World} {v0 : Value} {x0 : (List Int)} (r0 : RV w0 v0 x0) {v1 : Value} {x1 : (List Int)} (r1 : RV w0 v1 x1) {F : Nat} {r : Bool} (hF : law01_ints F x0 x1 = some r) :
    Calls Try.prog 52 [v0, v1].toArray w0 (Ret fun v w' => v = .bool r ∧ Ext w0 w') := by
  unfold law01_ints at hF
  have hz := r0.sl; obtain ⟨a1, cq1, rfl, -, -, -⟩ := hz
  have hz := r1.sl; obtain ⟨a2, cq2, rfl, -, -, -⟩ := hz
  refine entr (n := 26) Try.func52 rfl rfl rfl <| wp_seq <| rg <| vl rfl rfl xas <| nl <| wp_seq <| wp_seq <| rg <| vl rfl rfl xmv <| vl rfl rfl (xlen rfl Try.underlying36) <| vl rfl rfl xmv <| vl rfl rfl (xlen rfl Try.underlying36) <| vl rfl rfl (xneq rfl rfl) <| nl <| cnd rfl (fun h3 => ?_) (fun h3 => ?_)
  ·
    have hF := ifp hF h3
    refine wp_seq <| rg <| vl rfl rfl xas <| nl <| ?_
    cases hF
    exact wp_ret <| rt rfl (.tmp rfl rfl .nil) ⟨rfl, (Ext.refl _)⟩
  ·
    have hF := ifn hF h3
    refine wp_skip <| wp_seq <| wp_seq <| rg <| vl rfl rfl xas <| nl <| ?_
    have hz := bs hF; obtain ⟨o1, hB1, hF⟩ := hz
    refine ct (fun L w => o1 = .inr () ∧ Ext w0 w) ?_ ?_
    ·
      refine wp_block <| lp (I := fun m L w => ∃ y1 : Int, law01_ints_l1 F x0 x1 m y1  = some o1 ∧ L 5 = .int .i64 y1 ∧ L 0 = .slice a1 x0.length cq1 ∧ L 1 = .slice a2 x1.length cq2 ∧ Ext w0 w) F ⟨_, hB1, rfl, rfl, rfl, (Ext.refl _)⟩ ?_
      rintro m L w1 ⟨y1, hB1, l5_i1, l0_i1, l1_i1, K0_i1⟩
      rcases m with _ | m
      · rw [law01_ints_l1] at hB1; cases hB1
      rw [law01_ints_l1] at hB1
      have r3 := r0.ext K0_i1
      have r4 := r1.ext K0_i1
      refine wp_seq <| wp_seq <| rg <| vl rfl rfl xmv <| vl rfl rfl xmv <| vl rfl rfl (xlen l0_i1 Try.underlying36) <| vl rfl rfl (xlss l5_i1 rfl) <| nl <| cnd rfl (fun h4 => ?_) (fun h4 => ?_)
      ·
        have hB1 := ifp hB1 h4
        refine wp_skip <| wp_seq <| wp_block <| wp_seq <| wpl [] (.pure true 0 (.pure true 1 (.pure true 2 (.pure false 3 (.pure true 4 (.pure true 5 (.pure true 6 (.pure false 7 (.pure true 8 .fin))))))))) mixed (by kernel_rfl) (fun w2 hx1 => ?_)
        have k1 := K0_i1.tr hx1
        have r5 := r3.ext hx1
        have r6 := r4.ext hx1
        refine pv rfl rfl rfl (fun _ _ => xmv) (.inl rfl) <| pv rfl rfl rfl (fun _ _ => xmv) (.inl rfl) <| ?_
        have hz := bs hB1; obtain ⟨x3, Ex3, hB1⟩ := hz
        have hz := (RV.els r0).ix Ex3; obtain ⟨b3, f1, cs3, e1, i2, i3, q3, hc1⟩ := hz
        cases e1
        obtain rfl := q3
        have hc2 := hc1.ext k1
        refine pv rfl rfl rfl (fun _ _ => xixs l0_i1 l5_i1 Try.underlying36 ti3 i2 i3) (.inl rfl) <| pv rfl rfl rfl (fun _ hS => xld rfl ti3 ((hc2.ext (hS.resolve_left nofun)).at 0 rfl)) (.inr (Ext.refl _)) <| pv rfl rfl rfl (fun _ _ => xmv) (.inl rfl) <| pv rfl rfl rfl (fun _ _ => xmv) (.inl rfl) <| ?_
        have hz := bs hB1; obtain ⟨x4, Ex4, hB1⟩ := hz
        have hz := (RV.els r1).ix Ex4; obtain ⟨b4, f2, cs4, e2, i4, i5, q4, hc3⟩ := hz
        cases e2
        obtain rfl := q4
        have hc4 := hc3.ext k1
        refine pv rfl rfl rfl (fun _ _ => xixs l1_i1 l5_i1 Try.underlying36 ti3 i4 i5) (.inl rfl) <| pv rfl rfl rfl (fun _ hS => xld rfl ti3 ((hc4.ext (hS.resolve_left nofun)).at 0 rfl)) (.inr (Ext.refl _)) <| pv rfl rfl rfl (fun _ _ => xneq rfl rfl) (.inl rfl) <| cnd rfl (fun h5 => ?_) (fun h5 => ?_)
        ·
          have hB1 := ifp hB1 h5
          refine wp_seq <| rg <| vl rfl rfl xas <| nl <| ?_
          cases hB1
          have hF := (show some _ = some _ from hF); cases hF
          exact wp_ret <| rt rfl (.tmp rfl rfl .nil) ⟨rfl, k1⟩
        ·
          have hB1 := ifn hB1 h5
          refine wp_skip <| rg <| vl rfl rfl xmv <| vl rfl rfl (xadd l5_i1 rfl) <| vl rfl rfl xas <| nl <| ?_
          refine lq m (Nat.lt_succ_self _) <| ?_
          exact ⟨_, hB1, rfl, l0_i1, l1_i1, k1⟩
      ·
        have hB1 := ifn hB1 h4
        refine wp_exit <| ?_
        cases hB1
        refine lf <| ?_
        exact ⟨rfl, K0_i1⟩
    rintro L w3 ⟨rfl, K0_j1⟩
    refine wp_seq <| rg <| vl rfl rfl xas <| nl <| ?_
    cases hF
    exact wp_ret <| rt rfl (.tmp rfl rfl .nil) ⟨rfl, K0_j1⟩

set_option maxHeartbeats 4000000 in
theorem c56 {w0 : World} {x0 : Int} {b1 : Nat} {cs1 : List Value} {x1 : (Ar 21 Int)} (h1 : Cs w0 b1 0 cs1) (q1 : Enc.rep (fun _ => True) w0 cs1 x1) {r : Int} (hF : speed_Ends_1 x0 x1 = some r) :
    Calls Try.prog 56 [.int .i64 x0, .pointer (some ⟨b1, 0, none⟩)].toArray w0 (Ret fun v w' => v = .int .i64 r ∧ Ext w0 w') := by
  unfold speed_Ends_1 at hF
  obtain rfl := q1
  refine entr (n := 7) Try.func56 rfl rfl rfl <| wp_seq <| rg <| vl rfl rfl xas <| nl <| wp_seq <| rg <| vl rfl rfl xmv <| ?_
  have hz := bs hF; obtain ⟨x3, Ex3, hF⟩ := hz
  have hz := ixar h1 Ex3; obtain ⟨i1, i2, hc1⟩ := hz
  refine vl rfl rfl (xixa rfl rfl Try.underlying83 ti2 i1 i2) <| vl rfl rfl (xld rfl ti2 (hc1.at 0 rfl)) <| vl rfl rfl xas <| nl <| ?_
  cases hF
  exact wp_ret <| rt rfl (.tmp rfl rfl .nil) ⟨rfl, (Ext.refl _)⟩

set_option maxHeartbeats 4000000 in
theorem c65 {w0 : World} {v0 : Value} {x0 : (Ar 21 Int)} (r0 : RV w0 v0 x0) {v1 : Value} {x1 : (Int × Int × Int)} (r1 : RV w0 v1 x1) {r : Bool} (hF : speed_list_keeps x0 x1 = some r) :
    Calls Try.prog 65 [v0, v1].toArray w0 (Ret fun v w' => v = .bool r ∧ Ext w0 w') := by
  unfold speed_list_keeps at hF
  have hz := id r0; obtain ⟨_, rfl, rfl⟩ := hz
  have hz := id r1; obtain ⟨_, rfl, ⟨_, _, rfl, rfl, ⟨_, _, rfl, rfl, rfl⟩⟩⟩ := hz
  refine entr (n := 17) Try.func65 rfl rfl rfl <| wp_seq <| rg <| sbx rfl rfl fun b3 w1 hx1 hg1 hb1 => ?_
  have r3 := r1.ext hx1
  have r4 := r0.ext hx1
  refine sbx rfl rfl fun b4 w2 hx2 hg2 hb2 => ?_
  have k1 := hx1.tr hx2
  have hb3 := hb1.ext hx2
  have r5 := r3.ext hx2
  refine vl rfl rfl xas <| nl <| wp_seq <| wpl [] (.pure true 0 (.pure false 1 (.pure true 2 (.pure false 3 (.pure true 4 (.pure false 5 (.pure true 6 (.pure false 7 (.pure true 8 (.pure false 9 (.pure true 10 (.pure true 11 (.pure true 12 .fin))))))))))))) mixed (by kernel_rfl) (fun w3 hx3 => ?_)
  have k2 := k1.tr hx3
  have k3 := hx2.tr hx3
  have hb4 := hb3.ext hx3
  have hb5 := hb2.ext hx3
  refine pv rfl rfl rfl (fun _ _ => xfa rfl fa56_1) (.inl rfl) <| pv rfl rfl rfl (fun _ hS => xld rfl ti3 ((Bx.cs (hb5.ext (hS.resolve_left nofun))).at 1 rfl)) (.inr (Ext.refl _)) <| ?_
  have hz := bs hF; obtain ⟨x3, Ex3, hF⟩ := hz
  have hz := ixar (Bx.cs hb4) Ex3; obtain ⟨i1, i2, hc1⟩ := hz
  refine pv rfl rfl rfl (fun _ _ => xixa rfl rfl Try.underlying83 ti2 i1 i2) (.inl rfl) <| pv rfl rfl rfl (fun _ hS => xld rfl ti2 ((hc1.ext (hS.resolve_left nofun)).at 0 rfl)) (.inr (Ext.refl _)) <| pv rfl rfl rfl (fun _ _ => xfa rfl fa56_0) (.inl rfl) <| pv rfl rfl rfl (fun _ hS => xld rfl ti3 ((Bx.cs (hb5.ext (hS.resolve_left nofun))).at 0 rfl)) (.inr (Ext.refl _)) <| ?_
  have hz := bs hF; obtain ⟨x4, Ex4, hF⟩ := hz
  have hz := ixar (Bx.cs hb4) Ex4; obtain ⟨i3, i4, hc2⟩ := hz
  refine pv rfl rfl rfl (fun _ _ => xixa rfl rfl Try.underlying83 ti2 i3 i4) (.inl rfl) <| pv rfl rfl rfl (fun _ hS => xld rfl ti2 ((hc2.ext (hS.resolve_left nofun)).at 0 rfl)) (.inr (Ext.refl _)) <| pv rfl rfl rfl (fun _ _ => xfa rfl fa56_2) (.inl rfl) <| pv rfl rfl rfl (fun _ hS => xld rfl ti2 ((Bx.cs (hb5.ext (hS.resolve_left nofun))).at 2 rfl)) (.inr (Ext.refl _)) <| pv rfl rfl rfl (fun _ _ => xadd rfl rfl) (.inl rfl) <| pv rfl rfl rfl (fun _ _ => xleq rfl rfl) (.inl rfl) <| pv rfl rfl rfl (fun _ _ => xas) (.inl rfl) <| ?_
  cases hF
  exact wp_ret <| rt rfl (.tmp rfl rfl .nil) ⟨rfl, k2⟩

set_option maxHeartbeats 4000000 in
theorem c79 {w0 : World} {x0 : Int} {b1 : Nat} {cs1 : List Value} {x1 : (Ob ((Int × (List (Int × Int × Int))) × (List (Int × Int × Int))))} (h1 : Cs w0 b1 0 cs1) (q1 : Enc.rep (fun _ => True) w0 cs1 x1) {r : Bool} (hF : speed_net_follow_1 x0 x1 = some r) :
    Calls Try.prog 79 [.int .i64 x0, .pointer (some ⟨b1, 0, none⟩)].toArray w0 (Ret fun v w' => v = .bool r ∧ Ext w0 w') := by
  unfold speed_net_follow_1 at hF
  have q3 := q1
  have hz := obRep q3; obtain ⟨a1, rfl, r3⟩ := hz
  refine entr (n := 15) Try.func79 rfl rfl rfl <| wp_seq <| rg <| vl rfl rfl xas <| nl <| wp_seq <| rg <| vl rfl rfl xmv <| vl rfl rfl (xlss rfl rfl) <| vl rfl rfl xmv <| gv rfl rfl rfl rfl (gw0 rfl) rfl (fun hc => xmva rfl) <| gv rfl rfl rfl rfl (gw0 rfl) rfl (fun hc => xld rfl ti79 (h1.at 0 rfl)) <| ?_
  have hz := bs hF; obtain ⟨x3, Ex3, hF⟩ := hz
  have hz := obGet r3 Ex3; obtain ⟨b3, cs3, e1, q4, hc1⟩ := hz
  cases e1
  obtain ⟨_, _, rfl, ⟨_, _, rfl, rfl, ⟨a2, cq1, rfl, p1, q5, e2⟩⟩, ⟨a3, cq2, rfl, p2, q6, e3⟩⟩ := q4
  have r4 := RV.of1 p1 q5 e2
  have r5 := RV.of1 p2 q6 e3
  refine gv rfl rfl rfl rfl (gw0 rfl) rfl (fun hc => xnil (mv hc rfl)) <| gv rfl rfl rfl rfl (gw0 rfl) rfl (fun hc => xfa (mv hc rfl) fa91_1) <| gv rfl rfl rfl rfl (gw0 rfl) rfl (fun hc => xld (mv hc rfl) ti22 (hc1.at 2 rfl)) <| gv rfl rfl rfl rfl (gw0 rfl) rfl (fun hc => xlen (mv hc rfl) Try.underlying22) <| gv rfl rfl rfl rfl (gw0 rfl) rfl (fun hc => xgeq (mv hc rfl) (mv hc rfl)) <| vl rfl rfl (xpo rfl rfl rfl) <| vl rfl rfl xas <| nl <| ?_
  cases hF
  exact wp_ret <| rt rfl (.tmp rfl rfl .nil) ⟨rfl, (Ext.refl _)⟩

set_option maxHeartbeats 4000000 in
theorem c71 {w0 : World} {b0 : Nat} {cs0 : List Value} {x0 : ((Int × (List (Int × Int × Int))) × (List (Int × Int × Int)))} (h0 : Cs w0 b0 0 cs0) (q0 : Enc.rep (fun _ => True) w0 cs0 x0) {v1 : Value} {x1 : (List Int)} (r1 : RV w0 v1 x1) {F : Nat} {r : (Int × Int × Int × Int)} (hF : speed_net_follow F x0 x1 = some r) :
    Calls Try.prog 71 [.pointer (some ⟨b0, 0, none⟩), v1].toArray w0 (Ret fun v w' => v = .tuple #[.int .i64 r.1, .int .i64 r.2.1, .int .i64 r.2.2.1, .int .i64 r.2.2.2] ∧ Ext w0 w') := by
  unfold speed_net_follow at hF
  obtain ⟨_, _, rfl, ⟨_, _, rfl, rfl, ⟨a1, cq1, rfl, p1, q3, e1⟩⟩, ⟨a2, cq2, rfl, p2, q4, e2⟩⟩ := q0
  have r3 := RV.of1 p1 q3 e1
  have r4 := RV.of1 p2 q4 e2
  have hz := r1.sl; obtain ⟨a3, cq3, rfl, -, -, -⟩ := hz
  refine entr (n := 59) Try.func71 rfl rfl rfl <| wp_seq <| rg <| sbx rfl rfl fun b3 w1 hx1 hg1 hb1 => ?_
  have r5 := r1.ext hx1
  have r6 := r3.ext hx1
  have r7 := r4.ext hx1
  have h3 := h0.ext hx1
  refine vl rfl rfl xas <| vl rfl rfl xas <| vl rfl rfl xas <| vl rfl rfl xas <| nl <| wp_seq <| wp_seq <| rg <| vl rfl rfl xmv <| vl rfl rfl (xmf mn (mc rfl mn)) <| ?_
  have hz := bs hF; obtain ⟨x3, Ex3, hF⟩ := hz
  refine cl rfl rfl (xc cb72 (mc rfl (mc rfl mn))) (c72 r5 ⟨79, [], [.pointer (some ⟨b3, 0, none⟩)], rfl, cb79, fun w' u x b hk hu hp => by cases RVo.int.1 hu; exact c79 (Bx.cs (hb1.ext hk)) (obRep1 (obNew (h3.ext hk) rfl ⟨[.int .i64 x0.1.1] ++ [.slice a1 x0.1.2.length cq1], [.slice a2 x0.2.length cq2], rfl, ⟨[.int .i64 x0.1.1], [.slice a1 x0.1.2.length cq1], rfl, rfl, (r6.ext hk).rep1⟩, (r7.ext hk).rep1⟩)) hp⟩ Ex3) ?_
  rintro _ w2 ⟨rfl, hx2⟩
  have k1 := hx1.tr hx2
  have hb2 := hb1.ext hx2
  have r8 := r6.ext hx2
  have r9 := r7.ext hx2
  have h4 := h3.ext hx2
  have r10 := r5.ext hx2
  refine nl <| cnd rfl (fun h5 => ?_) (fun h5 => ?_)
  ·
    have hF := ifp hF h5
    refine wp_seq <| rg <| vl rfl rfl xas <| vl rfl rfl xas <| vl rfl rfl xas <| vl rfl rfl xas <| nl <| ?_
    cases hF
    exact wp_ret <| rt rfl (.tmp rfl rfl (.tmp rfl rfl (.tmp rfl rfl (.tmp rfl rfl .nil)))) ⟨rfl, k1⟩
  ·
    have hF := ifn hF h5
    refine wp_skip <| wp_seq <| rg <| vl rfl rfl (xbdv (r := [.int .i64 0, .int .i64 0, .int .i64 0]) ti56 sp56 pn rfl) <| sal ti56 fun b4 w3 hx3 hg2 hb3 => ?_
    have k2 := k1.tr hx3
    have hb4 := hb2.ext hx3
    have r11 := r8.ext hx3
    have r12 := r9.ext hx3
    have h6 := h4.ext hx3
    have r13 := r10.ext hx3
    refine sst rfl rfl rfl ti56 hb3 rfl rfl (ble rfl) fun w4 hch1 hb5 => ?_
    have k3 := Ext.chg k2 hch1 (Nat.le_trans k1.size hg2)
    have k4 := Ext.chg hx3 hch1 (Nat.le_trans (Nat.le_refl _) hg2)
    have hb6 := hb2.ext k4
    have r14 := r8.ext k4
    have r15 := r9.ext k4
    have h7 := h4.ext k4
    have r16 := r10.ext k4
    have hb7 : Bx w4 b4 56 [.int .i64 0, .int .i64 0, .int .i64 0] := hb5
    refine nl <| wp_seq <| ?_
    have hz := bs hF; obtain ⟨⟨y1, y2⟩, hB1, hF⟩ := hz
    refine ct (fun L w => ∃ v3 v4 : Value, L 9 = v3 ∧ PB 56 w4.heap.size w v3 y1 ∧ L 10 = v4 ∧ PB 56 w4.heap.size w v4 y2 ∧ v3 ≠ v4 ∧ L 1 = .slice a3 x1.length cq3 ∧ L 2 = .pointer (some ⟨b3, 0, none⟩) ∧ L 8 = .pointer (some ⟨b4, 0, none⟩) ∧ Ext w4 w) ?_ ?_
    ·
      refine wpl [] (.pure false 0 (.pure false 1 (.eff 2 (.eff 3 (.eff 4 (.eff 5 .fin .stop) .stop) .stop) (.eff 3 (.eff 2 (.eff 4 (.eff 5 .fin .stop) .stop) .stop) .stop)))) mixed (by kernel_rfl) (fun w10 hx7 => ?_)
      have k22 := k3.tr hx7
      have k23 := k4.tr hx7
      have hb27 := hb6.ext hx7
      have r32 := r14.ext hx7
      have r33 := r15.ext hx7
      have h13 := h7.ext hx7
      have hb28 := hb7.ext hx7
      have r34 := r16.ext hx7
      refine pv rfl rfl rfl (fun _ hS => xlda rfl ti56 rfl (Bx.cs (hb28.ext (hS.resolve_left nofun)))) (.inr (Ext.refl _)) <| pv rfl rfl rfl (fun _ hS => xlda rfl ti56 rfl (Bx.cs (hb28.ext (hS.resolve_left nofun)))) (.inr (Ext.refl _)) <| ?_
      refine pe rfl ?_ ?_
      ·
        refine sal ti56 fun b7 w11 hx8 hg5 hb29 => ?_
        have k24 := k22.tr hx8
        have k25 := k23.tr hx8
        have k26 := hx7.tr hx8
        have hb30 := hb27.ext hx8
        have r35 := r32.ext hx8
        have r36 := r33.ext hx8
        have h14 := h13.ext hx8
        have hb31 := hb28.ext hx8
        have r37 := r34.ext hx8
        refine nl ⟨fun _ _ => hx8, ?_⟩
        refine pe1 rfl <| sal ti56 fun b8 w12 hx9 hg6 hb32 => ?_
        have k27 := k24.tr hx9
        have k28 := k25.tr hx9
        have k29 := k26.tr hx9
        have k30 := hx8.tr hx9
        have hb33 := hb30.ext hx9
        have r38 := r35.ext hx9
        have r39 := r36.ext hx9
        have h15 := h14.ext hx9
        have hb34 := hb31.ext hx9
        have hb35 := hb29.ext hx9
        have r40 := r37.ext hx9
        refine nl ⟨fun _ _ => k30, ?_⟩
        refine pe1 rfl <| sst rfl rfl rfl ti56 hb35 rfl rfl (ble rfl) fun w13 hch4 hb36 => ?_
        have k31 := Ext.chg k27 hch4 (Nat.le_trans k22.size hg5)
        have k32 := Ext.chg k28 hch4 (Nat.le_trans k23.size hg5)
        have k33 := Ext.chg k29 hch4 (Nat.le_trans hx7.size hg5)
        have k34 := Ext.chg k30 hch4 (Nat.le_trans (Nat.le_refl _) hg5)
        have hb37 := hb27.ext k34
        have r41 := r32.ext k34
        have r42 := r33.ext k34
        have h16 := h13.ext k34
        have hb38 := hb28.ext k34
        have hb39 := Bx.chg hb32 hch4 (Ne.symm (Nat.ne_of_lt (Nat.lt_of_lt_of_le hb29.lt hg6)))
        have r43 := r34.ext k34
        have hb40 : Bx w13 b7 56 [.int .i64 0, .int .i64 0, .int .i64 0] := hb36
        refine nl ⟨fun _ _ => k34, ?_⟩
        refine pe1 rfl <| sst rfl rfl rfl ti56 hb39 rfl rfl (ble rfl) fun w14 hch5 hb41 => ?_
        have k35 := Ext.chg k31 hch5 (Nat.le_trans k22.size (Nat.le_trans hx8.size hg6))
        have k36 := Ext.chg k32 hch5 (Nat.le_trans k23.size (Nat.le_trans hx8.size hg6))
        have k37 := Ext.chg k33 hch5 (Nat.le_trans hx7.size (Nat.le_trans hx8.size hg6))
        have k38 := Ext.chg k34 hch5 (Nat.le_trans (Nat.le_refl _) (Nat.le_trans hx8.size hg6))
        have hb42 := hb27.ext k38
        have r44 := r32.ext k38
        have r45 := r33.ext k38
        have h17 := h13.ext k38
        have hb43 := hb28.ext k38
        have hb44 := Bx.chg hb40 hch5 (Nat.ne_of_lt (Nat.lt_of_lt_of_le hb29.lt hg6))
        have r46 := r34.ext k38
        have hb45 : Bx w14 b8 56 [.int .i64 0, .int .i64 0, .int .i64 0] := hb41
        refine nl ⟨fun _ _ => k38, ?_⟩
        cases hB1
        refine lf <| ?_
        exact ⟨_, _, rfl, ⟨_, _, rfl, (Nat.le_trans hx7.size hg5), hb44, ⟨[.int .i64 0], [.int .i64 0] ++ [.int .i64 0], rfl, rfl, ⟨[.int .i64 0], [.int .i64 0], rfl, rfl, rfl⟩⟩⟩, rfl, ⟨_, _, rfl, (Nat.le_trans hx7.size (Nat.le_trans hx8.size hg6)), hb45, ⟨[.int .i64 0], [.int .i64 0] ++ [.int .i64 0], rfl, rfl, ⟨[.int .i64 0], [.int .i64 0], rfl, rfl, rfl⟩⟩⟩, (ne_ptr (Nat.ne_of_lt (Nat.lt_of_lt_of_le hb29.lt hg6))), rfl, rfl, rfl, k37⟩
      refine pm rfl ?_ ?_
      ·
        refine sal ti56 fun b9 w15 hx10 hg7 hb46 => ?_
        have k39 := k22.tr hx10
        have k40 := k23.tr hx10
        have k41 := hx7.tr hx10
        have hb47 := hb27.ext hx10
        have r47 := r32.ext hx10
        have r48 := r33.ext hx10
        have h18 := h13.ext hx10
        have hb48 := hb28.ext hx10
        have r49 := r34.ext hx10
        refine nl ⟨fun _ _ => hx10, ?_⟩
        refine pe1 rfl <| sal ti56 fun b10 w16 hx11 hg8 hb49 => ?_
        have k42 := k39.tr hx11
        have k43 := k40.tr hx11
        have k44 := k41.tr hx11
        have k45 := hx10.tr hx11
        have hb50 := hb47.ext hx11
        have r50 := r47.ext hx11
        have r51 := r48.ext hx11
        have h19 := h18.ext hx11
        have hb51 := hb48.ext hx11
        have hb52 := hb46.ext hx11
        have r52 := r49.ext hx11
        refine nl ⟨fun _ _ => k45, ?_⟩
        refine pe1 rfl <| sst rfl rfl rfl ti56 hb49 rfl rfl (ble rfl) fun w17 hch6 hb53 => ?_
        have k46 := Ext.chg k42 hch6 (Nat.le_trans k39.size hg8)
        have k47 := Ext.chg k43 hch6 (Nat.le_trans k40.size hg8)
        have k48 := Ext.chg k44 hch6 (Nat.le_trans k41.size hg8)
        have k49 := Ext.chg k45 hch6 (Nat.le_trans hx10.size hg8)
        have k50 := Ext.chg hx11 hch6 (Nat.le_trans (Nat.le_refl _) hg8)
        have hb54 := hb47.ext k50
        have r53 := r47.ext k50
        have r54 := r48.ext k50
        have h20 := h18.ext k50
        have hb55 := hb48.ext k50
        have hb56 := hb46.ext k50
        have r55 := r49.ext k50
        have hb57 : Bx w17 b10 56 [.int .i64 0, .int .i64 0, .int .i64 0] := hb53
        refine nl ⟨fun _ _ => k49, ?_⟩
        refine pe1 rfl <| sst rfl rfl rfl ti56 hb56 rfl rfl (ble rfl) fun w18 hch7 hb58 => ?_
        have k51 := Ext.chg k46 hch7 (Nat.le_trans k22.size hg7)
        have k52 := Ext.chg k47 hch7 (Nat.le_trans k23.size hg7)
        have k53 := Ext.chg k48 hch7 (Nat.le_trans hx7.size hg7)
        have k54 := Ext.chg k49 hch7 (Nat.le_trans (Nat.le_refl _) hg7)
        have hb59 := hb27.ext k54
        have r56 := r32.ext k54
        have r57 := r33.ext k54
        have h21 := h13.ext k54
        have hb60 := hb28.ext k54
        have hb61 := Bx.chg hb57 hch7 (Ne.symm (Nat.ne_of_lt (Nat.lt_of_lt_of_le hb46.lt hg8)))
        have r58 := r34.ext k54
        have hb62 : Bx w18 b9 56 [.int .i64 0, .int .i64 0, .int .i64 0] := hb58
        refine nl ⟨fun _ _ => k54, ?_⟩
        cases hB1
        refine lf <| ?_
        exact ⟨_, _, rfl, ⟨_, _, rfl, (Nat.le_trans hx7.size (Nat.le_trans hx10.size hg8)), hb61, ⟨[.int .i64 0], [.int .i64 0] ++ [.int .i64 0], rfl, rfl, ⟨[.int .i64 0], [.int .i64 0], rfl, rfl, rfl⟩⟩⟩, rfl, ⟨_, _, rfl, (Nat.le_trans hx7.size hg7), hb62, ⟨[.int .i64 0], [.int .i64 0] ++ [.int .i64 0], rfl, rfl, ⟨[.int .i64 0], [.int .i64 0], rfl, rfl, rfl⟩⟩⟩, (ne_ptr (Ne.symm (Nat.ne_of_lt (Nat.lt_of_lt_of_le hb46.lt hg8)))), rfl, rfl, rfl, k53⟩
      trivial
    rintro L w19 ⟨v3, v4, l9_j1, P9_j1, l10_j1, P10_j1, N9_10_j1, l1_j1, l2_j1, l8_j1, K0_j1⟩
    have k55 := k3.tr K0_j1
    have k56 := k4.tr K0_j1
    have r59 := r16.ext K0_j1
    have r60 := r14.ext K0_j1
    have r61 := r15.ext K0_j1
    have h22 := h7.ext K0_j1
    have hb63 := hb6.ext K0_j1
    have hb64 := hb7.ext K0_j1
    obtain ⟨b11, cs3, rfl, hg9, hb65, q5⟩ := P9_j1
    obtain ⟨_, _, rfl, rfl, ⟨_, _, rfl, rfl, rfl⟩⟩ := q5
    obtain ⟨b12, cs4, rfl, hg10, hb66, q6⟩ := P10_j1
    obtain ⟨_, _, rfl, rfl, ⟨_, _, rfl, rfl, rfl⟩⟩ := q6
    refine wp_seq <| rg <| vl rfl rfl xas <| nl <| wp_seq <| wp_seq <| rg <| vl rfl rfl xmv <| vl rfl rfl (xlen l1_j1 Try.underlying36) <| vl rfl rfl xmv <| nl <| ?_
    have hz := bs hF; obtain ⟨o1, hB2, hF⟩ := hz
    refine ct (fun L w => ∃ z1 : Int, ∃ z2 : (Int × Int × Int), ∃ z3 : (Int × Int × Int), o1 = .inr (z1, z2, z3) ∧ L 11 = .int .i64 z1 ∧ Bx w b11 56 (Flat.enc z2) ∧ Bx w b12 56 (Flat.enc z3) ∧ L 9 = .pointer (some ⟨b11, 0, none⟩) ∧ L 10 = .pointer (some ⟨b12, 0, none⟩) ∧ Ext w4 w) ?_ ?_
    ·
      refine wp_block <| lp (I := fun m L w => ∃ y3 : Int, ∃ y4 : Int, ∃ y5 : (Int × Int × Int), ∃ y6 : (Int × Int × Int), speed_net_follow_l1 F x0 x1 m y3 y4 y5 y6  = some o1 ∧ L 11 = .int .i64 y3 ∧ L 23 = .int .i64 y4 ∧ Bx w b11 56 (Flat.enc y5) ∧ Bx w b12 56 (Flat.enc y6) ∧ L 2 = .pointer (some ⟨b3, 0, none⟩) ∧ L 8 = .pointer (some ⟨b4, 0, none⟩) ∧ L 9 = .pointer (some ⟨b11, 0, none⟩) ∧ L 10 = .pointer (some ⟨b12, 0, none⟩) ∧ L 21 = .slice a3 x1.length cq3 ∧ L 22 = .int .i64 (x1.length : Int) ∧ Ext w4 w) F ⟨_, _, _, _, hB2, rfl, rfl, hb65, hb66, l2_j1, l8_j1, l9_j1, l10_j1, l1_j1, rfl, K0_j1⟩ ?_
      rintro m L w20 ⟨y3, y4, y5, y6, hB2, l11_i1, l23_i1, B9_i1, B10_i1, l2_i1, l8_i1, l9_i1, l10_i1, l21_i1, l22_i1, K0_i1⟩
      rcases m with _ | m
      · rw [speed_net_follow_l1] at hB2; cases hB2
      rw [speed_net_follow_l1] at hB2
      have k57 := k3.tr K0_i1
      have k58 := k4.tr K0_i1
      have r62 := r14.ext K0_i1
      have r63 := r15.ext K0_i1
      have h23 := h7.ext K0_i1
      have hb67 := hb6.ext K0_i1
      have hb68 := hb7.ext K0_i1
      have r64 := r16.ext K0_i1
      refine wp_seq <| rg <| vl rfl rfl (xlss l23_i1 l22_i1) <| nl <| wp_seq <| cnd rfl (fun h24 => ?_) (fun h24 => ?_)
      ·
        have hB2 := ifp hB2 h24
        refine wp_skip <| wp_seq <| wp_block <| wp_seq <| rg <| ?_
        have hz := bs hB2; obtain ⟨x4, Ex4, hB2⟩ := hz
        have hz := (RV.els r1).ix Ex4; obtain ⟨b13, f1, cs5, e3, i2, i3, q7, hc1⟩ := hz
        cases e3
        obtain rfl := q7
        have hc2 := hc1.ext k57
        refine vl rfl rfl (xixs l21_i1 l23_i1 Try.underlying36 ti3 i2 i3) <| vl rfl rfl (xld rfl ti3 (hc2.at 0 rfl)) <| vl rfl rfl xas <| nl <| wp_seq <| rg <| vl rfl rfl (xld l2_i1 ti79 ((Bx.cs hb67).at 0 rfl)) <| vl rfl rfl (xnil rfl) <| vl rfl rfl (xfa rfl fa91_1) <| vl rfl rfl (xld rfl ti22 (h23.at 2 rfl)) <| vl rfl rfl xmv <| ?_
        have hz := bs hB2; obtain ⟨x5, Ex5, hB2⟩ := hz
        have hz := (RV.els r4).ix Ex5; obtain ⟨b14, f2, cs6, e4, i4, i5, q8, hc3⟩ := hz
        cases e4
        obtain ⟨_, _, rfl, rfl, ⟨_, _, rfl, rfl, rfl⟩⟩ := q8
        have hc4 := hc3.ext k57
        refine vl rfl rfl (xixs rfl rfl Try.underlying22 ti56 i4 i5) <| vl rfl rfl (xlda rfl ti56 rfl hc4) <| sal ti56 fun b15 w21 hx12 hg11 hb69 => ?_
        have k59 := k57.tr hx12
        have k60 := k58.tr hx12
        have k61 := K0_i1.tr hx12
        have hb70 := hb67.ext hx12
        have r65 := r62.ext hx12
        have r66 := r63.ext hx12
        have h25 := h23.ext hx12
        have hb71 := hb68.ext hx12
        have B1 := B9_i1.ext hx12
        have B2 := B10_i1.ext hx12
        have r67 := r64.ext hx12
        refine sst rfl rfl rfl ti56 hb69 rfl rfl (ble rfl) fun w22 hch8 hb72 => ?_
        have k62 := Ext.chg k59 hch8 (Nat.le_trans k57.size hg11)
        have k63 := Ext.chg k60 hch8 (Nat.le_trans k58.size hg11)
        have k64 := Ext.chg k61 hch8 (Nat.le_trans K0_i1.size hg11)
        have k65 := Ext.chg hx12 hch8 (Nat.le_trans (Nat.le_refl _) hg11)
        have hb73 := hb67.ext k65
        have r68 := r62.ext k65
        have r69 := r63.ext k65
        have h26 := h23.ext k65
        have hb74 := hb68.ext k65
        have B3 := B9_i1.ext k65
        have B4 := B10_i1.ext k65
        have r70 := r64.ext k65
        have hb75 : Bx w22 b15 56 [.int .i64 x5.1, .int .i64 x5.2.1, .int .i64 x5.2.2] := hb72
        refine nl <| wp_seq <| wp_seq <| rg <| vl rfl rfl (xlda l10_i1 ti56 rfl (Bx.cs B4)) <| vl rfl rfl (xlda l8_i1 ti56 rfl (Bx.cs hb74)) <| vl rfl rfl (xagn (α := (Int × Int × Int)) (a := (y6.1, y6.2.1, y6.2.2)) (b := (0, 0, 0)) rfl eg56 eq56 rfl rfl rfl rfl rfl) <| vl rfl rfl xmv <| gv rfl rfl rfl rfl (gw1 rfl) rfl (fun hc => xfa rfl fa56_0) <| gv rfl rfl rfl rfl (gw1 rfl) rfl (fun hc => xld (mv hc rfl) ti3 ((Bx.cs hb75).at 0 rfl)) <| gv rfl rfl rfl rfl (gw1 rfl) rfl (fun hc => xfa l10_i1 fa56_1) <| gv rfl rfl rfl rfl (gw1 rfl) rfl (fun hc => xld (mv hc rfl) ti3 ((Bx.cs B4).at 1 rfl)) <| gv rfl rfl rfl rfl (gw1 rfl) rfl (fun hc => xneq (mv hc rfl) (mv hc rfl)) <| vl rfl rfl (xpa rfl rfl rfl) <| nl <| cnd rfl (fun h27 => ?_) (fun h27 => ?_)
        ·
          have hB2 := ifp hB2 h27
          refine wp_seq <| rg <| vl rfl rfl xas <| vl rfl rfl xas <| vl rfl rfl xas <| vl rfl rfl xas <| nl <| ?_
          cases hB2
          have hF := (show some _ = some _ from hF); cases hF
          exact wp_ret <| rt rfl (.tmp rfl rfl (.tmp rfl rfl (.tmp rfl rfl (.tmp rfl rfl .nil)))) ⟨rfl, k62⟩
        ·
          have hB2 := ifn hB2 h27
          refine wp_skip <| wp_seq <| wp_seq <| rg <| vl rfl rfl (xlda l9_i1 ti56 rfl (Bx.cs B3)) <| vl rfl rfl (xlda l8_i1 ti56 rfl (Bx.cs hb74)) <| vl rfl rfl (xage (α := (Int × Int × Int)) (a := (y5.1, y5.2.1, y5.2.2)) (b := (0, 0, 0)) rfl eg56 eq56 rfl rfl rfl rfl rfl) <| nl <| ?_
          have hz := bs hB2; obtain ⟨y7, hB6, hB2⟩ := hz
          refine ct (fun L w => Bx w b11 56 (Flat.enc y7) ∧ Bx w b12 56 [.int .i64 y6.1, .int .i64 y6.2.1, .int .i64 y6.2.2] ∧ Bx w b15 56 [.int .i64 x5.1, .int .i64 x5.2.1, .int .i64 x5.2.2] ∧ L 2 = .pointer (some ⟨b3, 0, none⟩) ∧ L 8 = .pointer (some ⟨b4, 0, none⟩) ∧ L 9 = .pointer (some ⟨b11, 0, none⟩) ∧ L 10 = .pointer (some ⟨b12, 0, none⟩) ∧ L 11 = .int .i64 y3 ∧ L 14 = .pointer (some ⟨b15, 0, none⟩) ∧ L 21 = .slice (some ⟨b13, f1, none⟩) x1.length cq3 ∧ L 22 = .int .i64 (x1.length : Int) ∧ L 23 = .int .i64 y4 ∧ Ext w4 w) ?_ ?_
          ·
            refine cnd rfl (fun h28 => ?_) (fun h28 => ?_)
            ·
              have hB6 := ifp hB6 h28
              refine rg <| vl rfl rfl (xlda rfl ti56 rfl (Bx.cs hb75)) <| sst l9_i1 rfl rfl ti56 B3 rfl rfl (ble rfl) fun w23 hch9 hb76 => ?_
              have k66 := Ext.chg k62 hch9 (Nat.le_trans k3.size hg9)
              have k67 := Ext.chg k63 hch9 (Nat.le_trans k4.size hg9)
              have k68 := Ext.chg k64 hch9 (Nat.le_trans (Nat.le_refl _) hg9)
              have hb77 := hb6.ext k68
              have r71 := r14.ext k68
              have r72 := r15.ext k68
              have h29 := h7.ext k68
              have hb78 := hb7.ext k68
              have hb79 := Bx.chg B4 hch9 (Ne.symm (ptr_ne N9_10_j1))
              have hb80 := Bx.chg hb75 hch9 (Ne.symm (Nat.ne_of_lt (Nat.lt_of_lt_of_le B9_i1.lt hg11)))
              have r73 := r16.ext k68
              have hb81 : Bx w23 b11 56 [.int .i64 x5.1, .int .i64 x5.2.1, .int .i64 x5.2.2] := hb76
              refine nl <| ?_
              cases hB6
              refine lf <| ?_
              exact ⟨hb81, hb79, hb80, l2_i1, l8_i1, l9_i1, l10_i1, l11_i1, rfl, l21_i1, l22_i1, l23_i1, k68⟩
            ·
              have hB6 := ifn hB6 h28
              refine wp_skip <| ?_
              cases hB6
              refine lf <| ?_
              exact ⟨B3, B4, hb75, l2_i1, l8_i1, l9_i1, l10_i1, l11_i1, rfl, l21_i1, l22_i1, l23_i1, k64⟩
          rintro L w24 ⟨B9_j2, B10_j2, B14_j2, l2_j2, l8_j2, l9_j2, l10_j2, l11_j2, l14_j2, l21_j2, l22_j2, l23_j2, K0_j2⟩
          have k69 := k3.tr K0_j2
          have k70 := k4.tr K0_j2
          have r74 := r14.ext K0_j2
          have r75 := r15.ext K0_j2
          have h30 := h7.ext K0_j2
          have hb82 := hb6.ext K0_j2
          have hb83 := hb7.ext K0_j2
          have r76 := r16.ext K0_j2
          refine wp_seq <| rg <| vl rfl rfl (xlda l14_j2 ti56 rfl (Bx.cs B14_j2)) <| sst l10_j2 rfl rfl ti56 B10_j2 rfl rfl (ble rfl) fun w25 hch10 hb84 => ?_
          have k71 := Ext.chg k69 hch10 (Nat.le_trans k3.size hg10)
          have k72 := Ext.chg k70 hch10 (Nat.le_trans k4.size hg10)
          have k73 := Ext.chg K0_j2 hch10 (Nat.le_trans (Nat.le_refl _) hg10)
          have hb85 := hb6.ext k73
          have r77 := r14.ext k73
          have r78 := r15.ext k73
          have h31 := h7.ext k73
          have hb86 := hb7.ext k73
          have hb87 := Bx.chg B9_j2 hch10 (ptr_ne N9_10_j1)
          have hb88 := Bx.chg B14_j2 hch10 (Ne.symm (Nat.ne_of_lt (Nat.lt_of_lt_of_le B10_i1.lt hg11)))
          have r79 := r16.ext k73
          have hb89 : Bx w25 b12 56 [.int .i64 x5.1, .int .i64 x5.2.1, .int .i64 x5.2.2] := hb84
          refine nl <| rg <| vl rfl rfl xmv <| vl rfl rfl (xfa l14_j2 fa56_2) <| vl rfl rfl (xld rfl ti2 ((Bx.cs hb88).at 2 rfl)) <| vl rfl rfl (xadd l11_j2 rfl) <| vl rfl rfl xas <| nl <| rg <| vl rfl rfl (xadd l23_j2 rfl) <| vl rfl rfl xmv <| nl <| ?_
          refine lq m (Nat.lt_succ_self _) <| ?_
          exact ⟨_, _, _, _, hB2, rfl, rfl, hb87, hb89, l2_j2, l8_j2, l9_j2, l10_j2, l21_j2, l22_j2, k73⟩
      ·
        have hB2 := ifn hB2 h24
        refine wp_exit <| ?_
        cases hB2
        refine lf <| ?_
        exact ⟨_, _, _, rfl, l11_i1, B9_i1, B10_i1, l9_i1, l10_i1, K0_i1⟩
    rintro L w26 ⟨z1, z2, z3, rfl, l11_j3, B9_j3, B10_j3, l9_j3, l10_j3, K0_j3⟩
    have k74 := k3.tr K0_j3
    have k75 := k4.tr K0_j3
    refine wp_seq <| wpl [] (.pure true 0 (.pure false 1 (.pure true 2 (.pure false 3 (.pure true 4 (.pure true 5 (.pure true 6 (.pure true 7 (.pure true 8 .fin))))))))) mixed (by kernel_rfl) (fun w27 hx13 => ?_)
    have k76 := k74.tr hx13
    have k77 := k75.tr hx13
    have k78 := K0_j3.tr hx13
    have B5 := B9_j3.ext hx13
    have B6 := B10_j3.ext hx13
    refine pv rfl rfl rfl (fun _ _ => xfa l9_j3 fa56_0) (.inl rfl) <| pv rfl rfl rfl (fun _ hS => xld rfl ti3 ((Bx.cs (B5.ext (hS.resolve_left nofun))).at 0 rfl)) (.inr (Ext.refl _)) <| pv rfl rfl rfl (fun _ _ => xfa l10_j3 fa56_1) (.inl rfl) <| pv rfl rfl rfl (fun _ hS => xld rfl ti3 ((Bx.cs (B6.ext (hS.resolve_left nofun))).at 1 rfl)) (.inr (Ext.refl _)) <| pv rfl rfl rfl (fun _ _ => xmv) (.inl rfl) <| pv rfl rfl rfl (fun _ _ => xas) (.inl rfl) <| pv rfl rfl rfl (fun _ _ => xas) (.inl rfl) <| pv rfl rfl rfl (fun _ _ => xas) (.inl rfl) <| pv rfl rfl rfl (fun _ _ => xas) (.inl rfl) <| ?_
    cases hF
    exact wp_ret <| rt rfl (.tmp rfl rfl (.tmp rfl rfl (.tmp l11_j3 rfl (.tmp rfl rfl .nil)))) ⟨rfl, k76⟩
end Go.Proofs.Ythppacohnciinaa
