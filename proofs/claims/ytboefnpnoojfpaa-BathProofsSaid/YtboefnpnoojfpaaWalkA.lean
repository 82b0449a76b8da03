/-
  Each function of the program returns what its pure function computes, and leaves all memory that was there as it was. Condition: the pure function computes something.
-/
import Derived.Test.YtboefnpnoojfpaaFacts
import Derived.Test.YtboefnpnoojfpaaPureA
import Derived.Test.YtboefnpnoojfpaaMore
namespace Go.Proofs.Ytboefnpnoojfpaa
open Go Go.Md Go.RowKit
attribute [local irreducible] Go.wpList Go.Code.wp Go.Calls Go.Md.Rnd Go.Md.Mt Go.Md.MtM Go.Md.RndM Go.Code.wpIn

set_option maxHeartbeats 4000000 in
theorem c12 {w0 : World} {v0 : Value} {x0 : ((List Int) × (List ((List Int) × (List Int))))} (r0 : RV w0 v0 x0) {F : Nat} {r : Bool} (hF : law11_great F x0 = some r) :
    Calls Try.prog 12 [v0].toArray w0 (Ret fun v w' => v = .bool r ∧ Ext w0 w') := by
  unfold law11_great at hF
  have hz := id r0; obtain ⟨_, rfl, ⟨_, _, rfl, ⟨a1, cq1, rfl, p1, q2, e1⟩, ⟨a2, cq2, rfl, p2, q3, e2⟩⟩⟩ := hz
  have r2 := RV.of1 p1 q2 e1
  have r3 := RV.of1 p2 q3 e2
  refine entr (n := 39) Try.func12 rfl rfl rfl <| wp_seq <| rg <| sbx rfl rfl fun b2 w1 hx1 hg1 hb1 => ?_
  have r4 := r2.ext hx1
  have r5 := r3.ext hx1
  have r6 := r0.ext hx1
  refine vl rfl rfl xas <| nl <| wp_seq <| wp_seq <| rg <| vl rfl rfl (xfa rfl fa25_0) <| vl rfl rfl (xld rfl ti22 ((Bx.cs hb1).at 0 rfl)) <| vl rfl rfl (xlen rfl Try.underlying22) <| vl rfl rfl (xgtr rfl rfl) <| vl rfl rfl xmv <| gv rfl rfl rfl rfl (gw0 rfl) rfl (fun hc => xfa rfl fa25_1) <| gv rfl rfl rfl rfl (gw0 rfl) rfl (fun hc => xld (mv hc rfl) ti23 ((Bx.cs hb1).at 1 rfl)) <| gv rfl rfl rfl rfl (gw0 rfl) rfl (fun hc => xlen (mv hc rfl) Try.underlying23) <| gv rfl rfl rfl rfl (gw0 rfl) rfl (fun hc => xgtr (mv hc rfl) rfl) <| vl rfl rfl (xpo rfl rfl rfl) <| nl <| cnd rfl (fun h2 => ?_) (fun h2 => ?_)
  ·
    have hF := ifp hF h2
    refine wp_seq <| rg <| vl rfl rfl xas <| nl <| ?_
    cases hF
    exact wp_ret <| rt rfl (.tmp rfl rfl .nil) ⟨rfl, hx1⟩
  ·
    have hF := ifn hF h2
    refine wp_skip <| wp_seq <| wp_seq <| rg <| vl rfl rfl xas <| nl <| ?_
    have hz := bs hF; obtain ⟨o1, hB1, hF⟩ := hz
    refine ct (fun L w => o1 = .inr () ∧ Ext w1 w) ?_ ?_
    ·
      refine wp_block <| lp (I := fun m L w => ∃ y1 : Int, law11_great_l1 F x0 m y1  = some o1 ∧ L 3 = .int .i64 y1 ∧ L 1 = .pointer (some ⟨b2, 0, none⟩) ∧ Ext w1 w) F ⟨_, hB1, rfl, rfl, (Ext.refl _)⟩ ?_
      rintro m L w2 ⟨y1, hB1, l3_i1, l1_i1, K0_i1⟩
      rcases m with _ | m
      · rw [law11_great_l1] at hB1; cases hB1
      rw [law11_great_l1] at hB1
      have k1 := hx1.tr K0_i1
      have r7 := r4.ext K0_i1
      have r8 := r5.ext K0_i1
      have hb2 := hb1.ext K0_i1
      refine wp_seq <| wp_seq <| rg <| vl rfl rfl xmv <| vl rfl rfl (xfa l1_i1 fa25_1) <| vl rfl rfl (xld rfl ti23 ((Bx.cs hb2).at 1 rfl)) <| vl rfl rfl (xlen rfl Try.underlying23) <| vl rfl rfl (xlss l3_i1 rfl) <| nl <| cnd rfl (fun h3 => ?_) (fun h3 => ?_)
      ·
        have hB1 := ifp hB1 h3
        refine wp_skip <| wp_seq <| wp_block <| wp_seq <| ?_
        have hz := bs hB1; obtain ⟨y2, hB3, hB1⟩ := hz
        refine ct (fun L w => L 38 = .bool y2 ∧ L 1 = .pointer (some ⟨b2, 0, none⟩) ∧ L 3 = .int .i64 y1 ∧ Ext w2 w) ?_ ?_
        ·
          refine rg <| vl rfl rfl (xfa l1_i1 fa25_1) <| vl rfl rfl (xld rfl ti23 ((Bx.cs hb2).at 1 rfl)) <| vl rfl rfl xmv <| ?_
          have hz := bs hB3; obtain ⟨x3, Ex3, hB3⟩ := hz
          have hz := (RV.els r3).ix Ex3; obtain ⟨b4, f2, cs3, e6, i4, i5, q7, hc3⟩ := hz
          cases e6
          obtain ⟨_, _, rfl, ⟨a5, cq5, rfl, p5, q8, e7⟩, ⟨a6, cq6, rfl, p6, q9, e8⟩⟩ := q7
          have r13 := RV.of1 p5 q8 e7
          have r14 := RV.of1 p6 q9 e8
          have hc4 := hc3.ext k1
          have r15 := r13.ext k1
          have r16 := r14.ext k1
          refine vl rfl rfl (xixs rfl l3_i1 Try.underlying23 ti57 i4 i5) <| vl rfl rfl (xfa rfl fa57_0) <| vl rfl rfl (xld rfl ti22 (hc4.at 0 rfl)) <| vl rfl rfl (xlen rfl Try.underlying22) <| vl rfl rfl (xgtr rfl rfl) <| vl rfl rfl xmv <| ?_
          refine Or.elim (Bool.eq_false_or_eq_true (decide (10 < (x3.1.length : Int)))) (fun h4 => ?_) (fun h4 => ?_)
          ·
            have hB3 := ifp hB3 h4
            refine gfk rfl rfl rfl rfl rfl (btf h4) rfl <| gfk rfl rfl rfl rfl rfl (btf h4) rfl <| gfk rfl rfl rfl rfl rfl (btf h4) rfl <| gfk rfl rfl rfl rfl rfl (btf h4) rfl <| gfk rfl rfl rfl rfl rfl (btf h4) rfl <| gfk rfl rfl rfl rfl rfl (btf h4) rfl <| gfk rfl rfl rfl rfl rfl (btf h4) rfl <| gfk rfl rfl rfl rfl rfl (btf h4) rfl <| vl rfl rfl (xpt rfl h4 rfl) <| nl <| ?_
            cases hB3
            refine lf <| ?_
            exact ⟨rfl, l1_i1, l3_i1, (Ext.refl _)⟩
          ·
            have hB3 := ifn hB3 h4
            refine gtk rfl rfl rfl rfl rfl (bf h4) <| vl rfl rfl (xfa l1_i1 fa25_1) <| gtk rfl rfl rfl rfl rfl (bf h4) <| vl rfl rfl (xld rfl ti23 ((Bx.cs hb2).at 1 rfl)) <| gtk rfl rfl rfl rfl rfl (bf h4) <| vl rfl rfl xmv <| ?_
            have hz := bs hB3; obtain ⟨x4, Ex4, hB3⟩ := hz
            have hz := ix2 r3 Ex4; obtain ⟨cs4, i6, i7, q10, hc5⟩ := hz
            obtain ⟨_, _, rfl, ⟨a7, cq7, rfl, p7, q11, e9⟩, ⟨a8, cq8, rfl, p8, q12, e10⟩⟩ := q10
            have r17 := RV.of1 p7 q11 e9
            have r18 := RV.of1 p8 q12 e10
            have hc6 := hc5.ext k1
            have r19 := r17.ext k1
            have r20 := r18.ext k1
            refine gtk rfl rfl rfl rfl rfl (bf h4) <| vl rfl rfl (xixs rfl l3_i1 Try.underlying23 ti57 i6 i7) <| gtk rfl rfl rfl rfl rfl (bf h4) <| vl rfl rfl (xfa rfl fa57_1) <| gtk rfl rfl rfl rfl rfl (bf h4) <| vl rfl rfl (xld rfl ti22 (hc6.at 1 rfl)) <| gtk rfl rfl rfl rfl rfl (bf h4) <| vl rfl rfl (xlen rfl Try.underlying22) <| gtk rfl rfl rfl rfl rfl (bf h4) <| vl rfl rfl (xgtr rfl rfl) <| vl rfl rfl (xpf rfl h4 rfl) <| nl <| ?_
            cases hB3
            refine lf <| ?_
            exact ⟨rfl, l1_i1, l3_i1, (Ext.refl _)⟩
        rintro L w3 ⟨l38_j1, l1_j1, l3_j1, K0_j1⟩
        have k2 := k1.tr K0_j1
        have k3 := K0_i1.tr K0_j1
        have r21 := r7.ext K0_j1
        have r22 := r8.ext K0_j1
        have hb3 := hb2.ext K0_j1
        refine cnd l38_j1 (fun h5 => ?_) (fun h5 => ?_)
        ·
          have hB1 := ifp hB1 h5
          refine wp_seq <| rg <| vl rfl rfl xas <| nl <| ?_
          cases hB1
          have hF := (show some _ = some _ from hF); cases hF
          exact wp_ret <| rt rfl (.tmp rfl rfl .nil) ⟨rfl, k2⟩
        ·
          have hB1 := ifn hB1 h5
          refine wp_skip <| rg <| vl rfl rfl xmv <| vl rfl rfl (xadd l3_j1 rfl) <| vl rfl rfl xas <| nl <| ?_
          refine lq m (Nat.lt_succ_self _) <| ?_
          exact ⟨_, hB1, rfl, l1_j1, k3⟩
      ·
        have hB1 := ifn hB1 h3
        refine wp_exit <| ?_
        cases hB1
        refine lf <| ?_
        exact ⟨rfl, K0_i1⟩
    rintro L w4 ⟨rfl, K0_j2⟩
    have k4 := hx1.tr K0_j2
    refine wp_seq <| rg <| vl rfl rfl xas <| nl <| ?_
    cases hF
    exact wp_ret <| rt rfl (.tmp rfl rfl .nil) ⟨rfl, k4⟩

set_option maxHeartbeats 4000000 in
theorem c80 {w0 : World} {v0 : Value} {x0 : (List Int)} (r0 : RV w0 v0 x0) {v1 : Value} {x1 : Int → Option Bool} (h1 : FnB Try.prog Int w0 v1 x1) {F : Nat} {r : Int} (hF : slices_IndexFunc_int64 F x0 x1 = some r) :
    Calls Try.prog 80 [v0, v1].toArray w0 (Ret fun v w' => v = .int .i64 r ∧ Ext w0 w') := by
  unfold slices_IndexFunc_int64 at hF
  have hz := r0.sl; obtain ⟨a1, cq1, rfl, -, -, -⟩ := hz
  refine entr (n := 19) Try.func80 rfl rfl rfl <| wp_seq <| rg <| vl rfl rfl xas <| nl <| wp_seq <| wp_seq <| rg <| vl rfl rfl xmv <| vl rfl rfl (xlen rfl Try.underlying22) <| vl rfl rfl xmv <| nl <| ?_
  have hz := bs hF; obtain ⟨o1, hB1, hF⟩ := hz
  refine ct (fun L w => o1 = .inr () ∧ Ext w0 w) ?_ ?_
  ·
    refine wp_block <| lp (I := fun m L w => ∃ y1 : Int, slices_IndexFunc_int64_l1 F x0 x1 m y1  = some o1 ∧ L 8 = .int .i64 y1 ∧ L 0 = .slice a1 x0.length cq1 ∧ L 1 = v1 ∧ L 7 = .int .i64 (x0.length : Int) ∧ Ext w0 w) F ⟨_, hB1, rfl, rfl, rfl, rfl, (Ext.refl _)⟩ ?_
    rintro m L w1 ⟨y1, hB1, l8_i1, l0_i1, l1_i1, l7_i1, K0_i1⟩
    rcases m with _ | m
    · rw [slices_IndexFunc_int64_l1] at hB1; cases hB1
    rw [slices_IndexFunc_int64_l1] at hB1
    have r3 := r0.ext K0_i1
    have h3 := h1.ext K0_i1
    refine wp_seq <| rg <| vl rfl rfl (xlss l8_i1 l7_i1) <| nl <| wp_seq <| cnd rfl (fun h4 => ?_) (fun h4 => ?_)
    ·
      have hB1 := ifp hB1 h4
      refine wp_skip <| wp_seq <| wp_block <| wp_seq <| rg <| vl rfl rfl xmv <| vl rfl rfl xas <| nl <| wp_seq <| rg <| vl rfl rfl xmv <| vl rfl rfl xmv <| vl rfl rfl xmv <| ?_
      have hz := bs hB1; obtain ⟨x3, Ex3, hB1⟩ := hz
      have hz := (RV.els r0).ix Ex3; obtain ⟨b3, f1, cs3, e1, i2, i3, q3, hc1⟩ := hz
      cases e1
      obtain rfl := q3
      have hc2 := hc1.ext K0_i1
      refine vl rfl rfl (xixs l0_i1 l8_i1 Try.underlying22 ti2 i2 i3) <| vl rfl rfl (xld rfl ti2 (hc2.at 0 rfl)) <| ?_
      have hz := bs hB1; obtain ⟨x4, Ex4, hB1⟩ := hz
      have hz := id h3; obtain ⟨g1, fs1, cs4, e2, hg1, hu1⟩ := hz
      refine cl rfl rfl (xcv (l1_i1.trans e2) hg1 (mc rfl mn) rfl) (hu1 _ _ _ _ (Ext.refl _) (RVo.int.2 rfl) Ex4) ?_
      rintro _ w2 ⟨rfl, hx1⟩
      have k1 := K0_i1.tr hx1
      have r4 := r3.ext hx1
      have h5 := h3.ext hx1
      refine nl <| cnd rfl (fun h6 => ?_) (fun h6 => ?_)
      ·
        have hB1 := ifp hB1 h6
        refine wp_seq <| rg <| vl rfl rfl xmv <| vl rfl rfl xas <| nl <| ?_
        cases hB1
        have hF := (show some _ = some _ from hF); cases hF
        exact wp_ret <| rt rfl (.tmp l8_i1 rfl .nil) ⟨rfl, k1⟩
      ·
        have hB1 := ifn hB1 h6
        refine wp_skip <| rg <| vl rfl rfl (xadd l8_i1 rfl) <| vl rfl rfl xmv <| nl <| ?_
        refine lq m (Nat.lt_succ_self _) <| ?_
        exact ⟨_, hB1, rfl, l0_i1, l1_i1, l7_i1, k1⟩
    ·
      have hB1 := ifn hB1 h4
      refine wp_exit <| ?_
      cases hB1
      refine lf <| ?_
      exact ⟨rfl, K0_i1⟩
  rintro L w3 ⟨rfl, K0_j1⟩
  refine wp_seq <| rg <| vl rfl rfl xas <| nl <| ?_
  cases hF
  exact wp_ret <| rt rfl (.tmp rfl rfl .nil) ⟨rfl, K0_j1⟩

set_option maxHeartbeats 4000000 in
theorem c71 {w0 : World} {v0 : Value} {x0 : (List Int)} (r0 : RV w0 v0 x0) {v1 : Value} {x1 : Int → Option Bool} (h1 : FnB Try.prog Int w0 v1 x1) {F : Nat} {r : Bool} (hF : slices_ContainsFunc_int64 F x0 x1 = some r) :
    Calls Try.prog 71 [v0, v1].toArray w0 (Ret fun v w' => v = .bool r ∧ Ext w0 w') := by
  unfold slices_ContainsFunc_int64 at hF
  have hz := r0.sl; obtain ⟨a1, cq1, rfl, -, -, -⟩ := hz
  refine entr (n := 9) Try.func71 rfl rfl rfl <| wp_seq <| rg <| vl rfl rfl xas <| nl <| wp_seq <| rg <| vl rfl rfl xmv <| vl rfl rfl xmv <| ?_
  have hz := bs hF; obtain ⟨x3, Ex3, hF⟩ := hz
  refine cl rfl rfl (xc cb80 (mc rfl (mc rfl mn))) (c80 r0 h1 Ex3) ?_
  rintro _ w1 ⟨rfl, hx1⟩
  refine vl rfl rfl (xgeq rfl rfl) <| vl rfl rfl xas <| nl <| ?_
  cases hF
  exact wp_ret <| rt rfl (.tmp rfl rfl .nil) ⟨rfl, hx1⟩

set_option maxHeartbeats 4000000 in
theorem c72 {w0 : World} {x0 : Int} {b1 : Nat} {cs1 : List Value} {x1 : Int} (h1 : Cs w0 b1 0 cs1) (q1 : Enc.rep (fun _ => True) w0 cs1 x1) {b2 : Nat} {cs2 : List Value} {x2 : Int} (h2 : Cs w0 b2 0 cs2) (q2 : Enc.rep (fun _ => True) w0 cs2 x2) {r : Bool} (hF : bath_within_1 x0 x1 x2 = some r) :
    Calls Try.prog 72 [.int .i64 x0, .pointer (some ⟨b1, 0, none⟩), .pointer (some ⟨b2, 0, none⟩)].toArray w0 (Ret fun v w' => v = .bool r ∧ Ext w0 w') := by
  unfold bath_within_1 at hF
  obtain rfl := q1
  obtain rfl := q2
  refine entr (n := 13) Try.func72 rfl rfl rfl <| wp_seq <| rg <| vl rfl rfl xas <| nl <| wp_seq <| rg <| vl rfl rfl xmv <| vl rfl rfl (xld rfl ti2 (h1.at 0 rfl)) <| vl rfl rfl (xlss rfl rfl) <| vl rfl rfl xmv <| gv rfl rfl rfl rfl (gw0 rfl) rfl (fun hc => xmva rfl) <| gv rfl rfl rfl rfl (gw0 rfl) rfl (fun hc => xld rfl ti2 (h2.at 0 rfl)) <| gv rfl rfl rfl rfl (gw0 rfl) rfl (fun hc => xgtr (mv hc rfl) (mv hc rfl)) <| vl rfl rfl (xpo rfl rfl rfl) <| vl rfl rfl xas <| nl <| ?_
  cases hF
  exact wp_ret <| rt rfl (.tmp rfl rfl .nil) ⟨rfl, (Ext.refl _)⟩

set_option maxHeartbeats 4000000 in
theorem c51 {w0 : World} {x0 : Int} {x1 : Int} {v2 : Value} {x2 : (List Int)} (r2 : RV w0 v2 x2) {F : Nat} {r : Bool} (hF : bath_within F x0 x1 x2 = some r) :
    Calls Try.prog 51 [.int .i64 x0, .int .i64 x1, v2].toArray w0 (Ret fun v w' => v = .bool r ∧ Ext w0 w') := by
  unfold bath_within at hF
  have hz := r2.sl; obtain ⟨a1, cq1, rfl, -, -, -⟩ := hz
  refine entr (n := 11) Try.func51 rfl rfl rfl <| wp_seq <| rg <| sbx rfl rfl fun b4 w1 hx1 hg1 hb1 => ?_
  have r4 := r2.ext hx1
  refine sbx rfl rfl fun b5 w2 hx2 hg2 hb2 => ?_
  have k1 := hx1.tr hx2
  have hb3 := hb1.ext hx2
  have r5 := r4.ext hx2
  refine vl rfl rfl xas <| nl <| wp_seq <| rg <| vl rfl rfl xmv <| vl rfl rfl (xmf mn (mc rfl (mc rfl mn))) <| ?_
  have hz := bs hF; obtain ⟨x4, Ex4, hF⟩ := hz
  refine cl rfl rfl (xc cb71 (mc rfl (mc rfl mn))) (c71 r5 ⟨72, [], [.pointer (some ⟨b4, 0, none⟩), .pointer (some ⟨b5, 0, none⟩)], rfl, cb72, fun w' u x b hk hu hp => by cases RVo.int.1 hu; exact c72 (Bx.cs (hb3.ext hk)) rfl (Bx.cs (hb2.ext hk)) rfl hp⟩ Ex4) ?_
  rintro _ w3 ⟨rfl, hx3⟩
  have k2 := k1.tr hx3
  have k3 := hx2.tr hx3
  refine vl rfl rfl (xnot rfl) <| vl rfl rfl xas <| nl <| ?_
  cases hF
  exact wp_ret <| rt rfl (.tmp rfl rfl .nil) ⟨rfl, k2⟩

set_option maxHeartbeats 4000000 in
theorem c50 {w0 : World} {v0 : Value} {x0 : (List Int)} (r0 : RV w0 v0 x0) {F : Nat} {r : Bool} (hF : bath_CheckBath_1 F x0 = some r) :
    Calls Try.prog 50 [v0].toArray w0 (Ret fun v w' => v = .bool r ∧ Ext w0 w') := by
  unfold bath_CheckBath_1 at hF
  have hz := r0.sl; obtain ⟨a1, cq1, rfl, -, -, -⟩ := hz
  refine entr (n := 6) Try.func50 rfl rfl rfl <| wp_seq <| rg <| vl rfl rfl xas <| nl <| wp_seq <| rg <| vl rfl rfl xmv <| ?_
  have hz := bs hF; obtain ⟨x2, Ex2, hF⟩ := hz
  refine cl rfl rfl (xc cb51 (mc rfl (mc rfl (mc rfl mn)))) (c51 r0 Ex2) ?_
  rintro _ w1 ⟨rfl, hx1⟩
  refine vl rfl rfl (xnot rfl) <| vl rfl rfl xas <| nl <| ?_
  cases hF
  exact wp_ret <| rt rfl (.tmp rfl rfl .nil) ⟨rfl, hx1⟩

set_option maxHeartbeats 4000000 in
theorem c52 {w0 : World} {v0 : Value} {x0 : (List Int)} (r0 : RV w0 v0 x0) {F : Nat} {r : Int} (hF : bath_many F x0 = some r) :
    Calls Try.prog 52 [v0].toArray w0 (Ret fun v w' => v = .int .i64 r ∧ Ext w0 w') := by
  unfold bath_many at hF
  have hz := r0.sl; obtain ⟨a1, cq1, rfl, -, -, -⟩ := hz
  refine entr (n := 18) Try.func52 rfl rfl rfl <| wp_seq <| rg <| vl rfl rfl xas <| nl <| wp_seq <| rg <| vl rfl rfl xas <| nl <| wp_seq <| wp_seq <| rg <| vl rfl rfl xmv <| vl rfl rfl (xlen rfl Try.underlying22) <| vl rfl rfl xmv <| nl <| ?_
  have hz := bs hF; obtain ⟨z1, hB1, hF⟩ := hz
  refine ct (fun L w => L 3 = .int .i64 z1 ∧ Ext w0 w) ?_ ?_
  ·
    refine wp_block <| lp (I := fun m L w => ∃ y1 : Int, ∃ y2 : Int, bath_many_l1 F x0 m y1 y2  = some z1 ∧ L 3 = .int .i64 y1 ∧ L 8 = .int .i64 y2 ∧ L 6 = .slice a1 x0.length cq1 ∧ L 7 = .int .i64 (x0.length : Int) ∧ Ext w0 w) F ⟨_, _, hB1, rfl, rfl, rfl, rfl, (Ext.refl _)⟩ ?_
    rintro m L w1 ⟨y1, y2, hB1, l3_i1, l8_i1, l6_i1, l7_i1, K0_i1⟩
    rcases m with _ | m
    · rw [bath_many_l1] at hB1; cases hB1
    rw [bath_many_l1] at hB1
    have r2 := r0.ext K0_i1
    refine wp_seq <| rg <| vl rfl rfl (xlss l8_i1 l7_i1) <| nl <| wp_seq <| cnd rfl (fun h2 => ?_) (fun h2 => ?_)
    ·
      have hB1 := ifp hB1 h2
      refine wp_skip <| wp_seq <| wp_block <| wp_seq <| rg <| ?_
      have hz := bs hB1; obtain ⟨x2, Ex2, hB1⟩ := hz
      have hz := (RV.els r0).ix Ex2; obtain ⟨b2, f1, cs2, e1, i2, i3, q2, hc1⟩ := hz
      cases e1
      obtain rfl := q2
      have hc2 := hc1.ext K0_i1
      refine vl rfl rfl (xixs l6_i1 l8_i1 Try.underlying22 ti2 i2 i3) <| vl rfl rfl (xld rfl ti2 (hc2.at 0 rfl)) <| vl rfl rfl xas <| nl <| rg <| vl rfl rfl xmv <| vl rfl rfl xmv <| vl rfl rfl (xadd rfl rfl) <| vl rfl rfl (xmul l3_i1 rfl) <| vl rfl rfl xas <| nl <| rg <| vl rfl rfl (xadd l8_i1 rfl) <| vl rfl rfl xmv <| nl <| ?_
      refine lq m (Nat.lt_succ_self _) <| ?_
      exact ⟨_, _, hB1, rfl, rfl, l6_i1, l7_i1, K0_i1⟩
    ·
      have hB1 := ifn hB1 h2
      refine wp_exit <| ?_
      cases hB1
      refine lf <| ?_
      exact ⟨l3_i1, K0_i1⟩
  rintro L w2 ⟨l3_j1, K0_j1⟩
  refine wp_seq <| rg <| vl rfl rfl xmv <| vl rfl rfl xas <| nl <| ?_
  cases hF
  exact wp_ret <| rt rfl (.tmp l3_j1 rfl .nil) ⟨rfl, K0_j1⟩

set_option maxHeartbeats 4000000 in
theorem c73 {w0 : World} {v0 : Value} {x0 : (List ((List Int) × (List Int)))} (r0 : RV w0 v0 x0) {v1 : Value} {x1 : ((List Int) × (List Int)) → Option Bool} (h1 : FnB Try.prog ((List Int) × (List Int)) w0 v1 x1) {F : Nat} {r : Int} (hF : slices_IndexFunc_api_BathMove F x0 x1 = some r) :
    Calls Try.prog 73 [v0, v1].toArray w0 (Ret fun v w' => v = .int .i64 r ∧ Ext w0 w') := by
  unfold slices_IndexFunc_api_BathMove at hF
  have hz := r0.sl; obtain ⟨a1, cq1, rfl, -, -, -⟩ := hz
  refine entr (n := 19) Try.func73 rfl rfl rfl <| wp_seq <| rg <| vl rfl rfl xas <| nl <| wp_seq <| wp_seq <| rg <| vl rfl rfl xmv <| vl rfl rfl (xlen rfl Try.underlying23) <| vl rfl rfl xmv <| nl <| ?_
  have hz := bs hF; obtain ⟨o1, hB1, hF⟩ := hz
  refine ct (fun L w => o1 = .inr () ∧ Ext w0 w) ?_ ?_
  ·
    refine wp_block <| lp (I := fun m L w => ∃ y1 : Int, slices_IndexFunc_api_BathMove_l1 F x0 x1 m y1  = some o1 ∧ L 8 = .int .i64 y1 ∧ L 0 = .slice a1 x0.length cq1 ∧ L 1 = v1 ∧ L 7 = .int .i64 (x0.length : Int) ∧ Ext w0 w) F ⟨_, hB1, rfl, rfl, rfl, rfl, (Ext.refl _)⟩ ?_
    rintro m L w1 ⟨y1, hB1, l8_i1, l0_i1, l1_i1, l7_i1, K0_i1⟩
    rcases m with _ | m
    · rw [slices_IndexFunc_api_BathMove_l1] at hB1; cases hB1
    rw [slices_IndexFunc_api_BathMove_l1] at hB1
    have r3 := r0.ext K0_i1
    have h3 := h1.ext K0_i1
    refine wp_seq <| rg <| vl rfl rfl (xlss l8_i1 l7_i1) <| nl <| wp_seq <| cnd rfl (fun h4 => ?_) (fun h4 => ?_)
    ·
      have hB1 := ifp hB1 h4
      refine wp_skip <| wp_seq <| wp_block <| wp_seq <| rg <| vl rfl rfl xmv <| vl rfl rfl xas <| nl <| wp_seq <| rg <| vl rfl rfl xmv <| vl rfl rfl xmv <| vl rfl rfl xmv <| ?_
      have hz := bs hB1; obtain ⟨x3, Ex3, hB1⟩ := hz
      have hz := (RV.els r0).ix Ex3; obtain ⟨b3, f1, cs3, e1, i2, i3, q3, hc1⟩ := hz
      cases e1
      obtain ⟨_, _, rfl, ⟨a2, cq2, rfl, p1, q4, e2⟩, ⟨a3, cq3, rfl, p2, q5, e3⟩⟩ := q3
      have r4 := RV.of1 p1 q4 e2
      have r5 := RV.of1 p2 q5 e3
      have hc2 := hc1.ext K0_i1
      have r6 := r4.ext K0_i1
      have r7 := r5.ext K0_i1
      refine vl rfl rfl (xixs l0_i1 l8_i1 Try.underlying23 ti57 i2 i3) <| vl rfl rfl (xlda rfl ti57 rfl hc2) <| ?_
      have hz := bs hB1; obtain ⟨x4, Ex4, hB1⟩ := hz
      have hz := id h3; obtain ⟨g1, fs1, cs4, e4, hg1, hu1⟩ := hz
      refine cl rfl rfl (xcv (l1_i1.trans e4) hg1 (mc rfl mn) rfl) (hu1 _ _ _ _ (Ext.refl _) (show RV (α := ((List Int) × (List Int))) _ (.agg [.slice a2 x3.1.length cq2, .slice a3 x3.2.length cq3].toArray) (x3.1, x3.2) from ⟨_, rfl, ⟨[.slice a2 x3.1.length cq2], [.slice a3 x3.2.length cq3], rfl, r6.rep1, r7.rep1⟩⟩) Ex4) ?_
      rintro _ w2 ⟨rfl, hx1⟩
      have k1 := K0_i1.tr hx1
      have r8 := r3.ext hx1
      have h5 := h3.ext hx1
      refine nl <| cnd rfl (fun h6 => ?_) (fun h6 => ?_)
      ·
        have hB1 := ifp hB1 h6
        refine wp_seq <| rg <| vl rfl rfl xmv <| vl rfl rfl xas <| nl <| ?_
        cases hB1
        have hF := (show some _ = some _ from hF); cases hF
        exact wp_ret <| rt rfl (.tmp l8_i1 rfl .nil) ⟨rfl, k1⟩
      ·
        have hB1 := ifn hB1 h6
        refine wp_skip <| rg <| vl rfl rfl (xadd l8_i1 rfl) <| vl rfl rfl xmv <| nl <| ?_
        refine lq m (Nat.lt_succ_self _) <| ?_
        exact ⟨_, hB1, rfl, l0_i1, l1_i1, l7_i1, k1⟩
    ·
      have hB1 := ifn hB1 h4
      refine wp_exit <| ?_
      cases hB1
      refine lf <| ?_
      exact ⟨rfl, K0_i1⟩
  rintro L w3 ⟨rfl, K0_j1⟩
  refine wp_seq <| rg <| vl rfl rfl xas <| nl <| ?_
  cases hF
  exact wp_ret <| rt rfl (.tmp rfl rfl .nil) ⟨rfl, K0_j1⟩

set_option maxHeartbeats 4000000 in
theorem c53 {w0 : World} {v0 : Value} {x0 : (List ((List Int) × (List Int)))} (r0 : RV w0 v0 x0) {v1 : Value} {x1 : ((List Int) × (List Int)) → Option Bool} (h1 : FnB Try.prog ((List Int) × (List Int)) w0 v1 x1) {F : Nat} {r : Bool} (hF : slices_ContainsFunc_api_BathMove F x0 x1 = some r) :
    Calls Try.prog 53 [v0, v1].toArray w0 (Ret fun v w' => v = .bool r ∧ Ext w0 w') := by
  unfold slices_ContainsFunc_api_BathMove at hF
  have hz := r0.sl; obtain ⟨a1, cq1, rfl, -, -, -⟩ := hz
  refine entr (n := 9) Try.func53 rfl rfl rfl <| wp_seq <| rg <| vl rfl rfl xas <| nl <| wp_seq <| rg <| vl rfl rfl xmv <| vl rfl rfl xmv <| ?_
  have hz := bs hF; obtain ⟨x3, Ex3, hF⟩ := hz
  refine cl rfl rfl (xc cb73 (mc rfl (mc rfl mn))) (c73 r0 h1 Ex3) ?_
  rintro _ w1 ⟨rfl, hx1⟩
  refine vl rfl rfl (xgeq rfl rfl) <| vl rfl rfl xas <| nl <| ?_
  cases hF
  exact wp_ret <| rt rfl (.tmp rfl rfl .nil) ⟨rfl, hx1⟩

set_option maxHeartbeats 4000000 in
theorem c54 {w0 : World} {v0 : Value} {x0 : ((List Int) × (List Int))} (r0 : RV w0 v0 x0) {b1 : Nat} {cs1 : List Value} {x1 : Int} (h1 : Cs w0 b1 0 cs1) (q1 : Enc.rep (fun _ => True) w0 cs1 x1) {r : Bool} (hF : bath_CheckBath_2 x0 x1 = some r) :
    Calls Try.prog 54 [v0, .pointer (some ⟨b1, 0, none⟩)].toArray w0 (Ret fun v w' => v = .bool r ∧ Ext w0 w') := by
  unfold bath_CheckBath_2 at hF
  have hz := id r0; obtain ⟨_, rfl, ⟨_, _, rfl, ⟨a1, cq1, rfl, p1, q3, e1⟩, ⟨a2, cq2, rfl, p2, q4, e2⟩⟩⟩ := hz
  have r3 := RV.of1 p1 q3 e1
  have r4 := RV.of1 p2 q4 e2
  obtain rfl := q1
  refine entr (n := 16) Try.func54 rfl rfl rfl <| wp_seq <| rg <| sbx rfl rfl fun b3 w1 hx1 hg1 hb1 => ?_
  have h3 := h1.ext hx1
  have r5 := r3.ext hx1
  have r6 := r4.ext hx1
  have r7 := r0.ext hx1
  refine vl rfl rfl xas <| nl <| wp_seq <| rg <| vl rfl rfl (xfa rfl fa57_0) <| vl rfl rfl (xld rfl ti22 ((Bx.cs hb1).at 0 rfl)) <| vl rfl rfl (xlen rfl Try.underlying22) <| vl rfl rfl (xld rfl ti3 (h3.at 0 rfl)) <| vl rfl rfl (xneq rfl rfl) <| vl rfl rfl xmv <| gv rfl rfl rfl rfl (gw0 rfl) rfl (fun hc => xfa rfl fa57_1) <| gv rfl rfl rfl rfl (gw0 rfl) rfl (fun hc => xld (mv hc rfl) ti22 ((Bx.cs hb1).at 1 rfl)) <| gv rfl rfl rfl rfl (gw0 rfl) rfl (fun hc => xlen (mv hc rfl) Try.underlying22) <| gv rfl rfl rfl rfl (gw0 rfl) rfl (fun hc => xld rfl ti3 (h3.at 0 rfl)) <| gv rfl rfl rfl rfl (gw0 rfl) rfl (fun hc => xneq (mv hc rfl) (mv hc rfl)) <| vl rfl rfl (xpo rfl rfl rfl) <| vl rfl rfl xas <| nl <| ?_
  cases hF
  exact wp_ret <| rt rfl (.tmp rfl rfl .nil) ⟨rfl, hx1⟩

set_option maxHeartbeats 4000000 in
theorem c55 {w0 : World} {v0 : Value} {x0 : ((List Int) × (List Int))} (r0 : RV w0 v0 x0) {b1 : Nat} {v1 : Value} {x1 : (List Int) → Option Bool} (h1 : Cs w0 b1 0 [v1]) (q1 : FnB Try.prog (List Int) w0 v1 x1) {r : Bool} (hF : bath_CheckBath_3 x0 x1 = some r) :
    Calls Try.prog 55 [v0, .pointer (some ⟨b1, 0, none⟩)].toArray w0 (Ret fun v w' => v = .bool r ∧ Ext w0 w') := by
  unfold bath_CheckBath_3 at hF
  have hz := id r0; obtain ⟨_, rfl, ⟨_, _, rfl, ⟨a1, cq1, rfl, p1, q3, e1⟩, ⟨a2, cq2, rfl, p2, q4, e2⟩⟩⟩ := hz
  have r3 := RV.of1 p1 q3 e1
  have r4 := RV.of1 p2 q4 e2
  refine entr (n := 14) Try.func55 rfl rfl rfl <| wp_seq <| rg <| sbx rfl rfl fun b3 w1 hx1 hg1 hb1 => ?_
  have q5 := q1.ext hx1
  have h3 := h1.ext hx1
  have r5 := r3.ext hx1
  have r6 := r4.ext hx1
  have r7 := r0.ext hx1
  refine vl rfl rfl xas <| nl <| wp_seq <| ?_
  have hz := bs hF; obtain ⟨y1, hB1, hF⟩ := hz
  refine ct (fun L w => L 3 = .bool y1 ∧ Ext w1 w) ?_ ?_
  ·
    refine rg <| vl rfl rfl (xld rfl ti85 (h3.at 0 rfl)) <| vl rfl rfl (xfa rfl fa57_0) <| vl rfl rfl (xld rfl ti22 ((Bx.cs hb1).at 0 rfl)) <| ?_
    have hz := bs hB1; obtain ⟨x5, Ex5, hB1⟩ := hz
    have hz := id q5; obtain ⟨g2, fs2, cs4, e4, hg3, hu2⟩ := hz
    refine cl rfl rfl (xcv (rfl.trans e4) hg3 (mc rfl mn) rfl) (hu2 _ _ _ _ (Ext.refl _) r5 Ex5) ?_
    rintro _ w3 ⟨rfl, hx3⟩
    have k2 := hx1.tr hx3
    have hb3 := hb1.ext hx3
    have r10 := r5.ext hx3
    have r11 := r6.ext hx3
    have q7 := q5.ext hx3
    have h5 := h3.ext hx3
    refine vl rfl rfl xmv <| ?_
    refine Or.elim (Bool.eq_false_or_eq_true x5) (fun h6 => ?_) (fun h6 => ?_)
    ·
      have hB1 := ifp hB1 h6
      refine gfk rfl rfl rfl rfl rfl (btf h6) rfl <| gfk rfl rfl rfl rfl rfl (btf h6) rfl <| gfk rfl rfl rfl rfl rfl (btf h6) rfl <| gfk rfl rfl rfl rfl rfl (btf h6) rfl <| vl rfl rfl (xpt rfl h6 rfl) <| vl rfl rfl xas <| nl <| ?_
      cases hB1
      refine lf <| ?_
      exact ⟨rfl, hx3⟩
    ·
      have hB1 := ifn hB1 h6
      refine gtk rfl rfl rfl rfl rfl (bf h6) <| vl rfl rfl (xld rfl ti85 (h5.at 0 rfl)) <| gtk rfl rfl rfl rfl rfl (bf h6) <| vl rfl rfl (xfa rfl fa57_1) <| gtk rfl rfl rfl rfl rfl (bf h6) <| vl rfl rfl (xld rfl ti22 ((Bx.cs hb3).at 1 rfl)) <| ?_
      have hz := bs hB1; obtain ⟨x6, Ex6, hB1⟩ := hz
      have hz := id q7; obtain ⟨g3, fs3, cs5, e5, hg4, hu3⟩ := hz
      refine gtk rfl rfl rfl rfl rfl (bf h6) <| cl rfl rfl (xcv (rfl.trans e5) hg4 (mc rfl mn) rfl) (hu3 _ _ _ _ (Ext.refl _) r11 Ex6) ?_
      rintro _ w4 ⟨rfl, hx4⟩
      have k3 := k2.tr hx4
      have k4 := hx3.tr hx4
      refine vl rfl rfl (xpf rfl h6 rfl) <| vl rfl rfl xas <| nl <| ?_
      cases hB1
      refine lf <| ?_
      exact ⟨rfl, k4⟩
  rintro L w5 ⟨l3_j1, K0_j1⟩
  have k5 := hx1.tr K0_j1
  cases hF
  exact wp_ret <| rt rfl (.tmp l3_j1 rfl .nil) ⟨rfl, k5⟩

set_option maxHeartbeats 4000000 in
theorem c16 {w0 : World} {v0 : Value} {x0 : ((List Int) × (List ((List Int) × (List Int))))} (r0 : RV w0 v0 x0) {F : Nat} {r : Int} (hF : bath_CheckBath F x0 = some r) :
    Calls Try.prog 16 [v0].toArray w0 (Ret fun v w' => v = .int .i64 r ∧ Ext w0 w') := by
  unfold bath_CheckBath at hF
  have hz := id r0; obtain ⟨_, rfl, ⟨_, _, rfl, ⟨a1, cq1, rfl, p1, q2, e1⟩, ⟨a2, cq2, rfl, p2, q3, e2⟩⟩⟩ := hz
  have r2 := RV.of1 p1 q2 e1
  have r3 := RV.of1 p2 q3 e2
  refine entr (n := 41) Try.func16 rfl rfl rfl <| wp_seq <| rg <| sbx rfl rfl fun b2 w1 hx1 hg1 hb1 => ?_
  have r4 := r2.ext hx1
  have r5 := r3.ext hx1
  have r6 := r0.ext hx1
  refine vl rfl rfl xas <| nl <| wp_seq <| rg <| vl rfl rfl (xfa rfl fa25_0) <| vl rfl rfl (xld rfl ti22 ((Bx.cs hb1).at 0 rfl)) <| vl rfl rfl (xlen rfl Try.underlying22) <| sal ti3 fun b3 w2 hx2 hg2 hb2 => ?_
  have k1 := hx1.tr hx2
  have hb3 := hb1.ext hx2
  have r7 := r4.ext hx2
  have r8 := r5.ext hx2
  refine sst rfl rfl rfl ti3 hb2 rfl rfl (ble rfl) fun w3 hch1 hb4 => ?_
  have k2 := Ext.chg k1 hch1 (Nat.le_trans hx1.size hg2)
  have k3 := Ext.chg hx2 hch1 (Nat.le_trans (Nat.le_refl _) hg2)
  have hb5 := hb1.ext k3
  have r9 := r4.ext k3
  have r10 := r5.ext k3
  have hb6 : Bx w3 b3 3 [.int .i64 (x0.1.length : Int)] := hb4
  refine nl <| wp_seq <| rg <| sal ti85 fun b4 w4 hx3 hg3 hb7 => ?_
  have k4 := k2.tr hx3
  have k5 := k3.tr hx3
  have hb8 := hb5.ext hx3
  have r11 := r9.ext hx3
  have r12 := r10.ext hx3
  have hb9 := hb6.ext hx3
  refine sst rfl rfl rfl ti85 hb7 rfl rfl (ble rfl) fun w5 hch2 hb10 => ?_
  have k6 := Ext.chg k4 hch2 (Nat.le_trans k2.size hg3)
  have k7 := Ext.chg k5 hch2 (Nat.le_trans k3.size hg3)
  have k8 := Ext.chg hx3 hch2 (Nat.le_trans (Nat.le_refl _) hg3)
  have hb11 := hb5.ext k8
  have r13 := r9.ext k8
  have r14 := r10.ext k8
  have hb12 := hb6.ext k8
  have hb13 : Bx w5 b4 85 [.func (.func 50) [].toArray [].toArray] := hb10
  refine nl <| wp_seq <| wp_block <| wp_seq <| rg <| vl rfl rfl (xld rfl ti3 ((Bx.cs hb12).at 0 rfl)) <| vl rfl rfl (xeql rfl rfl) <| vl rfl rfl xmv <| gv rfl rfl rfl rfl (gw0 rfl) rfl (fun hc => xld rfl ti3 ((Bx.cs hb12).at 0 rfl)) <| gv rfl rfl rfl rfl (gw0 rfl) rfl (fun hc => xgtr (mv hc rfl) rfl) <| vl rfl rfl (xpo rfl rfl rfl) <| vl rfl rfl xmv <| gv rfl rfl rfl rfl (gw0 rfl) rfl (fun hc => xfa rfl fa25_1) <| gv rfl rfl rfl rfl (gw0 rfl) rfl (fun hc => xld (mv hc rfl) ti23 ((Bx.cs hb11).at 1 rfl)) <| gv rfl rfl rfl rfl (gw0 rfl) rfl (fun hc => xlen (mv hc rfl) Try.underlying23) <| gv rfl rfl rfl rfl (gw0 rfl) rfl (fun hc => xgtr (mv hc rfl) rfl) <| vl rfl rfl (xpo rfl rfl rfl) <| vl rfl rfl xas <| nl <| cnd rfl (fun h2 => ?_) (fun h2 => ?_)
  ·
    have hF := ifp hF h2
    refine wp_seq <| rg <| vl rfl rfl xas <| nl <| ?_
    cases hF
    exact wp_ret <| rt rfl (.tmp rfl rfl .nil) ⟨rfl, k6⟩
  ·
    have hF := ifn hF h2
    refine wp_seq <| rg <| vl rfl rfl (xfa rfl fa25_0) <| vl rfl rfl (xld rfl ti22 ((Bx.cs hb11).at 0 rfl)) <| ?_
    have hz := bs hF; obtain ⟨x2, Ex2, hF⟩ := hz
    refine cl rfl rfl (xc cb51 (mc rfl (mc rfl (mc rfl mn)))) (c51 r13 Ex2) ?_
    rintro _ w6 ⟨rfl, hx4⟩
    have k9 := k6.tr hx4
    have k10 := k7.tr hx4
    have k11 := k8.tr hx4
    have hb14 := hb11.ext hx4
    have r15 := r13.ext hx4
    have r16 := r14.ext hx4
    have hb15 := hb12.ext hx4
    have hb16 := hb13.ext hx4
    refine vl rfl rfl (xnot rfl) <| vl rfl rfl xas <| nl <| cnd rfl (fun h3 => ?_) (fun h3 => ?_)
    ·
      have hF := ifp hF h3
      refine wp_seq <| rg <| vl rfl rfl xas <| nl <| ?_
      cases hF
      exact wp_ret <| rt rfl (.tmp rfl rfl .nil) ⟨rfl, k9⟩
    ·
      have hF := ifn hF h3
      refine wp_seq <| rg <| vl rfl rfl (xfa rfl fa25_0) <| vl rfl rfl (xld rfl ti22 ((Bx.cs hb14).at 0 rfl)) <| ?_
      have hz := bs hF; obtain ⟨x3, Ex3, hF⟩ := hz
      refine cl rfl rfl (xc cb52 (mc rfl mn)) (c52 r15 Ex3) ?_
      rintro _ w7 ⟨rfl, hx5⟩
      have k12 := k9.tr hx5
      have k13 := k10.tr hx5
      have k14 := k11.tr hx5
      have hb17 := hb14.ext hx5
      have r17 := r15.ext hx5
      have r18 := r16.ext hx5
      have hb18 := hb15.ext hx5
      have hb19 := hb16.ext hx5
      refine vl rfl rfl (xgtr rfl rfl) <| vl rfl rfl xas <| nl <| cnd rfl (fun h4 => ?_) (fun h4 => ?_)
      ·
        have hF := ifp hF h4
        refine wp_seq <| rg <| vl rfl rfl xas <| nl <| ?_
        cases hF
        exact wp_ret <| rt rfl (.tmp rfl rfl .nil) ⟨rfl, k12⟩
      ·
        have hF := ifn hF h4
        refine wp_seq <| rg <| vl rfl rfl (xfa rfl fa25_1) <| vl rfl rfl (xld rfl ti23 ((Bx.cs hb17).at 1 rfl)) <| vl rfl rfl (xmf mn (mc rfl mn)) <| ?_
        have hz := bs hF; obtain ⟨x4, Ex4, hF⟩ := hz
        refine cl rfl rfl (xc cb53 (mc rfl (mc rfl mn))) (c53 r18 ⟨54, [], [.pointer (some ⟨b3, 0, none⟩)], rfl, cb54, fun w' u x b hk hu hp => c54 hu (Bx.cs (hb18.ext hk)) rfl hp⟩ Ex4) ?_
        rintro _ w8 ⟨rfl, hx6⟩
        have k15 := k12.tr hx6
        have k16 := k13.tr hx6
        have k17 := k14.tr hx6
        have hb20 := hb17.ext hx6
        have r19 := r17.ext hx6
        have r20 := r18.ext hx6
        have hb21 := hb19.ext hx6
        refine vl rfl rfl xas <| nl <| cnd rfl (fun h5 => ?_) (fun h5 => ?_)
        ·
          have hF := ifp hF h5
          refine wp_seq <| rg <| vl rfl rfl xas <| nl <| ?_
          cases hF
          exact wp_ret <| rt rfl (.tmp rfl rfl .nil) ⟨rfl, k15⟩
        ·
          have hF := ifn hF h5
          refine wp_seq <| rg <| vl rfl rfl (xfa rfl fa25_1) <| vl rfl rfl (xld rfl ti23 ((Bx.cs hb20).at 1 rfl)) <| vl rfl rfl (xmf mn (mc rfl mn)) <| ?_
          have hz := bs hF; obtain ⟨x5, Ex5, hF⟩ := hz
          refine cl rfl rfl (xc cb53 (mc rfl (mc rfl mn))) (c53 r20 ⟨55, [], [.pointer (some ⟨b4, 0, none⟩)], rfl, cb55, fun w' u x b hk hu hp => c55 hu (Bx.cs (hb21.ext hk)) (FnB.ext (⟨50, [], [], rfl, cb50, fun w' u x b hk hu hp => c50 hu  hp⟩ : FnB Try.prog (List Int) _ (.func (.func 50) [].toArray [].toArray) (fun y => bath_CheckBath_1 F y)) hk) hp⟩ Ex5) ?_
          rintro _ w9 ⟨rfl, hx7⟩
          have k18 := k15.tr hx7
          have k19 := k16.tr hx7
          have k20 := k17.tr hx7
          refine vl rfl rfl xas <| nl <| cnd rfl (fun h6 => ?_) (fun h6 => ?_)
          ·
            have hF := ifp hF h6
            refine wp_seq <| rg <| vl rfl rfl xas <| nl <| ?_
            cases hF
            exact wp_ret <| rt rfl (.tmp rfl rfl .nil) ⟨rfl, k18⟩
          ·
            have hF := ifn hF h6
            refine wp_skip <| wp_seq <| rg <| vl rfl rfl xas <| nl <| ?_
            cases hF
            exact wp_ret <| rt rfl (.tmp rfl rfl .nil) ⟨rfl, k18⟩

set_option maxHeartbeats 4000000 in
theorem c45 {w0 : World} {v0 : Value} {x0 : ((List Int) × (List ((List Int) × (List Int))))} (r0 : RV w0 v0 x0) {v1 : Value} {x1 : (List (List Int))} (r1 : RV w0 v1 x1) {F : Nat} {r : ((Ob (((List Int) × (List ((List Int) × (List Int)))) × Opq)) × (List (Ar 5 Int)) × Int)} (hF : bath_open F x0 x1 = some r) :
    Calls Try.prog 45 [v0, v1].toArray w0 (Ret fun v w' => ∃ u0 u1 : Value, v = .tuple #[u0, u1, .int .i64 r.2.2] ∧ RV w' u0 r.1 ∧ RV w' u1 r.2.1 ∧ Ext w0 w') := by
  unfold bath_open at hF
  have hz := id r0; obtain ⟨_, rfl, ⟨_, _, rfl, ⟨a1, cq1, rfl, p1, q3, e1⟩, ⟨a2, cq2, rfl, p2, q4, e2⟩⟩⟩ := hz
  have r3 := RV.of1 p1 q3 e1
  have r4 := RV.of1 p2 q4 e2
  have hz := r1.sl; obtain ⟨a3, cq3, rfl, -, -, -⟩ := hz
  refine entr (n := 60) Try.func45 rfl rfl rfl <| wp_seq <| rg <| sbx rfl rfl fun b3 w1 hx1 hg1 hb1 => ?_
  have r5 := r1.ext hx1
  have r6 := r3.ext hx1
  have r7 := r4.ext hx1
  have r8 := r0.ext hx1
  refine vl rfl rfl xas <| vl rfl rfl xas <| vl rfl rfl xas <| nl <| wp_seq <| wp_seq <| rg <| vl rfl rfl (xlda rfl ti25 rfl (Bx.cs hb1)) <| ?_
  have hz := bs hF; obtain ⟨x3, Ex3, hF⟩ := hz
  refine cl rfl rfl (xc cb16 (mc rfl mn)) (c16 (show RV (α := ((List Int) × (List ((List Int) × (List Int))))) _ (.agg [.slice a1 x0.1.length cq1, .slice a2 x0.2.length cq2].toArray) (x0.1, x0.2) from ⟨_, rfl, ⟨[.slice a1 x0.1.length cq1], [.slice a2 x0.2.length cq2], rfl, r6.rep1, r7.rep1⟩⟩) Ex3) ?_
  rintro _ w2 ⟨rfl, hx2⟩
  have k1 := hx1.tr hx2
  have hb2 := hb1.ext hx2
  have r9 := r6.ext hx2
  have r10 := r7.ext hx2
  have r11 := r5.ext hx2
  refine vl rfl rfl xas <| nl <| wp_seq <| rg <| vl rfl rfl xmv <| vl rfl rfl (xneq rfl rfl) <| nl <| cnd rfl (fun h3 => ?_) (fun h3 => ?_)
  ·
    have hF := ifp hF h3
    refine wp_seq <| rg <| vl rfl rfl xmv <| vl rfl rfl xas <| vl rfl rfl xas <| vl rfl rfl xas <| nl <| ?_
    cases hF
    exact wp_ret <| rt rfl (.tmp rfl rfl (.tmp rfl rfl (.tmp rfl rfl .nil))) ⟨_, _, rfl, obNil, (RVo.nil (Nat.zero_le _)), k1⟩
  ·
    have hF := ifn hF h3
    refine wp_skip <| wp_seq <| rg <| vl rfl rfl xas <| nl <| wp_seq <| wp_seq <| rg <| vl rfl rfl xmv <| vl rfl rfl (xlen rfl Try.underlying101) <| vl rfl rfl xmv <| nl <| ?_
    have o1 : Row (α := (Ar 5 Int)) 79 w2.heap.size w2 (.slice none 0 0) [] := Row.nil
    have hz := bs hF; obtain ⟨o2, hB1, hF⟩ := hz
    refine ct (fun L w => ∃ z1 : (List (Ar 5 Int)), ∃ v4 : Value, o2 = .inr z1 ∧ L 8 = v4 ∧ Row 79 w2.heap.size w v4 z1 ∧ L 2 = .pointer (some ⟨b3, 0, none⟩) ∧ Ext w2 w) ?_ ?_
    ·
      refine wp_block <| lp (I := fun m L w => ∃ y1 : (List (Ar 5 Int)), ∃ y2 : Int, ∃ v3 : Value, bath_open_l1 F x0 x1 m y1 y2  = some o2 ∧ L 8 = v3 ∧ Row 79 w2.heap.size w v3 y1 ∧ L 21 = .int .i64 y2 ∧ L 2 = .pointer (some ⟨b3, 0, none⟩) ∧ L 19 = .slice a3 x1.length cq3 ∧ L 20 = .int .i64 (x1.length : Int) ∧ Ext w2 w) F ⟨_, _, _, hB1, rfl, o1, rfl, rfl, rfl, rfl, (Ext.refl _)⟩ ?_
      rintro m L w3 ⟨y1, y2, v3, hB1, l8_i1, O8_i1, l21_i1, l2_i1, l19_i1, l20_i1, K0_i1⟩
      rcases m with _ | m
      · rw [bath_open_l1] at hB1; cases hB1
      rw [bath_open_l1] at hB1
      have k2 := k1.tr K0_i1
      have r12 := r9.ext K0_i1
      have r13 := r10.ext K0_i1
      have hb3 := hb2.ext K0_i1
      have r14 := r11.ext K0_i1
      have hz := RV.sl O8_i1.rv; obtain ⟨a4, cq4, rfl, -, -, -⟩ := hz
      refine wp_seq <| rg <| vl rfl rfl (xlss l21_i1 l20_i1) <| nl <| wp_seq <| cnd rfl (fun h4 => ?_) (fun h4 => ?_)
      ·
        have hB1 := ifp hB1 h4
        refine wp_skip <| wp_seq <| wp_block <| wp_seq <| rg <| ?_
        have hz := bs hB1; obtain ⟨x4, Ex4, hB1⟩ := hz
        have hz := (RV.els r1).ix Ex4; obtain ⟨b4, f1, cs3, e3, i2, i3, q5, hc1⟩ := hz
        cases e3
        obtain ⟨a5, cq5, rfl, p3, q6, e4⟩ := q5
        have r15 := RV.of1 p3 q6 e4
        have hc2 := hc1.ext k2
        have r16 := r15.ext k2
        refine vl rfl rfl (xixs l19_i1 l21_i1 Try.underlying101 ti22 i2 i3) <| vl rfl rfl (xld rfl ti22 (hc2.at 0 rfl)) <| vl rfl rfl xas <| nl <| wp_seq <| wp_seq <| rg <| vl rfl rfl xmv <| vl rfl rfl (xlen rfl Try.underlying22) <| vl rfl rfl (xfa l2_i1 fa25_0) <| vl rfl rfl (xld rfl ti22 ((Bx.cs hb3).at 0 rfl)) <| vl rfl rfl (xlen rfl Try.underlying22) <| vl rfl rfl (xneq rfl rfl) <| nl <| cnd rfl (fun h5 => ?_) (fun h5 => ?_)
        ·
          have hB1 := ifp hB1 h5
          refine wp_seq <| rg <| vl rfl rfl xas <| vl rfl rfl xas <| vl rfl rfl xas <| nl <| ?_
          cases hB1
          have hF := (show some _ = some _ from hF); cases hF
          exact wp_ret <| rt rfl (.tmp rfl rfl (.tmp rfl rfl (.tmp rfl rfl .nil))) ⟨_, _, rfl, obNil, (RVo.nil (Nat.zero_le _)), k2⟩
        ·
          have hB1 := ifn hB1 h5
          refine wp_skip <| wp_seq <| rg <| sal ti79 fun b5 w4 hx3 hg2 hb4 => ?_
          have k3 := k2.tr hx3
          have k4 := K0_i1.tr hx3
          have hb5 := hb3.ext hx3
          have r17 := r12.ext hx3
          have r18 := r13.ext hx3
          have r19 := r14.ext hx3
          have O1 := O8_i1.ext hx3
          have r20 := r16.ext hx3
          have hb6 : Bx w4 b5 79 (List.flatMap Flat.enc ((Ar.fill 5 0 : (Ar 5 Int))).l) := hb4
          refine nl <| wp_seq <| wp_seq <| rg <| vl rfl rfl xmv <| vl rfl rfl (xlen rfl Try.underlying22) <| vl rfl rfl xmv <| nl <| ?_
          have hz := bs hB1; obtain ⟨o3, hB5, hB1⟩ := hz
          refine ct (fun L w => ∃ z2 : (Ar 5 Int), o3 = .inr z2 ∧ Bx w b5 79 (List.flatMap Flat.enc z2.l) ∧ L 2 = .pointer (some ⟨b3, 0, none⟩) ∧ L 8 = .slice a4 y1.length cq4 ∧ L 11 = .pointer (some ⟨b5, 0, none⟩) ∧ L 19 = .slice (some ⟨b4, f1, none⟩) x1.length cq3 ∧ L 20 = .int .i64 (x1.length : Int) ∧ L 21 = .int .i64 y2 ∧ w2.heap.size ≤ w.heap.size ∧ Ext w3 w) ?_ ?_
          ·
            refine wp_block <| lp (I := fun m L w => ∃ y3 : Int, ∃ y4 : (Ar 5 Int), bath_open_l2 F x0 x4 m y3 y4  = some o3 ∧ L 33 = .int .i64 y3 ∧ Bx w b5 79 (List.flatMap Flat.enc y4.l) ∧ L 2 = .pointer (some ⟨b3, 0, none⟩) ∧ L 8 = .slice a4 y1.length cq4 ∧ L 11 = .pointer (some ⟨b5, 0, none⟩) ∧ L 19 = .slice (some ⟨b4, f1, none⟩) x1.length cq3 ∧ L 20 = .int .i64 (x1.length : Int) ∧ L 21 = .int .i64 y2 ∧ L 31 = .slice a5 x4.length cq5 ∧ L 32 = .int .i64 (x4.length : Int) ∧ w2.heap.size ≤ w.heap.size ∧ Ext w3 w) F ⟨_, _, hB5, rfl, hb6, l2_i1, l8_i1, rfl, l19_i1, l20_i1, l21_i1, rfl, rfl, k4.size, hx3⟩ ?_
            rintro m L w5 ⟨y3, y4, hB5, l33_i4, B11_i4, l2_i4, l8_i4, l11_i4, l19_i4, l20_i4, l21_i4, l31_i4, l32_i4, Z0_i4, K0_i4⟩
            rcases m with _ | m
            · rw [bath_open_l2] at hB5; cases hB5
            rw [bath_open_l2] at hB5
            have k5 := k2.tr K0_i4
            have k6 := K0_i1.tr K0_i4
            have r21 := r12.ext K0_i4
            have r22 := r13.ext K0_i4
            have hb7 := hb3.ext K0_i4
            have O2 := O8_i1.ext K0_i4
            have r23 := r14.ext K0_i4
            have r24 := r16.ext K0_i4
            refine wp_seq <| rg <| vl rfl rfl (xlss l33_i4 l32_i4) <| nl <| wp_seq <| cnd rfl (fun h6 => ?_) (fun h6 => ?_)
            ·
              have hB5 := ifp hB5 h6
              refine wp_skip <| wp_seq <| wp_block <| wp_seq <| rg <| vl rfl rfl xmv <| ?_
              have hz := bs hB5; obtain ⟨x5, Ex5, hB5⟩ := hz
              have hz := (RV.els r15).ix Ex5; obtain ⟨b6, f2, cs4, e5, i5, i6, q7, hc3⟩ := hz
              cases e5
              obtain rfl := q7
              have hc4 := hc3.ext k5
              refine vl rfl rfl (xixs l31_i4 l33_i4 Try.underlying22 ti2 i5 i6) <| vl rfl rfl (xld rfl ti2 (hc4.at 0 rfl)) <| vl rfl rfl xas <| vl rfl rfl xas <| nl <| wp_seq <| wp_seq <| rg <| vl rfl rfl (xfa l2_i4 fa25_0) <| vl rfl rfl (xld rfl ti22 ((Bx.cs hb7).at 0 rfl)) <| vl rfl rfl xmv <| ?_
              have hz := bs hB5; obtain ⟨x6, Ex6, hB5⟩ := hz
              have hz := (RV.els r3).ix Ex6; obtain ⟨b7, f3, cs5, e6, i7, i8, q8, hc5⟩ := hz
              cases e6
              obtain rfl := q8
              have hc6 := hc5.ext k5
              refine vl rfl rfl (xixs rfl l33_i4 Try.underlying22 ti2 i7 i8) <| vl rfl rfl (xld rfl ti2 (hc6.at 0 rfl)) <| vl rfl rfl xmv <| sbsv (cs := [.int .i64 x5]) Try.underlying22 ti2 rfl (pc rfl pn) rfl rfl rfl rfl rfl fun b8 w6 hx4 hg3 hb8 => ?_
              have k7 := k5.tr hx4
              have k8 := k6.tr hx4
              have k9 := K0_i4.tr hx4
              have zs1 := Nat.le_trans Z0_i4 hx4.size
              have hb9 := hb7.ext hx4
              have r25 := r21.ext hx4
              have r26 := r22.ext hx4
              have B1 := B11_i4.ext hx4
              have O3 := O2.ext hx4
              have r27 := r23.ext hx4
              have r28 := r24.ext hx4
              have o4 : Row (α := Int) 2 w5.heap.size w6 (.slice (some ⟨b8, 0, none⟩) 1 1) [x5] := Row.lit hg3 hb8 rfl (ble rfl)
              have hz := bs hB5; obtain ⟨x7, Ex7, hB5⟩ := hz
              refine cl rfl rfl (xc cb51 (mc rfl (mc rfl (mc rfl mn)))) (c51 o4.rv Ex7) ?_
              rintro _ w7 ⟨rfl, hx5⟩
              have k10 := k7.tr hx5
              have k11 := k8.tr hx5
              have k12 := k9.tr hx5
              have k13 := hx4.tr hx5
              have zs2 := Nat.le_trans zs1 hx5.size
              have hb10 := hb9.ext hx5
              have r30 := r25.ext hx5
              have r31 := r26.ext hx5
              have B2 := B1.ext hx5
              have O4 := O3.ext hx5
              have r32 := r27.ext hx5
              have r33 := r28.ext hx5
              refine vl rfl rfl (xnot rfl) <| nl <| cnd rfl (fun h7 => ?_) (fun h7 => ?_)
              ·
                have hB5 := ifp hB5 h7
                refine wp_seq <| rg <| vl rfl rfl xas <| vl rfl rfl xas <| vl rfl rfl xas <| nl <| ?_
                cases hB5
                have hB1 := (show some _ = some _ from hB1); cases hB1
                have hF := (show some _ = some _ from hF); cases hF
                exact wp_ret <| rt rfl (.tmp rfl rfl (.tmp rfl rfl (.tmp rfl rfl .nil))) ⟨_, _, rfl, obNil, (RVo.nil (Nat.zero_le _)), k10⟩
              ·
                have hB5 := ifn hB5 h7
                refine wp_skip <| rg <| vl rfl rfl xmv <| vl rfl rfl xmv <| ?_
                have hz := bs hB5; obtain ⟨x8, Ex8, hB5⟩ := hz
                have hz := ixar (Bx.cs B2) Ex8; obtain ⟨i9, i10, hc7⟩ := hz
                refine vl rfl rfl (xixa l11_i4 l33_i4 Try.underlying79 ti2 i9 i10) <| ssta (X := y4) (v := x5) rfl rfl rfl ti2 B2 Ex8 fun w8 hch1 hb11 => ?_
                have k14 := Ext.chg k10 hch1 (Nat.le_trans k2.size hg2)
                have k15 := Ext.chg k11 hch1 (Nat.le_trans K0_i1.size hg2)
                have k16 := Ext.chg k12 hch1 (Nat.le_trans (Nat.le_refl _) hg2)
                have zs3 := Nat.le_trans zs2 (Nat.le_of_eq hch1.size.symm)
                have hb12 := hb3.ext k16
                have r34 := r12.ext k16
                have r35 := r13.ext k16
                have O5 := O8_i1.ext k16
                have r36 := r14.ext k16
                have r37 := r16.ext k16
                refine nl <| rg <| vl rfl rfl (xadd l33_i4 rfl) <| vl rfl rfl xmv <| nl <| ?_
                refine lq m (Nat.lt_succ_self _) <| ?_
                exact ⟨_, _, hB5, rfl, hb11, l2_i4, l8_i4, l11_i4, l19_i4, l20_i4, l21_i4, l31_i4, l32_i4, zs3, k16⟩
            ·
              have hB5 := ifn hB5 h6
              refine wp_exit <| ?_
              cases hB5
              refine lf <| ?_
              exact ⟨_, rfl, B11_i4, l2_i4, l8_i4, l11_i4, l19_i4, l20_i4, l21_i4, Z0_i4, K0_i4⟩
          rintro L w9 ⟨z2, rfl, B11_j1, l2_j1, l8_j1, l11_j1, l19_j1, l20_j1, l21_j1, Z0_j1, K0_j1⟩
          have k17 := k2.tr K0_j1
          have k18 := K0_i1.tr K0_j1
          have r38 := r12.ext K0_j1
          have r39 := r13.ext K0_j1
          have hb13 := hb3.ext K0_j1
          have O6 := O8_i1.ext K0_j1
          have r40 := r14.ext K0_j1
          refine rg <| vl rfl rfl xmv <| vl rfl rfl (xlda l11_j1 ti79 (arlen _) (Bx.cs B11_j1)) <| sbsv (r := [(0, .agg (List.flatMap Flat.enc z2.l).toArray)]) (cs := (List.flatMap Flat.enc z2.l ++ [])) Try.underlying73 ti79 rfl (pc rfl pn) rfl rfl rfl (arall1 z2 rfl) rfl fun b9 w10 hx6 hg4 hb14 => ?_
          have k19 := k17.tr hx6
          have k20 := k18.tr hx6
          have k21 := K0_j1.tr hx6
          have zs4 := Nat.le_trans Z0_j1 hx6.size
          have hb15 := hb13.ext hx6
          have r41 := r38.ext hx6
          have r42 := r39.ext hx6
          have r43 := r40.ext hx6
          have O7 := O6.ext hx6
          have o5 : Row (α := (Ar 5 Int)) 79 w9.heap.size w10 (.slice (some ⟨b9, 0, none⟩) 1 1) [z2] := Row.lit hg4 hb14 rfl (ble rfl)
          have hz := bs hB1; obtain ⟨x9, Ex9, hB1⟩ := hz
          refine sapx (l := y1) (k := ([z2] : List (Ar 5 Int))) l8_j1 rfl Try.underlying73 ti79 rfl rfl O7 (RV.els o5.rv) Ex9 k20.size fun v5 w11 o6 hB10 hgr1 how1 => ?_
          have k22 := Ext.grow k19 k1.size hB10
          have k23 : Ext w2 w11 := k20.trans hB10
          have zs5 := Nat.le_trans zs4 hgr1.size
          have hb16 := hb2.ext k23
          have r45 := r9.ext k23
          have r46 := r10.ext k23
          have r47 := r11.ext k23
          have hz := RV.sl o6.rv; obtain ⟨a6, cq6, rfl, -, -, -⟩ := hz
          refine vl rfl rfl xas <| nl <| rg <| vl rfl rfl (xadd l21_j1 rfl) <| vl rfl rfl xmv <| nl <| ?_
          refine lq m (Nat.lt_succ_self _) <| ?_
          exact ⟨_, _, _, hB1, rfl, o6, rfl, l2_j1, l19_j1, l20_j1, k23⟩
      ·
        have hB1 := ifn hB1 h4
        refine wp_exit <| ?_
        cases hB1
        refine lf <| ?_
        exact ⟨_, _, rfl, l8_i1, O8_i1, l2_i1, K0_i1⟩
    rintro L w12 ⟨z1, v4, rfl, l8_j2, O8_j2, l2_j2, K0_j2⟩
    have k24 := k1.tr K0_j2
    have r48 := r9.ext K0_j2
    have r49 := r10.ext K0_j2
    have hb17 := hb2.ext K0_j2
    have hz := RV.sl O8_j2.rv; obtain ⟨a7, cq7, rfl, -, -, -⟩ := hz
    refine wp_seq <| rg <| vl rfl rfl (xlda l2_j2 ti25 rfl (Bx.cs hb17)) <| vl rfl rfl (xbdv (r := [.slice a1 x0.1.length cq1, .slice a2 x0.2.length cq2, .map none]) ti105 sp105 (pc rfl pn) rfl) <| sbx rfl rfl fun b10 w13 hx7 hg5 hb18 => ?_
    have k25 := k24.tr hx7
    have k26 := K0_j2.tr hx7
    have O8 := O8_j2.ext hx7
    have r50 := r48.ext hx7
    have r51 := r49.ext hx7
    refine vl rfl rfl xmv <| vl rfl rfl xas <| vl rfl rfl xas <| vl rfl rfl xas <| nl <| ?_
    have r52 : RV w13 (.pointer (some ⟨b10, 0, none⟩)) (⟨some ((x0.1, x0.2), Opq.mk)⟩ : (Ob (((List Int) × (List ((List Int) × (List Int)))) × Opq))) := obNew (Bx.cs hb18) rfl ⟨[.slice a1 x0.1.length cq1] ++ [.slice a2 x0.2.length cq2], [.map none], rfl, ⟨[.slice a1 x0.1.length cq1], [.slice a2 x0.2.length cq2], rfl, r50.rep1, r51.rep1⟩, ⟨_, rfl, rfl⟩⟩
    cases hF
    exact wp_ret <| rt rfl (.tmp rfl rfl (.tmp l8_j2 rfl (.tmp rfl rfl .nil))) ⟨_, _, rfl, r52, O8.rv, k25⟩

set_option maxHeartbeats 4000000 in
theorem c70 {w0 : World} {v0 : Value} {x0 : (List Int)} (r0 : RV w0 v0 x0) {v1 : Value} {x1 : Int → Option Bool} (h1 : FnB Try.prog Int w0 v1 x1) {F : Nat} {r : Int} (hF : slices_IndexFunc_int F x0 x1 = some r) :
    Calls Try.prog 70 [v0, v1].toArray w0 (Ret fun v w' => v = .int .i64 r ∧ Ext w0 w') := by
  unfold slices_IndexFunc_int at hF
  have hz := r0.sl; obtain ⟨a1, cq1, rfl, -, -, -⟩ := hz
  refine entr (n := 19) Try.func70 rfl rfl rfl <| wp_seq <| rg <| vl rfl rfl xas <| nl <| wp_seq <| wp_seq <| rg <| vl rfl rfl xmv <| vl rfl rfl (xlen rfl Try.underlying26) <| vl rfl rfl xmv <| nl <| ?_
  have hz := bs hF; obtain ⟨o1, hB1, hF⟩ := hz
  refine ct (fun L w => o1 = .inr () ∧ Ext w0 w) ?_ ?_
  ·
    refine wp_block <| lp (I := fun m L w => ∃ y1 : Int, slices_IndexFunc_int_l1 F x0 x1 m y1  = some o1 ∧ L 8 = .int .i64 y1 ∧ L 0 = .slice a1 x0.length cq1 ∧ L 1 = v1 ∧ L 7 = .int .i64 (x0.length : Int) ∧ Ext w0 w) F ⟨_, hB1, rfl, rfl, rfl, rfl, (Ext.refl _)⟩ ?_
    rintro m L w1 ⟨y1, hB1, l8_i1, l0_i1, l1_i1, l7_i1, K0_i1⟩
    rcases m with _ | m
    · rw [slices_IndexFunc_int_l1] at hB1; cases hB1
    rw [slices_IndexFunc_int_l1] at hB1
    have r3 := r0.ext K0_i1
    have h3 := h1.ext K0_i1
    refine wp_seq <| rg <| vl rfl rfl (xlss l8_i1 l7_i1) <| nl <| wp_seq <| cnd rfl (fun h4 => ?_) (fun h4 => ?_)
    ·
      have hB1 := ifp hB1 h4
      refine wp_skip <| wp_seq <| wp_block <| wp_seq <| rg <| vl rfl rfl xmv <| vl rfl rfl xas <| nl <| wp_seq <| rg <| vl rfl rfl xmv <| vl rfl rfl xmv <| vl rfl rfl xmv <| ?_
      have hz := bs hB1; obtain ⟨x3, Ex3, hB1⟩ := hz
      have hz := (RV.els r0).ix Ex3; obtain ⟨b3, f1, cs3, e1, i2, i3, q3, hc1⟩ := hz
      cases e1
      obtain rfl := q3
      have hc2 := hc1.ext K0_i1
      refine vl rfl rfl (xixs l0_i1 l8_i1 Try.underlying26 ti3 i2 i3) <| vl rfl rfl (xld rfl ti3 (hc2.at 0 rfl)) <| ?_
      have hz := bs hB1; obtain ⟨x4, Ex4, hB1⟩ := hz
      have hz := id h3; obtain ⟨g1, fs1, cs4, e2, hg1, hu1⟩ := hz
      refine cl rfl rfl (xcv (l1_i1.trans e2) hg1 (mc rfl mn) rfl) (hu1 _ _ _ _ (Ext.refl _) (RVo.int.2 rfl) Ex4) ?_
      rintro _ w2 ⟨rfl, hx1⟩
      have k1 := K0_i1.tr hx1
      have r4 := r3.ext hx1
      have h5 := h3.ext hx1
      refine nl <| cnd rfl (fun h6 => ?_) (fun h6 => ?_)
      ·
        have hB1 := ifp hB1 h6
        refine wp_seq <| rg <| vl rfl rfl xmv <| vl rfl rfl xas <| nl <| ?_
        cases hB1
        have hF := (show some _ = some _ from hF); cases hF
        exact wp_ret <| rt rfl (.tmp l8_i1 rfl .nil) ⟨rfl, k1⟩
      ·
        have hB1 := ifn hB1 h6
        refine wp_skip <| rg <| vl rfl rfl (xadd l8_i1 rfl) <| vl rfl rfl xmv <| nl <| ?_
        refine lq m (Nat.lt_succ_self _) <| ?_
        exact ⟨_, hB1, rfl, l0_i1, l1_i1, l7_i1, k1⟩
    ·
      have hB1 := ifn hB1 h4
      refine wp_exit <| ?_
      cases hB1
      refine lf <| ?_
      exact ⟨rfl, K0_i1⟩
  rintro L w3 ⟨rfl, K0_j1⟩
  refine wp_seq <| rg <| vl rfl rfl xas <| nl <| ?_
  cases hF
  exact wp_ret <| rt rfl (.tmp rfl rfl .nil) ⟨rfl, K0_j1⟩

set_option maxHeartbeats 4000000 in
theorem c46 {w0 : World} {v0 : Value} {x0 : (List Int)} (r0 : RV w0 v0 x0) {v1 : Value} {x1 : Int → Option Bool} (h1 : FnB Try.prog Int w0 v1 x1) {F : Nat} {r : Bool} (hF : slices_ContainsFunc_int F x0 x1 = some r) :
    Calls Try.prog 46 [v0, v1].toArray w0 (Ret fun v w' => v = .bool r ∧ Ext w0 w') := by
  unfold slices_ContainsFunc_int at hF
  have hz := r0.sl; obtain ⟨a1, cq1, rfl, -, -, -⟩ := hz
  refine entr (n := 9) Try.func46 rfl rfl rfl <| wp_seq <| rg <| vl rfl rfl xas <| nl <| wp_seq <| rg <| vl rfl rfl xmv <| vl rfl rfl xmv <| ?_
  have hz := bs hF; obtain ⟨x3, Ex3, hF⟩ := hz
  refine cl rfl rfl (xc cb70 (mc rfl (mc rfl mn))) (c70 r0 h1 Ex3) ?_
  rintro _ w1 ⟨rfl, hx1⟩
  refine vl rfl rfl (xgeq rfl rfl) <| vl rfl rfl xas <| nl <| ?_
  cases hF
  exact wp_ret <| rt rfl (.tmp rfl rfl .nil) ⟨rfl, hx1⟩

set_option maxHeartbeats 4000000 in
theorem c47 {w0 : World} {x0 : Int} {b1 : Nat} {cs1 : List Value} {x1 : ((List Int) × (List ((List Int) × (List Int))))} (h1 : Cs w0 b1 0 cs1) (q1 : Enc.rep (fun _ => True) w0 cs1 x1) {r : Bool} (hF : bath_Make_1 x0 x1 = some r) :
    Calls Try.prog 47 [.int .i64 x0, .pointer (some ⟨b1, 0, none⟩)].toArray w0 (Ret fun v w' => v = .bool r ∧ Ext w0 w') := by
  unfold bath_Make_1 at hF
  obtain ⟨_, _, rfl, ⟨a1, cq1, rfl, p1, q3, e1⟩, ⟨a2, cq2, rfl, p2, q4, e2⟩⟩ := q1
  have r3 := RV.of1 p1 q3 e1
  have r4 := RV.of1 p2 q4 e2
  refine entr (n := 13) Try.func47 rfl rfl rfl <| wp_seq <| rg <| vl rfl rfl xas <| nl <| wp_seq <| rg <| vl rfl rfl xmv <| vl rfl rfl (xlss rfl rfl) <| vl rfl rfl xmv <| gv rfl rfl rfl rfl (gw0 rfl) rfl (fun hc => xmva rfl) <| gv rfl rfl rfl rfl (gw0 rfl) rfl (fun hc => xfa rfl fa25_1) <| gv rfl rfl rfl rfl (gw0 rfl) rfl (fun hc => xld (mv hc rfl) ti23 (h1.at 1 rfl)) <| gv rfl rfl rfl rfl (gw0 rfl) rfl (fun hc => xlen (mv hc rfl) Try.underlying23) <| gv rfl rfl rfl rfl (gw0 rfl) rfl (fun hc => xgeq (mv hc rfl) (mv hc rfl)) <| vl rfl rfl (xpo rfl rfl rfl) <| vl rfl rfl xas <| nl <| ?_
  cases hF
  exact wp_ret <| rt rfl (.tmp rfl rfl .nil) ⟨rfl, (Ext.refl _)⟩

set_option maxHeartbeats 4000000 in
theorem c48 {w0 : World} {b0 : Nat} {cs0 : List Value} {x0 : (((List Int) × (List ((List Int) × (List Int)))) × Opq)} (h0 : Cs w0 b0 0 cs0) (q0 : Enc.rep (fun _ => True) w0 cs0 x0) {v1 : Value} {x1 : (Ar 5 Int)} (r1 : RV w0 v1 x1) {x2 : Int} {F : Nat} {r : ((Ar 5 Int) × Bool)} (hF : bath_shop_after F x0 x1 x2 = some r) :
    Calls Try.prog 48 [.pointer (some ⟨b0, 0, none⟩), v1, .int .i64 x2].toArray w0 (Ret fun v w' => ∃ u0 : Value, v = .tuple #[u0, .bool r.2] ∧ RV w' u0 r.1 ∧ Ext w0 w') := by
  unfold bath_shop_after at hF
  obtain ⟨_, _, rfl, ⟨_, _, rfl, ⟨a1, cq1, rfl, p1, q4, e1⟩, ⟨a2, cq2, rfl, p2, q5, e2⟩⟩, ⟨a3, rfl, q6⟩⟩ := q0
  have r4 := RV.of1 p1 q4 e1
  have r5 := RV.of1 p2 q5 e2
  have hz := id r1; obtain ⟨_, rfl, rfl⟩ := hz
  refine entr (n := 70) Try.func48 rfl rfl rfl <| wp_seq <| rg <| sbx rfl rfl fun b4 w1 hx1 hg1 hb1 => ?_
  have r6 := r4.ext hx1
  have r7 := r5.ext hx1
  have h4 := h0.ext hx1
  have r8 := r1.ext hx1
  refine sal ti79 fun b5 w2 hx2 hg2 hb2 => ?_
  have k1 := hx1.tr hx2
  have hb3 := hb1.ext hx2
  have r9 := r6.ext hx2
  have r10 := r7.ext hx2
  have h5 := h4.ext hx2
  have hb4 : Bx w2 b5 79 (List.flatMap Flat.enc ((Ar.fill 5 0 : (Ar 5 Int))).l) := hb2
  refine vl rfl rfl xas <| nl <| wp_seq <| rg <| vl rfl rfl xmv <| vl rfl rfl (xnil rfl) <| vl rfl rfl (xfa rfl fa105_0) <| vl rfl rfl (xfa rfl fa25_1) <| vl rfl rfl (xld rfl ti23 (h5.at 1 rfl)) <| vl rfl rfl xmv <| ?_
  have hz := bs hF; obtain ⟨x4, Ex4, hF⟩ := hz
  have hz := (RV.els r5).ix Ex4; obtain ⟨b6, f1, cs4, e3, i1, i2, q7, hc1⟩ := hz
  cases e3
  obtain ⟨_, _, rfl, ⟨a4, cq3, rfl, p3, q8, e4⟩, ⟨a5, cq4, rfl, p4, q9, e5⟩⟩ := q7
  have r11 := RV.of1 p3 q8 e4
  have r12 := RV.of1 p4 q9 e5
  have hc2 := hc1.ext k1
  have r13 := r11.ext k1
  have r14 := r12.ext k1
  refine vl rfl rfl (xixs rfl rfl Try.underlying23 ti57 i1 i2) <| vl rfl rfl (xlda rfl ti57 rfl hc2) <| sal ti57 fun b7 w3 hx3 hg3 hb5 => ?_
  have k2 := k1.tr hx3
  have k3 := hx2.tr hx3
  have hb6 := hb3.ext hx3
  have hb7 := hb4.ext hx3
  have r15 := r9.ext hx3
  have r16 := r10.ext hx3
  have h6 := h5.ext hx3
  have r17 := r13.ext hx3
  have r18 := r14.ext hx3
  refine sst rfl rfl rfl ti57 hb5 rfl rfl (ble rfl) fun w4 hch1 hb8 => ?_
  have k4 := Ext.chg k2 hch1 (Nat.le_trans k1.size hg3)
  have k5 := Ext.chg k3 hch1 (Nat.le_trans hx2.size hg3)
  have k6 := Ext.chg hx3 hch1 (Nat.le_trans (Nat.le_refl _) hg3)
  have hb9 := hb3.ext k6
  have hb10 := hb4.ext k6
  have r19 := r9.ext k6
  have r20 := r10.ext k6
  have h7 := h5.ext k6
  have r21 := r13.ext k6
  have r22 := r14.ext k6
  have hb11 : Bx w4 b7 57 [.slice a4 x4.1.length cq3, .slice a5 x4.2.length cq4] := hb8
  refine nl <| wp_seq <| rg <| vl rfl rfl xas <| nl <| wp_seq <| wp_seq <| rg <| vl rfl rfl xmv <| vl rfl rfl (xnil rfl) <| vl rfl rfl (xfa rfl fa105_0) <| vl rfl rfl (xfa rfl fa25_0) <| vl rfl rfl (xld rfl ti22 (h7.at 0 rfl)) <| vl rfl rfl (xlen rfl Try.underlying22) <| vl rfl rfl xmv <| nl <| ?_
  have hz := bs hF; obtain ⟨⟨z1, z2⟩, hB1, hF⟩ := hz
  refine ct (fun L w => L 9 = .bool z1 ∧ Bx w b4 79 (List.flatMap Flat.enc z2.l) ∧ Bx w b5 79 (List.flatMap Flat.enc ((Ar.fill 5 0 : (Ar 5 Int))).l) ∧ L 4 = .pointer (some ⟨b4, 0, none⟩) ∧ L 6 = .pointer (some ⟨b5, 0, none⟩) ∧ Ext w0 w) ?_ ?_
  ·
    refine wp_block <| lp (I := fun m L w => ∃ y1 : Bool, ∃ y2 : Int, ∃ y3 : (Ar 5 Int), bath_shop_after_l1 F x0 x4 m y1 y2 y3  = some (z1, z2) ∧ L 9 = .bool y1 ∧ L 26 = .int .i64 y2 ∧ Bx w b4 79 (List.flatMap Flat.enc y3.l) ∧ Bx w b5 79 (List.flatMap Flat.enc ((Ar.fill 5 0 : (Ar 5 Int))).l) ∧ Bx w b7 57 [.slice a4 x4.1.length cq3, .slice a5 x4.2.length cq4] ∧ L 4 = .pointer (some ⟨b4, 0, none⟩) ∧ L 6 = .pointer (some ⟨b5, 0, none⟩) ∧ L 8 = .pointer (some ⟨b7, 0, none⟩) ∧ L 24 = .slice a1 x0.1.1.length cq1 ∧ L 25 = .int .i64 (x0.1.1.length : Int) ∧ Ext w0 w) F ⟨_, _, _, hB1, rfl, rfl, hb9, hb10, hb11, rfl, rfl, rfl, rfl, rfl, k4⟩ ?_
    rintro m L w5 ⟨y1, y2, y3, hB1, l9_i3, l26_i3, B4_i3, B6_i3, B8_i3, l4_i3, l6_i3, l8_i3, l24_i3, l25_i3, K0_i3⟩
    rcases m with _ | m
    · rw [bath_shop_after_l1] at hB1; cases hB1
    rw [bath_shop_after_l1] at hB1
    have r23 := r11.ext K0_i3
    have r24 := r12.ext K0_i3
    have r25 := r4.ext K0_i3
    refine wp_seq <| rg <| vl rfl rfl (xlss l26_i3 l25_i3) <| nl <| wp_seq <| cnd rfl (fun h8 => ?_) (fun h8 => ?_)
    ·
      have hB1 := ifp hB1 h8
      refine wp_skip <| wp_seq <| wp_block <| wp_seq <| rg <| vl rfl rfl xmv <| ?_
      have hz := bs hB1; obtain ⟨x5, Ex5, hB1⟩ := hz
      have hz := (RV.els r4).ix Ex5; obtain ⟨b8, f2, cs5, e6, i4, i5, q10, hc3⟩ := hz
      cases e6
      obtain rfl := q10
      have hc4 := hc3.ext K0_i3
      refine vl rfl rfl (xixs l24_i3 l26_i3 Try.underlying22 ti2 i4 i5) <| vl rfl rfl (xld rfl ti2 (hc4.at 0 rfl)) <| vl rfl rfl xas <| vl rfl rfl xas <| nl <| wp_seq <| ?_
      have hz := bs hB1; obtain ⟨y4, hB3, hB1⟩ := hz
      refine ct (fun L w => L 9 = .bool y4 ∧ L 4 = .pointer (some ⟨b4, 0, none⟩) ∧ L 6 = .pointer (some ⟨b5, 0, none⟩) ∧ L 8 = .pointer (some ⟨b7, 0, none⟩) ∧ L 10 = .int .i64 y2 ∧ L 11 = .int .i64 x5 ∧ L 24 = .slice (some ⟨b8, f2, none⟩) x0.1.1.length cq1 ∧ L 25 = .int .i64 (x0.1.1.length : Int) ∧ L 26 = .int .i64 y2 ∧ Ext w5 w) ?_ ?_
      ·
        refine wpl [] (.pure true 0 (.pure true 1 (.pure true 2 (.pure true 3 (.pure false 4 (.pure true 5 (.pure false 6 (.pure true 7 (.pure true 8 (.pure false 9 (.pure true 10 (.pure true 11 (.pure true 12 .fin))))))))))))) mixed (by kernel_rfl) (fun w7 hx5 => ?_)
        have k8 := K0_i3.tr hx5
        have B2 := B4_i3.ext hx5
        have hb14 := B6_i3.ext hx5
        have hb15 := B8_i3.ext hx5
        have r29 := r23.ext hx5
        have r30 := r24.ext hx5
        have r31 := r25.ext hx5
        refine pv rfl rfl rfl (fun _ _ => xmv) (.inl rfl) <| pv rfl rfl rfl (fun _ _ => xmv) (.inl rfl) <| ?_
        refine Or.elim (Bool.eq_false_or_eq_true y1) (fun h9 => ?_) (fun h9 => ?_)
        ·
          have hB3 := ifp hB3 h9
          refine pvt rfl rfl rfl rfl rfl l9_i3 (bt h9) rfl (fun _ _ => xmv) (.inl rfl) <| ?_
          have hz := bs hB3; obtain ⟨x6, Ex6, hB3⟩ := hz
          have hz := ixar (Bx.cs B2) Ex6; obtain ⟨i6, i7, hc5⟩ := hz
          refine pvt rfl rfl rfl rfl rfl l9_i3 (bt h9) rfl (fun _ _ => xixa l4_i3 l26_i3 Try.underlying79 ti2 i6 i7) (.inl rfl) <| pvt rfl rfl rfl rfl rfl l9_i3 (bt h9) rfl (fun _ hS => xld rfl ti2 ((hc5.ext (hS.resolve_left nofun)).at 0 rfl)) (.inr (Ext.refl _)) <| pvt rfl rfl rfl rfl rfl l9_i3 (bt h9) rfl (fun _ _ => xfa l8_i3 fa57_0) (.inl rfl) <| pvt rfl rfl rfl rfl rfl l9_i3 (bt h9) rfl (fun _ hS => xld rfl ti22 ((Bx.cs (hb15.ext (hS.resolve_left nofun))).at 0 rfl)) (.inr (Ext.refl _)) <| pvt rfl rfl rfl rfl rfl l9_i3 (bt h9) rfl (fun _ _ => xmv) (.inl rfl) <| ?_
          have hz := bs hB3; obtain ⟨x7, Ex7, hB3⟩ := hz
          have hz := (RV.els r11).ix Ex7; obtain ⟨b9, f3, cs6, e7, i8, i9, q11, hc6⟩ := hz
          cases e7
          obtain rfl := q11
          have hc7 := hc6.ext k8
          refine pvt rfl rfl rfl rfl rfl l9_i3 (bt h9) rfl (fun _ _ => xixs rfl l26_i3 Try.underlying22 ti2 i8 i9) (.inl rfl) <| pvt rfl rfl rfl rfl rfl l9_i3 (bt h9) rfl (fun _ hS => xld rfl ti2 ((hc7.ext (hS.resolve_left nofun)).at 0 rfl)) (.inr (Ext.refl _)) <| pvt rfl rfl rfl rfl rfl l9_i3 (bt h9) rfl (fun _ _ => xgeq rfl rfl) (.inl rfl) <| pv rfl rfl rfl (fun _ _ => xpt l9_i3 h9 rfl) (.inl rfl) <| pv rfl rfl rfl (fun _ _ => xas) (.inl rfl) <| ?_
          cases hB3
          refine lf <| ?_
          exact ⟨rfl, l4_i3, l6_i3, l8_i3, l26_i3, rfl, l24_i3, l25_i3, l26_i3, hx5⟩
        ·
          have hB3 := ifn hB3 h9
          refine pvf rfl rfl rfl rfl rfl l9_i3 (bft h9) rfl (.inl rfl) <| pvf rfl rfl rfl rfl rfl l9_i3 (bft h9) rfl (.inl rfl) <| pvf rfl rfl rfl rfl rfl l9_i3 (bft h9) rfl (.inr (Ext.refl _)) <| pvf rfl rfl rfl rfl rfl l9_i3 (bft h9) rfl (.inl rfl) <| pvf rfl rfl rfl rfl rfl l9_i3 (bft h9) rfl (.inr (Ext.refl _)) <| pvf rfl rfl rfl rfl rfl l9_i3 (bft h9) rfl (.inl rfl) <| pvf rfl rfl rfl rfl rfl l9_i3 (bft h9) rfl (.inl rfl) <| pvf rfl rfl rfl rfl rfl l9_i3 (bft h9) rfl (.inr (Ext.refl _)) <| pvf rfl rfl rfl rfl rfl l9_i3 (bft h9) rfl (.inl rfl) <| pv rfl rfl rfl (fun _ _ => xpf l9_i3 h9 rfl) (.inl rfl) <| pv rfl rfl rfl (fun _ _ => xas) (.inl rfl) <| ?_
          cases hB3
          refine lf <| ?_
          exact ⟨rfl, l4_i3, l6_i3, l8_i3, l26_i3, rfl, l24_i3, l25_i3, l26_i3, hx5⟩
      rintro L w8 ⟨l9_j1, l4_j1, l6_j1, l8_j1, l10_j1, l11_j1, l24_j1, l25_j1, l26_j1, K0_j1⟩
      have k9 := K0_i3.tr K0_j1
      have B3 := B4_i3.ext K0_j1
      have hb16 := B6_i3.ext K0_j1
      have r32 := r23.ext K0_j1
      have r33 := r24.ext K0_j1
      have hb17 := B8_i3.ext K0_j1
      have r34 := r25.ext K0_j1
      refine wp_seq <| wpl [16] (.pure true 0 (.pure true 1 (.pure false 2 (.pure true 3 (.pure false 4 (.pure true 5 (.pure true 6 (.pure false 7 (.pure true 8 (.pure false 9 (.pure true 10 (.pure true 11 (.pure false 12 (.pure true 13 (.pure true 14 (.pure true 15 (.eff 16 .fin .stop))))))))))))))))) mixed (by kernel_rfl) (fun w9 hx6 => ?_)
      have k10 := k9.tr hx6
      have k11 := K0_j1.tr hx6
      have B4 := B3.ext hx6
      have hb18 := hb16.ext hx6
      have hb19 := hb17.ext hx6
      have r35 := r32.ext hx6
      have r36 := r33.ext hx6
      have r37 := r34.ext hx6
      refine pv rfl rfl rfl (fun _ _ => xmv) (.inl rfl) <| ?_
      have hz := bs hB1; obtain ⟨x8, Ex8, hB1⟩ := hz
      have hz := ixar (Bx.cs B4) Ex8; obtain ⟨i10, i11, hc8⟩ := hz
      refine pv rfl rfl rfl (fun _ _ => xixa l4_j1 l10_j1 Try.underlying79 ti2 i10 i11) (.inl rfl) <| pv rfl rfl rfl (fun _ hS => xld rfl ti2 ((hc8.ext (hS.resolve_left nofun)).at 0 rfl)) (.inr (Ext.refl _)) <| pv rfl rfl rfl (fun _ _ => xfa l8_j1 fa57_1) (.inl rfl) <| pv rfl rfl rfl (fun _ hS => xld rfl ti22 ((Bx.cs (hb19.ext (hS.resolve_left nofun))).at 1 rfl)) (.inr (Ext.refl _)) <| pv rfl rfl rfl (fun _ _ => xmv) (.inl rfl) <| ?_
      have hz := bs hB1; obtain ⟨x9, Ex9, hB1⟩ := hz
      have hz := (RV.els r12).ix Ex9; obtain ⟨b10, f4, cs7, e8, i12, i13, q12, hc9⟩ := hz
      cases e8
      obtain rfl := q12
      have hc10 := hc9.ext k10
      refine pv rfl rfl rfl (fun _ _ => xixs rfl l10_j1 Try.underlying22 ti2 i12 i13) (.inl rfl) <| pv rfl rfl rfl (fun _ hS => xld rfl ti2 ((hc10.ext (hS.resolve_left nofun)).at 0 rfl)) (.inr (Ext.refl _)) <| pv rfl rfl rfl (fun _ _ => xfa l8_j1 fa57_0) (.inl rfl) <| pv rfl rfl rfl (fun _ hS => xld rfl ti22 ((Bx.cs (hb19.ext (hS.resolve_left nofun))).at 0 rfl)) (.inr (Ext.refl _)) <| pv rfl rfl rfl (fun _ _ => xmv) (.inl rfl) <| ?_
      have hz := bs hB1; obtain ⟨x10, Ex10, hB1⟩ := hz
      have hz := (RV.els r11).ix Ex10; obtain ⟨b11, f5, cs8, e9, i14, i15, q13, hc11⟩ := hz
      cases e9
      obtain rfl := q13
      have hc12 := hc11.ext k10
      refine pv rfl rfl rfl (fun _ _ => xixs rfl l10_j1 Try.underlying22 ti2 i14 i15) (.inl rfl) <| pv rfl rfl rfl (fun _ hS => xld rfl ti2 ((hc12.ext (hS.resolve_left nofun)).at 0 rfl)) (.inr (Ext.refl _)) <| pv rfl rfl rfl (fun _ _ => xsub rfl rfl) (.inl rfl) <| pv rfl rfl rfl (fun _ _ => xadd rfl rfl) (.inl rfl) <| ?_
      have hz := bs hB1; obtain ⟨x11, Ex11, hB1⟩ := hz
      have hz := ixar (Bx.cs B4) Ex11; obtain ⟨i16, i17, hc13⟩ := hz
      refine pv rfl rfl rfl (fun _ _ => xixa l4_j1 l10_j1 Try.underlying79 ti2 i16 i17) (.inl rfl) <| pe1 rfl <| ssta (X := y3) (v := w64 (x8 + (w64 (x9 - x10)))) rfl rfl rfl ti2 B4 Ex11 fun w10 hch2 hb20 => ?_
      have k12 := Ext.chg k10 hch2 (Nat.le_trans (Nat.le_refl _) hg1)
      have hb21 := Bx.chg hb18 hch2 (Ne.symm (Nat.ne_of_lt (Nat.lt_of_lt_of_le hb1.lt hg2)))
      have hb22 := Bx.chg hb19 hch2 (Ne.symm (Nat.ne_of_lt (Nat.lt_of_lt_of_le hb3.lt hg3)))
      have r38 := r11.ext k12
      have r39 := r12.ext k12
      have r40 := r4.ext k12
      refine nl ⟨fun h => (h (by decide)).elim, ?_⟩
      have hz := bs hB1; obtain ⟨y5, hB4, hB1⟩ := hz
      refine ct (fun L w => L 9 = .bool y5 ∧ L 4 = .pointer (some ⟨b4, 0, none⟩) ∧ L 6 = .pointer (some ⟨b5, 0, none⟩) ∧ L 8 = .pointer (some ⟨b7, 0, none⟩) ∧ L 24 = .slice (some ⟨b8, f2, none⟩) x0.1.1.length cq1 ∧ L 25 = .int .i64 (x0.1.1.length : Int) ∧ L 26 = .int .i64 y2 ∧ Ext w10 w) ?_ ?_
      ·
        refine rg <| vl rfl rfl xmv <| vl rfl rfl xmv <| ?_
        refine Or.elim (Bool.eq_false_or_eq_true y4) (fun h10 => ?_) (fun h10 => ?_)
        ·
          have hB4 := ifp hB4 h10
          refine gtk rfl rfl rfl rfl l9_j1 (bt h10) <| vl rfl rfl xmv <| ?_
          have hz := bs hB4; obtain ⟨x12, Ex12, hB4⟩ := hz
          have hz := ixar (Bx.cs hb20) Ex12; obtain ⟨i18, i19, hc14⟩ := hz
          refine gtk rfl rfl rfl rfl l9_j1 (bt h10) <| vl rfl rfl (xixa l4_j1 l10_j1 Try.underlying79 ti2 i18 i19) <| gtk rfl rfl rfl rfl l9_j1 (bt h10) <| vl rfl rfl (xld rfl ti2 (hc14.at 0 rfl)) <| gtk rfl rfl rfl rfl l9_j1 (bt h10) <| vl rfl rfl xmv <| gtk rfl rfl rfl rfl l9_j1 (bt h10) <| vl rfl rfl (xleq rfl l11_j1) <| vl rfl rfl (xpt l9_j1 h10 rfl) <| vl rfl rfl xas <| nl <| ?_
          cases hB4
          refine lf <| ?_
          exact ⟨rfl, l4_j1, l6_j1, l8_j1, l24_j1, l25_j1, l26_j1, (Ext.refl _)⟩
        ·
          have hB4 := ifn hB4 h10
          refine gfk rfl rfl rfl rfl l9_j1 (bft h10) rfl <| gfk rfl rfl rfl rfl l9_j1 (bft h10) rfl <| gfk rfl rfl rfl rfl l9_j1 (bft h10) rfl <| gfk rfl rfl rfl rfl l9_j1 (bft h10) rfl <| gfk rfl rfl rfl rfl l9_j1 (bft h10) rfl <| vl rfl rfl (xpf l9_j1 h10 rfl) <| vl rfl rfl xas <| nl <| ?_
          cases hB4
          refine lf <| ?_
          exact ⟨rfl, l4_j1, l6_j1, l8_j1, l24_j1, l25_j1, l26_j1, (Ext.refl _)⟩
      rintro L w11 ⟨l9_j2, l4_j2, l6_j2, l8_j2, l24_j2, l25_j2, l26_j2, K0_j2⟩
      have k13 := k12.tr K0_j2
      have hb23 := hb20.ext K0_j2
      have hb24 := hb21.ext K0_j2
      have r41 := r38.ext K0_j2
      have r42 := r39.ext K0_j2
      have hb25 := hb22.ext K0_j2
      have r43 := r40.ext K0_j2
      refine rg <| vl rfl rfl (xadd l26_j2 rfl) <| vl rfl rfl xmv <| nl <| ?_
      refine lq m (Nat.lt_succ_self _) <| ?_
      exact ⟨_, _, _, hB1, l9_j2, rfl, hb23, hb24, hb25, l4_j2, l6_j2, l8_j2, l24_j2, l25_j2, k13⟩
    ·
      have hB1 := ifn hB1 h8
      refine wp_exit <| ?_
      cases hB1
      refine lf <| ?_
      exact ⟨l9_i3, B4_i3, B6_i3, l4_i3, l6_i3, K0_i3⟩
  rintro L w12 ⟨l9_j3, B4_j3, B6_j3, l4_j3, l6_j3, K0_j3⟩
  refine wp_seq <| rg <| vl rfl rfl (xlda l4_j3 ti79 (arlen _) (Bx.cs B4_j3)) <| vl rfl rfl xmv <| sstw l6_j3 rfl ti79 B6_j3 (arlen _) (arlen _) (flat_one _) fun w13 hch3 hb26 => ?_
  have k14 := Ext.chg K0_j3 hch3 (Nat.le_trans (Nat.le_refl _) (Nat.le_trans hx1.size hg2))
  have hb27 : Bx w13 b5 79 (List.flatMap Flat.enc z2.l) := hb26
  refine vl rfl rfl xas <| nl <| ?_
  cases hF
  exact wp_ret <| rt rfl (.cell l6_j3 rfl ti79 (arlen _) (Bx.cs hb27) (.tmp l9_j3 rfl .nil)) ⟨_, rfl, (show RV (α := (Ar 5 Int)) _ (.agg (List.flatMap Flat.enc z2.l).toArray) z2 from ⟨_, rfl, rfl⟩), k14⟩

set_option maxHeartbeats 4000000 in
theorem c14 {w0 : World} {v0 : Value} {x0 : ((List Int) × (List ((List Int) × (List Int))))} (r0 : RV w0 v0 x0) {v1 : Value} {x1 : (List Int)} (r1 : RV w0 v1 x1) {v2 : Value} {x2 : (List Int)} (r2 : RV w0 v2 x2) {F : Nat} {r : ((List Int) × Int)} (hF : bath_Make F x0 x1 x2 = some r) :
    Calls Try.prog 14 [v0, v1, v2].toArray w0 (Ret fun v w' => ∃ u0 : Value, v = .tuple #[u0, .int .i64 r.2] ∧ RV w' u0 r.1 ∧ Ext w0 w') := by
  unfold bath_Make at hF
  have hz := id r0; obtain ⟨_, rfl, ⟨_, _, rfl, ⟨a1, cq1, rfl, p1, q4, e1⟩, ⟨a2, cq2, rfl, p2, q5, e2⟩⟩⟩ := hz
  have r4 := RV.of1 p1 q4 e1
  have r5 := RV.of1 p2 q5 e2
  have hz := r1.sl; obtain ⟨a3, cq3, rfl, -, -, -⟩ := hz
  have hz := r2.sl; obtain ⟨a4, cq4, rfl, -, -, -⟩ := hz
  refine entr (n := 64) Try.func14 rfl rfl rfl <| wp_seq <| rg <| sbx rfl rfl fun b4 w1 hx1 hg1 hb1 => ?_
  have r6 := r1.ext hx1
  have r7 := r2.ext hx1
  have r8 := r4.ext hx1
  have r9 := r5.ext hx1
  have r10 := r0.ext hx1
  refine vl rfl rfl xas <| vl rfl rfl xas <| nl <| wp_seq <| rg <| vl rfl rfl (xlda rfl ti25 rfl (Bx.cs hb1)) <| vl rfl rfl xmv <| sbsv (cs := [.slice a3 x1.length cq3]) Try.underlying101 ti22 rfl (pc rfl pn) rfl rfl rfl rfl rfl fun b5 w2 hx2 hg2 hb2 => ?_
  have k1 := hx1.tr hx2
  have hb3 := hb1.ext hx2
  have r12 := r8.ext hx2
  have r13 := r9.ext hx2
  have r14 := r6.ext hx2
  have r15 := r7.ext hx2
  have r11 : RV w2 (.slice (some ⟨b5, 0, none⟩) 1 1) ([x1] : List (List Int)) := RV.lit hb2 (css := [[.slice a3 x1.length cq3]]) rfl ⟨r14.rep1, trivial⟩ rfl (ble rfl)
  have hz := bs hF; obtain ⟨x4, Ex4, hF⟩ := hz
  refine cl rfl rfl (xc cb45 (mc rfl (mc rfl mn))) (c45 (show RV (α := ((List Int) × (List ((List Int) × (List Int))))) _ (.agg [.slice a1 x0.1.length cq1, .slice a2 x0.2.length cq2].toArray) (x0.1, x0.2) from ⟨_, rfl, ⟨[.slice a1 x0.1.length cq1], [.slice a2 x0.2.length cq2], rfl, r12.rep1, r13.rep1⟩⟩) r11 Ex4) ?_
  rintro _ w3 ⟨u1, u2, rfl, r16, r17, hx3⟩
  have k2 := k1.tr hx3
  have k3 := hx2.tr hx3
  have hb4 := hb3.ext hx3
  have r18 := r12.ext hx3
  have r19 := r13.ext hx3
  have r20 := r14.ext hx3
  have r21 := r15.ext hx3
  have hz := obPtr r16; obtain ⟨a5, rfl⟩ := hz
  have hz := RV.sl r17; obtain ⟨a6, cq5, rfl, -, -, -⟩ := hz
  refine vl rfl rfl xmv <| vl rfl rfl (xext rfl rfl) <| vl rfl rfl (xext rfl rfl) <| vl rfl rfl (xext rfl rfl) <| vl rfl rfl xas <| vl rfl rfl xas <| vl rfl rfl xas <| nl <| wp_seq <| wp_block <| wp_seq <| rg <| vl rfl rfl xmv <| vl rfl rfl (xneq rfl rfl) <| vl rfl rfl xas <| nl <| cnd rfl (fun h4 => ?_) (fun h4 => ?_)
  ·
    have hF := ifp hF h4
    refine wp_seq <| rg <| vl rfl rfl xmv <| vl rfl rfl xas <| vl rfl rfl xas <| nl <| ?_
    cases hF
    exact wp_ret <| rt rfl (.tmp rfl rfl (.tmp rfl rfl .nil)) ⟨_, rfl, (RVo.nil (Nat.zero_le _)), k2⟩
  ·
    have hF := ifn hF h4
    refine wp_seq <| rg <| vl rfl rfl xmv <| vl rfl rfl (xlen rfl Try.underlying26) <| vl rfl rfl (xgtr rfl rfl) <| vl rfl rfl xas <| nl <| cnd rfl (fun h5 => ?_) (fun h5 => ?_)
    ·
      have hF := ifp hF h5
      refine wp_seq <| rg <| vl rfl rfl xas <| vl rfl rfl xas <| nl <| ?_
      cases hF
      exact wp_ret <| rt rfl (.tmp rfl rfl (.tmp rfl rfl .nil)) ⟨_, rfl, (RVo.nil (Nat.zero_le _)), k2⟩
    ·
      have hF := ifn hF h5
      refine wp_seq <| rg <| vl rfl rfl xmv <| vl rfl rfl (xmf mn (mc rfl mn)) <| ?_
      have hz := bs hF; obtain ⟨x5, Ex5, hF⟩ := hz
      refine cl rfl rfl (xc cb46 (mc rfl (mc rfl mn))) (c46 r21 ⟨47, [], [.pointer (some ⟨b4, 0, none⟩)], rfl, cb47, fun w' u x b hk hu hp => by cases RVo.int.1 hu; exact c47 (Bx.cs (hb4.ext hk)) ⟨[.slice a1 x0.1.length cq1], [.slice a2 x0.2.length cq2], rfl, (r18.ext hk).rep1, (r19.ext hk).rep1⟩ hp⟩ Ex5) ?_
      rintro _ w4 ⟨rfl, hx4⟩
      have k4 := k2.tr hx4
      have k5 := k3.tr hx4
      have r22 := r20.ext hx4
      have r23 := r21.ext hx4
      have r24 := r16.ext hx4
      have r25 := r17.ext hx4
      refine vl rfl rfl xas <| nl <| cnd rfl (fun h6 => ?_) (fun h6 => ?_)
      ·
        have hF := ifp hF h6
        refine wp_seq <| rg <| vl rfl rfl xas <| vl rfl rfl xas <| nl <| ?_
        cases hF
        exact wp_ret <| rt rfl (.tmp rfl rfl (.tmp rfl rfl .nil)) ⟨_, rfl, (RVo.nil (Nat.zero_le _)), k4⟩
      ·
        have hF := ifn hF h6
        refine wp_skip <| wp_seq <| rg <| vl rfl rfl xmv <| ?_
        have hz := bs hF; obtain ⟨x6, Ex6, hF⟩ := hz
        have hz := (RV.els r25).ix Ex6; obtain ⟨b6, f1, cs4, e3, i1, i2, q6, hc1⟩ := hz
        cases e3
        obtain rfl := q6
        refine vl rfl rfl (xixs rfl rfl Try.underlying73 ti79 i1 i2) <| vl rfl rfl (xlda rfl ti79 (arlen _) hc1) <| sal ti79 fun b7 w5 hx5 hg3 hb5 => ?_
        have k6 := k4.tr hx5
        have k7 := k5.tr hx5
        have r26 := r22.ext hx5
        have r27 := r23.ext hx5
        have r28 := r24.ext hx5
        have hb6 : Bx w5 b7 79 (List.flatMap Flat.enc ((Ar.fill 5 0 : (Ar 5 Int))).l) := hb5
        refine sstw rfl rfl ti79 hb6 (arlen _) (arlen _) (flat_one _) fun w6 hch1 hb7 => ?_
        have k8 := Ext.chg k6 hch1 (Nat.le_trans k4.size hg3)
        have k9 := Ext.chg k7 hch1 (Nat.le_trans k5.size hg3)
        have k10 := Ext.chg hx5 hch1 (Nat.le_trans (Nat.le_refl _) hg3)
        have r29 := r22.ext k10
        have r30 := r23.ext k10
        have r31 := r24.ext k10
        have hb8 : Bx w6 b7 79 (List.flatMap Flat.enc x6.l) := hb7
        refine nl <| wp_seq <| wp_seq <| rg <| vl rfl rfl xmv <| vl rfl rfl (xlen rfl Try.underlying26) <| vl rfl rfl xmv <| nl <| ?_
        have hz := bs hF; obtain ⟨o1, hB1, hF⟩ := hz
        refine ct (fun L w => ∃ z1 : (Ar 5 Int), o1 = .inr z1 ∧ Bx w b7 79 (List.flatMap Flat.enc z1.l) ∧ L 1 = .slice a3 x1.length cq3 ∧ L 11 = .pointer (some ⟨b7, 0, none⟩) ∧ Ext w4 w) ?_ ?_
        ·
          refine wp_block <| lp (I := fun m L w => ∃ y1 : Int, ∃ y2 : (Ar 5 Int), bath_Make_l1 F x2 x4 m y1 y2  = some o1 ∧ L 42 = .int .i64 y1 ∧ Bx w b7 79 (List.flatMap Flat.enc y2.l) ∧ L 1 = .slice a3 x1.length cq3 ∧ L 8 = .pointer a5 ∧ L 11 = .pointer (some ⟨b7, 0, none⟩) ∧ L 40 = .slice a4 x2.length cq4 ∧ L 41 = .int .i64 (x2.length : Int) ∧ Ext w4 w) F ⟨_, _, hB1, rfl, hb8, rfl, rfl, rfl, rfl, rfl, k10⟩ ?_
          rintro m L w7 ⟨y1, y2, hB1, l42_i3, B11_i3, l1_i3, l8_i3, l11_i3, l40_i3, l41_i3, K0_i3⟩
          rcases m with _ | m
          · rw [bath_Make_l1] at hB1; cases hB1
          rw [bath_Make_l1] at hB1
          have k11 := k4.tr K0_i3
          have k12 := k5.tr K0_i3
          have r32 := r22.ext K0_i3
          have r33 := r24.ext K0_i3
          have r34 := r23.ext K0_i3
          refine wp_seq <| rg <| vl rfl rfl (xlss l42_i3 l41_i3) <| nl <| wp_seq <| cnd rfl (fun h7 => ?_) (fun h7 => ?_)
          ·
            have hB1 := ifp hB1 h7
            refine wp_skip <| wp_seq <| wp_block <| wp_seq <| rg <| ?_
            have hz := bs hB1; obtain ⟨x7, Ex7, hB1⟩ := hz
            have hz := (RV.els r2).ix Ex7; obtain ⟨b8, f2, cs5, e4, i4, i5, q7, hc2⟩ := hz
            cases e4
            obtain rfl := q7
            have hc3 := hc2.ext k11
            refine vl rfl rfl (xixs l40_i3 l42_i3 Try.underlying26 ti3 i4 i5) <| vl rfl rfl (xld rfl ti3 (hc3.at 0 rfl)) <| vl rfl rfl xas <| nl <| wp_seq <| rg <| vl rfl rfl xmv <| vl rfl rfl (xlda l11_i3 ti79 (arlen _) (Bx.cs B11_i3)) <| vl rfl rfl xmv <| ?_
            have hz := bs hB1; obtain ⟨x8, Ex8, hB1⟩ := hz
            have hz := obGet r24 Ex8; obtain ⟨b9, cs6, e5, q8, hc4⟩ := hz
            cases e5
            obtain ⟨_, _, rfl, ⟨_, _, rfl, ⟨a7, cq6, rfl, p3, q9, e6⟩, ⟨a8, cq7, rfl, p4, q10, e7⟩⟩, ⟨a9, rfl, q11⟩⟩ := q8
            have r35 := RV.of1 p3 q9 e6
            have r36 := RV.of1 p4 q10 e7
            have hc5 := hc4.ext K0_i3
            have r37 := r35.ext K0_i3
            have r38 := r36.ext K0_i3
            have hz := bs hB1; obtain ⟨x9, Ex9, hB1⟩ := hz
            refine cl rfl rfl (xc cb48 (mc l8_i3 (mc rfl (mc rfl mn)))) (c48 (x0 := ((x8.1.1, x8.1.2), Opq.mk)) hc5 ⟨[.slice a7 x8.1.1.length cq6] ++ [.slice a8 x8.1.2.length cq7], [a9], rfl, ⟨[.slice a7 x8.1.1.length cq6], [.slice a8 x8.1.2.length cq7], rfl, r37.rep1, r38.rep1⟩, ⟨_, rfl, q11⟩⟩ (show RV (α := (Ar 5 Int)) _ (.agg (List.flatMap Flat.enc y2.l).toArray) y2 from ⟨_, rfl, rfl⟩) Ex9) ?_
            rintro _ w8 ⟨u3, rfl, r39, hx6⟩
            have k13 := k11.tr hx6
            have k14 := k12.tr hx6
            have k15 := K0_i3.tr hx6
            have B1 := B11_i3.ext hx6
            have r40 := r32.ext hx6
            have r41 := r37.ext hx6
            have r42 := r38.ext hx6
            have hc6 := hc5.ext hx6
            have r43 := r34.ext hx6
            have hz := id r39; obtain ⟨_, rfl, rfl⟩ := hz
            refine vl rfl rfl xmv <| vl rfl rfl (xext rfl rfl) <| vl rfl rfl (xext rfl rfl) <| sal ti79 fun b10 w9 hx7 hg4 hb9 => ?_
            have k16 := k13.tr hx7
            have k17 := k14.tr hx7
            have k18 := k15.tr hx7
            have B2 := B1.ext hx7
            have r44 := r40.ext hx7
            have r45 := r41.ext hx7
            have r46 := r42.ext hx7
            have hc7 := hc6.ext hx7
            have r47 := r43.ext hx7
            have r48 := r39.ext hx7
            have hb10 : Bx w9 b10 79 (List.flatMap Flat.enc ((Ar.fill 5 0 : (Ar 5 Int))).l) := hb9
            refine sstw rfl rfl ti79 hb10 (arlen _) (arlen _) (flat_one _) fun w10 hch2 hb11 => ?_
            have k19 := Ext.chg k16 hch2 (Nat.le_trans k13.size hg4)
            have k20 := Ext.chg k17 hch2 (Nat.le_trans k14.size hg4)
            have k21 := Ext.chg k18 hch2 (Nat.le_trans k15.size hg4)
            have k22 := Ext.chg hx7 hch2 (Nat.le_trans (Nat.le_refl _) hg4)
            have B3 := B1.ext k22
            have r49 := r40.ext k22
            have r50 := r41.ext k22
            have r51 := r42.ext k22
            have hc8 := hc6.ext k22
            have r52 := r43.ext k22
            have hb12 : Bx w10 b10 79 (List.flatMap Flat.enc x9.1.l) := hb11
            refine vl rfl rfl xas <| nl <| wp_seq <| wp_seq <| rg <| vl rfl rfl xmv <| vl rfl rfl (xnot rfl) <| nl <| cnd rfl (fun h8 => ?_) (fun h8 => ?_)
            ·
              have hB1 := ifp hB1 h8
              refine wp_seq <| rg <| vl rfl rfl xas <| vl rfl rfl xas <| nl <| ?_
              cases hB1
              have hF := (show some _ = some _ from hF); cases hF
              exact wp_ret <| rt rfl (.tmp rfl rfl (.tmp rfl rfl .nil)) ⟨_, rfl, (RVo.nil (Nat.zero_le _)), k19⟩
            ·
              have hB1 := ifn hB1 h8
              refine wp_skip <| rg <| vl rfl rfl (xlda rfl ti79 (arlen _) (Bx.cs hb12)) <| sstw l11_i3 rfl ti79 B3 (arlen _) (arlen _) (flat_one _) fun w11 hch3 hb13 => ?_
              have k23 := Ext.chg k19 hch3 (Nat.le_trans k4.size hg3)
              have k24 := Ext.chg k20 hch3 (Nat.le_trans k5.size hg3)
              have k25 := Ext.chg k21 hch3 (Nat.le_trans (Nat.le_refl _) hg3)
              have r53 := r22.ext k25
              have r54 := r35.ext k25
              have r55 := r36.ext k25
              have hc9 := hc4.ext k25
              have r56 := r23.ext k25
              have hb14 : Bx w11 b7 79 (List.flatMap Flat.enc x9.1.l) := hb13
              refine nl <| rg <| vl rfl rfl (xadd l42_i3 rfl) <| vl rfl rfl xmv <| nl <| ?_
              refine lq m (Nat.lt_succ_self _) <| ?_
              exact ⟨_, _, hB1, rfl, hb14, l1_i3, l8_i3, l11_i3, l40_i3, l41_i3, k25⟩
          ·
            have hB1 := ifn hB1 h7
            refine wp_exit <| ?_
            cases hB1
            refine lf <| ?_
            exact ⟨_, rfl, B11_i3, l1_i3, l11_i3, K0_i3⟩
        rintro L w12 ⟨z1, rfl, B11_j1, l1_j1, l11_j1, K0_j1⟩
        have k26 := k4.tr K0_j1
        have k27 := k5.tr K0_j1
        have r57 := r22.ext K0_j1
        refine wp_seq <| rg <| vl rfl rfl xmv <| vl rfl rfl (xlen l1_j1 Try.underlying22) <| ?_
        have hz := bs hF; obtain ⟨x10, Ex10, hF⟩ := hz
        refine smks (α := Int) (z0 := 0) rfl rfl Try.underlying22 ti2 rfl rfl rfl Ex10 fun b11 w13 hx8 o2 => ?_
        have k28 := k26.tr hx8
        have k29 := k27.tr hx8
        have k30 := K0_j1.tr hx8
        have B4 := B11_j1.ext hx8
        refine vl rfl rfl xas <| nl <| wp_seq <| rg <| vl rfl rfl xmv <| ?_
        have r58 := Bx.arsl B4 (ble rfl)
        refine vl rfl rfl (xslw (X := z1) l11_j1 Try.underlying79 ti2 rfl) <| scpr (l := x10) (k := z1.l) rfl rfl Try.underlying22 ti2 o2 r58 fun w14 cq8 hch4 o3 => ?_
        have k31 := Ext.chg k28 hch4 (Nat.le_trans k26.size (Row.ge o2))
        have k32 := Ext.chg k29 hch4 (Nat.le_trans k27.size (Row.ge o2))
        have k33 := Ext.chg k30 hch4 (Nat.le_trans K0_j1.size (Row.ge o2))
        have k34 := Ext.chg hx8 hch4 (Nat.le_trans (Nat.le_refl _) (Row.ge o2))
        refine nl <| wp_seq <| rg <| vl rfl rfl xmv <| vl rfl rfl xas <| vl rfl rfl xas <| nl <| ?_
        cases hF
        exact wp_ret <| rt rfl (.tmp rfl rfl (.tmp rfl rfl .nil)) ⟨_, rfl, o3.rv, k31⟩

set_option maxHeartbeats 4000000 in
theorem c18 {w0 : World} {v0 : Value} {x0 : (List Int)} (r0 : RV w0 v0 x0) {v1 : Value} {x1 : (List Int)} (r1 : RV w0 v1 x1) {F : Nat} {r : Bool} (hF : law11_longs F x0 x1 = some r) :
    Calls Try.prog 18 [v0, v1].toArray w0 (Ret fun v w' => v = .bool r ∧ Ext w0 w') := by
  unfold law11_longs at hF
  have hz := r0.sl; obtain ⟨a1, cq1, rfl, -, -, -⟩ := hz
  have hz := r1.sl; obtain ⟨a2, cq2, rfl, -, -, -⟩ := hz
  refine entr (n := 26) Try.func18 rfl rfl rfl <| wp_seq <| rg <| vl rfl rfl xas <| nl <| wp_seq <| wp_seq <| rg <| vl rfl rfl xmv <| vl rfl rfl (xlen rfl Try.underlying22) <| vl rfl rfl xmv <| vl rfl rfl (xlen rfl Try.underlying22) <| vl rfl rfl (xneq rfl rfl) <| nl <| cnd rfl (fun h3 => ?_) (fun h3 => ?_)
  ·
    have hF := ifp hF h3
    refine wp_seq <| rg <| vl rfl rfl xas <| nl <| ?_
    cases hF
    exact wp_ret <| rt rfl (.tmp rfl rfl .nil) ⟨rfl, (Ext.refl _)⟩
  ·
    have hF := ifn hF h3
    refine wp_skip <| wp_seq <| wp_seq <| rg <| vl rfl rfl xas <| nl <| ?_
    have hz := bs hF; obtain ⟨o1, hB1, hF⟩ := hz
    refine ct (fun L w => o1 = .inr () ∧ Ext w0 w) ?_ ?_
    ·
      refine wp_block <| lp (I := fun m L w => ∃ y1 : Int, law11_longs_l1 F x0 x1 m y1  = some o1 ∧ L 5 = .int .i64 y1 ∧ L 0 = .slice a1 x0.length cq1 ∧ L 1 = .slice a2 x1.length cq2 ∧ Ext w0 w) F ⟨_, hB1, rfl, rfl, rfl, (Ext.refl _)⟩ ?_
      rintro m L w1 ⟨y1, hB1, l5_i1, l0_i1, l1_i1, K0_i1⟩
      rcases m with _ | m
      · rw [law11_longs_l1] at hB1; cases hB1
      rw [law11_longs_l1] at hB1
      have r3 := r0.ext K0_i1
      have r4 := r1.ext K0_i1
      refine wp_seq <| wp_seq <| rg <| vl rfl rfl xmv <| vl rfl rfl xmv <| vl rfl rfl (xlen l0_i1 Try.underlying22) <| vl rfl rfl (xlss l5_i1 rfl) <| nl <| cnd rfl (fun h4 => ?_) (fun h4 => ?_)
      ·
        have hB1 := ifp hB1 h4
        refine wp_skip <| wp_seq <| wp_block <| wp_seq <| wpl [] (.pure true 0 (.pure true 1 (.pure true 2 (.pure false 3 (.pure true 4 (.pure true 5 (.pure true 6 (.pure false 7 (.pure true 8 .fin))))))))) mixed (by kernel_rfl) (fun w2 hx1 => ?_)
        have k1 := K0_i1.tr hx1
        have r5 := r3.ext hx1
        have r6 := r4.ext hx1
        refine pv rfl rfl rfl (fun _ _ => xmv) (.inl rfl) <| pv rfl rfl rfl (fun _ _ => xmv) (.inl rfl) <| ?_
        have hz := bs hB1; obtain ⟨x3, Ex3, hB1⟩ := hz
        have hz := (RV.els r0).ix Ex3; obtain ⟨b3, f1, cs3, e1, i2, i3, q3, hc1⟩ := hz
        cases e1
        obtain rfl := q3
        have hc2 := hc1.ext k1
        refine pv rfl rfl rfl (fun _ _ => xixs l0_i1 l5_i1 Try.underlying22 ti2 i2 i3) (.inl rfl) <| pv rfl rfl rfl (fun _ hS => xld rfl ti2 ((hc2.ext (hS.resolve_left nofun)).at 0 rfl)) (.inr (Ext.refl _)) <| pv rfl rfl rfl (fun _ _ => xmv) (.inl rfl) <| pv rfl rfl rfl (fun _ _ => xmv) (.inl rfl) <| ?_
        have hz := bs hB1; obtain ⟨x4, Ex4, hB1⟩ := hz
        have hz := (RV.els r1).ix Ex4; obtain ⟨b4, f2, cs4, e2, i4, i5, q4, hc3⟩ := hz
        cases e2
        obtain rfl := q4
        have hc4 := hc3.ext k1
        refine pv rfl rfl rfl (fun _ _ => xixs l1_i1 l5_i1 Try.underlying22 ti2 i4 i5) (.inl rfl) <| pv rfl rfl rfl (fun _ hS => xld rfl ti2 ((hc4.ext (hS.resolve_left nofun)).at 0 rfl)) (.inr (Ext.refl _)) <| pv rfl rfl rfl (fun _ _ => xneq rfl rfl) (.inl rfl) <| cnd rfl (fun h5 => ?_) (fun h5 => ?_)
        ·
          have hB1 := ifp hB1 h5
          refine wp_seq <| rg <| vl rfl rfl xas <| nl <| ?_
          cases hB1
          have hF := (show some _ = some _ from hF); cases hF
          exact wp_ret <| rt rfl (.tmp rfl rfl .nil) ⟨rfl, k1⟩
        ·
          have hB1 := ifn hB1 h5
          refine wp_skip <| rg <| vl rfl rfl xmv <| vl rfl rfl (xadd l5_i1 rfl) <| vl rfl rfl xas <| nl <| ?_
          refine lq m (Nat.lt_succ_self _) <| ?_
          exact ⟨_, hB1, rfl, l0_i1, l1_i1, k1⟩
      ·
        have hB1 := ifn hB1 h4
        refine wp_exit <| ?_
        cases hB1
        refine lf <| ?_
        exact ⟨rfl, K0_i1⟩
    rintro L w3 ⟨rfl, K0_j1⟩
    refine wp_seq <| rg <| vl rfl rfl xas <| nl <| ?_
    cases hF
    exact wp_ret <| rt rfl (.tmp rfl rfl .nil) ⟨rfl, K0_j1⟩

set_option maxHeartbeats 4000000 in
theorem c56 {w0 : World} {v0 : Value} {x0 : (List Int)} (r0 : RV w0 v0 x0) {x1 : Int} {F : Nat} {r : Bool} (hF : ref11_within F x0 x1 = some r) :
    Calls Try.prog 56 [v0, .int .i64 x1].toArray w0 (Ret fun v w' => v = .bool r ∧ Ext w0 w') := by
  unfold ref11_within at hF
  have hz := r0.sl; obtain ⟨a1, cq1, rfl, -, -, -⟩ := hz
  refine entr (n := 25) Try.func56 rfl rfl rfl <| wp_seq <| rg <| vl rfl rfl xas <| nl <| wp_seq <| wp_seq <| rg <| vl rfl rfl xas <| nl <| ?_
  have hz := bs hF; obtain ⟨o1, hB1, hF⟩ := hz
  refine ct (fun L w => o1 = .inr () ∧ Ext w0 w) ?_ ?_
  ·
    refine wp_block <| lp (I := fun m L w => ∃ y1 : Int, ref11_within_l1 F x0 x1 m y1  = some o1 ∧ L 5 = .int .i64 y1 ∧ L 0 = .slice a1 x0.length cq1 ∧ L 1 = .int .i64 x1 ∧ Ext w0 w) F ⟨_, hB1, rfl, rfl, rfl, (Ext.refl _)⟩ ?_
    rintro m L w1 ⟨y1, hB1, l5_i1, l0_i1, l1_i1, K0_i1⟩
    rcases m with _ | m
    · rw [ref11_within_l1] at hB1; cases hB1
    rw [ref11_within_l1] at hB1
    have r3 := r0.ext K0_i1
    refine wp_seq <| wp_seq <| rg <| vl rfl rfl xmv <| vl rfl rfl xmv <| vl rfl rfl (xlen l0_i1 Try.underlying22) <| vl rfl rfl (xlss l5_i1 rfl) <| nl <| cnd rfl (fun h3 => ?_) (fun h3 => ?_)
    ·
      have hB1 := ifp hB1 h3
      refine wp_skip <| wp_seq <| wp_block <| wp_seq <| ?_
      have hz := bs hB1; obtain ⟨y2, hB3, hB1⟩ := hz
      refine ct (fun L w => L 24 = .bool y2 ∧ L 0 = .slice a1 x0.length cq1 ∧ L 1 = .int .i64 x1 ∧ L 5 = .int .i64 y1 ∧ Ext w1 w) ?_ ?_
      ·
        refine rg <| vl rfl rfl xmv <| vl rfl rfl xmv <| ?_
        have hz := bs hB3; obtain ⟨x4, Ex4, hB3⟩ := hz
        have hz := (RV.els r0).ix Ex4; obtain ⟨b4, f2, cs4, e2, i4, i5, q4, hc3⟩ := hz
        cases e2
        obtain rfl := q4
        have hc4 := hc3.ext K0_i1
        refine vl rfl rfl (xixs l0_i1 l5_i1 Try.underlying22 ti2 i4 i5) <| vl rfl rfl (xld rfl ti2 (hc4.at 0 rfl)) <| vl rfl rfl (xlss rfl rfl) <| vl rfl rfl xmv <| ?_
        refine Or.elim (Bool.eq_false_or_eq_true (decide (x4 < 0))) (fun h4 => ?_) (fun h4 => ?_)
        ·
          have hB3 := ifp hB3 h4
          refine gfk rfl rfl rfl rfl rfl (btf h4) rfl <| gfk rfl rfl rfl rfl rfl (btf h4) rfl <| gfk rfl rfl rfl rfl rfl (btf h4) rfl <| gfk rfl rfl rfl rfl rfl (btf h4) rfl <| gfk rfl rfl rfl rfl rfl (btf h4) rfl <| gfk rfl rfl rfl rfl rfl (btf h4) rfl <| vl rfl rfl (xpt rfl h4 rfl) <| nl <| ?_
          cases hB3
          refine lf <| ?_
          exact ⟨rfl, l0_i1, l1_i1, l5_i1, (Ext.refl _)⟩
        ·
          have hB3 := ifn hB3 h4
          refine gtk rfl rfl rfl rfl rfl (bf h4) <| vl rfl rfl xmv <| gtk rfl rfl rfl rfl rfl (bf h4) <| vl rfl rfl xmv <| ?_
          have hz := bs hB3; obtain ⟨x5, Ex5, hB3⟩ := hz
          have hz := ix2 r0 Ex5; obtain ⟨cs5, i6, i7, q5, hc5⟩ := hz
          obtain rfl := q5
          have hc6 := hc5.ext K0_i1
          refine gtk rfl rfl rfl rfl rfl (bf h4) <| vl rfl rfl (xixs l0_i1 l5_i1 Try.underlying22 ti2 i6 i7) <| gtk rfl rfl rfl rfl rfl (bf h4) <| vl rfl rfl (xld rfl ti2 (hc6.at 0 rfl)) <| gtk rfl rfl rfl rfl rfl (bf h4) <| vl rfl rfl xmv <| gtk rfl rfl rfl rfl rfl (bf h4) <| vl rfl rfl (xgtr rfl l1_i1) <| vl rfl rfl (xpf rfl h4 rfl) <| nl <| ?_
          cases hB3
          refine lf <| ?_
          exact ⟨rfl, l0_i1, l1_i1, l5_i1, (Ext.refl _)⟩
      rintro L w2 ⟨l24_j1, l0_j1, l1_j1, l5_j1, K0_j1⟩
      have k1 := K0_i1.tr K0_j1
      have r4 := r3.ext K0_j1
      refine cnd l24_j1 (fun h5 => ?_) (fun h5 => ?_)
      ·
        have hB1 := ifp hB1 h5
        refine wp_seq <| rg <| vl rfl rfl xas <| nl <| ?_
        cases hB1
        have hF := (show some _ = some _ from hF); cases hF
        exact wp_ret <| rt rfl (.tmp rfl rfl .nil) ⟨rfl, k1⟩
      ·
        have hB1 := ifn hB1 h5
        refine wp_skip <| rg <| vl rfl rfl xmv <| vl rfl rfl (xadd l5_j1 rfl) <| vl rfl rfl xas <| nl <| ?_
        refine lq m (Nat.lt_succ_self _) <| ?_
        exact ⟨_, hB1, rfl, l0_j1, l1_j1, k1⟩
    ·
      have hB1 := ifn hB1 h3
      refine wp_exit <| ?_
      cases hB1
      refine lf <| ?_
      exact ⟨rfl, K0_i1⟩
  rintro L w3 ⟨rfl, K0_j2⟩
  refine wp_seq <| rg <| vl rfl rfl xas <| nl <| ?_
  cases hF
  exact wp_ret <| rt rfl (.tmp rfl rfl .nil) ⟨rfl, K0_j2⟩

set_option maxHeartbeats 4000000 in
theorem c57 {w0 : World} {v0 : Value} {x0 : ((List Int) × (List ((List Int) × (List Int))))} (r0 : RV w0 v0 x0) {F : Nat} {r : Int} (hF : ref11_Many F x0 = some r) :
    Calls Try.prog 57 [v0].toArray w0 (Ret fun v w' => v = .int .i64 r ∧ Ext w0 w') := by
  unfold ref11_Many at hF
  have hz := id r0; obtain ⟨_, rfl, ⟨_, _, rfl, ⟨a1, cq1, rfl, p1, q2, e1⟩, ⟨a2, cq2, rfl, p2, q3, e2⟩⟩⟩ := hz
  have r2 := RV.of1 p1 q2 e1
  have r3 := RV.of1 p2 q3 e2
  refine entr (n := 21) Try.func57 rfl rfl rfl <| wp_seq <| rg <| sbx rfl rfl fun b2 w1 hx1 hg1 hb1 => ?_
  have r4 := r2.ext hx1
  have r5 := r3.ext hx1
  have r6 := r0.ext hx1
  refine vl rfl rfl xas <| nl <| wp_seq <| rg <| vl rfl rfl xas <| nl <| wp_seq <| wp_seq <| rg <| vl rfl rfl xas <| nl <| ?_
  have hz := bs hF; obtain ⟨z1, hB1, hF⟩ := hz
  refine ct (fun L w => L 3 = .int .i64 z1 ∧ Ext w1 w) ?_ ?_
  ·
    refine wp_block <| lp (I := fun m L w => ∃ y1 : Int, ∃ y2 : Int, ref11_Many_l1 F x0 m y1 y2  = some z1 ∧ L 3 = .int .i64 y1 ∧ L 4 = .int .i64 y2 ∧ L 1 = .pointer (some ⟨b2, 0, none⟩) ∧ Ext w1 w) F ⟨_, _, hB1, rfl, rfl, rfl, (Ext.refl _)⟩ ?_
    rintro m L w2 ⟨y1, y2, hB1, l3_i1, l4_i1, l1_i1, K0_i1⟩
    rcases m with _ | m
    · rw [ref11_Many_l1] at hB1; cases hB1
    rw [ref11_Many_l1] at hB1
    have k1 := hx1.tr K0_i1
    have r7 := r4.ext K0_i1
    have r8 := r5.ext K0_i1
    have hb2 := hb1.ext K0_i1
    refine wp_seq <| wp_seq <| rg <| vl rfl rfl xmv <| vl rfl rfl (xfa l1_i1 fa25_0) <| vl rfl rfl (xld rfl ti22 ((Bx.cs hb2).at 0 rfl)) <| vl rfl rfl (xlen rfl Try.underlying22) <| vl rfl rfl (xlss l4_i1 rfl) <| nl <| cnd rfl (fun h2 => ?_) (fun h2 => ?_)
    ·
      have hB1 := ifp hB1 h2
      refine wp_skip <| wp_seq <| wp_block <| rg <| vl rfl rfl xmv <| vl rfl rfl (xfa l1_i1 fa25_0) <| vl rfl rfl (xld rfl ti22 ((Bx.cs hb2).at 0 rfl)) <| vl rfl rfl xmv <| ?_
      have hz := bs hB1; obtain ⟨x2, Ex2, hB1⟩ := hz
      have hz := (RV.els r2).ix Ex2; obtain ⟨b3, f1, cs2, e3, i2, i3, q4, hc1⟩ := hz
      cases e3
      obtain rfl := q4
      have hc2 := hc1.ext k1
      refine vl rfl rfl (xixs rfl l4_i1 Try.underlying22 ti2 i2 i3) <| vl rfl rfl (xld rfl ti2 (hc2.at 0 rfl)) <| vl rfl rfl (xadd rfl rfl) <| vl rfl rfl (xmul l3_i1 rfl) <| vl rfl rfl xas <| nl <| rg <| vl rfl rfl xmv <| vl rfl rfl (xadd l4_i1 rfl) <| vl rfl rfl xas <| nl <| ?_
      refine lq m (Nat.lt_succ_self _) <| ?_
      exact ⟨_, _, hB1, rfl, rfl, l1_i1, K0_i1⟩
    ·
      have hB1 := ifn hB1 h2
      refine wp_exit <| ?_
      cases hB1
      refine lf <| ?_
      exact ⟨l3_i1, K0_i1⟩
  rintro L w3 ⟨l3_j1, K0_j1⟩
  have k2 := hx1.tr K0_j1
  refine wp_seq <| rg <| vl rfl rfl xmv <| vl rfl rfl xas <| nl <| ?_
  cases hF
  exact wp_ret <| rt rfl (.tmp l3_j1 rfl .nil) ⟨rfl, k2⟩

set_option maxHeartbeats 4000000 in
theorem c17 {w0 : World} {v0 : Value} {x0 : ((List Int) × (List ((List Int) × (List Int))))} (r0 : RV w0 v0 x0) {F : Nat} {r : Int} (hF : ref11_CheckBath F x0 = some r) :
    Calls Try.prog 17 [v0].toArray w0 (Ret fun v w' => v = .int .i64 r ∧ Ext w0 w') := by
  unfold ref11_CheckBath at hF
  have hz := id r0; obtain ⟨_, rfl, ⟨_, _, rfl, ⟨a1, cq1, rfl, p1, q2, e1⟩, ⟨a2, cq2, rfl, p2, q3, e2⟩⟩⟩ := hz
  have r2 := RV.of1 p1 q2 e1
  have r3 := RV.of1 p2 q3 e2
  refine entr (n := 84) Try.func17 rfl rfl rfl <| wp_seq <| rg <| sbx rfl rfl fun b2 w1 hx1 hg1 hb1 => ?_
  have r4 := r2.ext hx1
  have r5 := r3.ext hx1
  have r6 := r0.ext hx1
  refine vl rfl rfl xas <| nl <| wp_seq <| wp_seq <| rg <| vl rfl rfl (xfa rfl fa25_0) <| vl rfl rfl (xld rfl ti22 ((Bx.cs hb1).at 0 rfl)) <| vl rfl rfl (xlen rfl Try.underlying22) <| vl rfl rfl (xlss rfl rfl) <| vl rfl rfl xmv <| gv rfl rfl rfl rfl (gw0 rfl) rfl (fun hc => xfa rfl fa25_0) <| gv rfl rfl rfl rfl (gw0 rfl) rfl (fun hc => xld (mv hc rfl) ti22 ((Bx.cs hb1).at 0 rfl)) <| gv rfl rfl rfl rfl (gw0 rfl) rfl (fun hc => xlen (mv hc rfl) Try.underlying22) <| gv rfl rfl rfl rfl (gw0 rfl) rfl (fun hc => xgtr (mv hc rfl) rfl) <| vl rfl rfl (xpo rfl rfl rfl) <| vl rfl rfl xmv <| gv rfl rfl rfl rfl (gw0 rfl) rfl (fun hc => xfa rfl fa25_1) <| gv rfl rfl rfl rfl (gw0 rfl) rfl (fun hc => xld (mv hc rfl) ti23 ((Bx.cs hb1).at 1 rfl)) <| gv rfl rfl rfl rfl (gw0 rfl) rfl (fun hc => xlen (mv hc rfl) Try.underlying23) <| gv rfl rfl rfl rfl (gw0 rfl) rfl (fun hc => xgtr (mv hc rfl) rfl) <| vl rfl rfl (xpo rfl rfl rfl) <| nl <| cnd rfl (fun h2 => ?_) (fun h2 => ?_)
  ·
    have hF := ifp hF h2
    refine wp_seq <| rg <| vl rfl rfl xas <| nl <| ?_
    cases hF
    exact wp_ret <| rt rfl (.tmp rfl rfl .nil) ⟨rfl, hx1⟩
  ·
    have hF := ifn hF h2
    refine wp_skip <| wp_seq <| wp_seq <| rg <| vl rfl rfl (xfa rfl fa25_0) <| vl rfl rfl (xld rfl ti22 ((Bx.cs hb1).at 0 rfl)) <| ?_
    have hz := bs hF; obtain ⟨x2, Ex2, hF⟩ := hz
    refine cl rfl rfl (xc cb56 (mc rfl (mc rfl mn))) (c56 r4 Ex2) ?_
    rintro _ w2 ⟨rfl, hx2⟩
    have k1 := hx1.tr hx2
    have hb2 := hb1.ext hx2
    have r7 := r4.ext hx2
    have r8 := r5.ext hx2
    refine vl rfl rfl (xnot rfl) <| nl <| cnd rfl (fun h3 => ?_) (fun h3 => ?_)
    ·
      have hF := ifp hF h3
      refine wp_seq <| rg <| vl rfl rfl xas <| nl <| ?_
      cases hF
      exact wp_ret <| rt rfl (.tmp rfl rfl .nil) ⟨rfl, k1⟩
    ·
      have hF := ifn hF h3
      refine wp_skip <| wp_seq <| wp_seq <| rg <| vl rfl rfl (xlda rfl ti25 rfl (Bx.cs hb2)) <| ?_
      have hz := bs hF; obtain ⟨x3, Ex3, hF⟩ := hz
      refine cl rfl rfl (xc cb57 (mc rfl mn)) (c57 (show RV (α := ((List Int) × (List ((List Int) × (List Int))))) _ (.agg [.slice a1 x0.1.length cq1, .slice a2 x0.2.length cq2].toArray) (x0.1, x0.2) from ⟨_, rfl, ⟨[.slice a1 x0.1.length cq1], [.slice a2 x0.2.length cq2], rfl, r7.rep1, r8.rep1⟩⟩) Ex3) ?_
      rintro _ w3 ⟨rfl, hx3⟩
      have k2 := k1.tr hx3
      have hb3 := hb2.ext hx3
      have r9 := r7.ext hx3
      have r10 := r8.ext hx3
      refine vl rfl rfl (xgtr rfl rfl) <| nl <| cnd rfl (fun h4 => ?_) (fun h4 => ?_)
      ·
        have hF := ifp hF h4
        refine wp_seq <| rg <| vl rfl rfl xas <| nl <| ?_
        cases hF
        exact wp_ret <| rt rfl (.tmp rfl rfl .nil) ⟨rfl, k2⟩
      ·
        have hF := ifn hF h4
        refine wp_skip <| wp_seq <| wp_seq <| rg <| vl rfl rfl xas <| nl <| ?_
        have hz := bs hF; obtain ⟨o1, hB1, hF⟩ := hz
        refine ct (fun L w => o1 = .inr () ∧ L 1 = .pointer (some ⟨b2, 0, none⟩) ∧ Ext w3 w) ?_ ?_
        ·
          refine wp_block <| lp (I := fun m L w => ∃ y1 : Int, ref11_CheckBath_l1 F x0 m y1  = some o1 ∧ L 3 = .int .i64 y1 ∧ L 1 = .pointer (some ⟨b2, 0, none⟩) ∧ Ext w3 w) F ⟨_, hB1, rfl, rfl, (Ext.refl _)⟩ ?_
          rintro m L w4 ⟨y1, hB1, l3_i1, l1_i1, K0_i1⟩
          rcases m with _ | m
          · rw [ref11_CheckBath_l1] at hB1; cases hB1
          rw [ref11_CheckBath_l1] at hB1
          have k3 := k2.tr K0_i1
          have r11 := r9.ext K0_i1
          have r12 := r10.ext K0_i1
          have hb4 := hb3.ext K0_i1
          refine wp_seq <| wp_seq <| rg <| vl rfl rfl xmv <| vl rfl rfl (xfa l1_i1 fa25_1) <| vl rfl rfl (xld rfl ti23 ((Bx.cs hb4).at 1 rfl)) <| vl rfl rfl (xlen rfl Try.underlying23) <| vl rfl rfl (xlss l3_i1 rfl) <| nl <| cnd rfl (fun h5 => ?_) (fun h5 => ?_)
          ·
            have hB1 := ifp hB1 h5
            refine wp_skip <| wp_seq <| wp_block <| wp_seq <| ?_
            have hz := bs hB1; obtain ⟨y2, hB3, hB1⟩ := hz
            refine ct (fun L w => L 58 = .bool y2 ∧ L 1 = .pointer (some ⟨b2, 0, none⟩) ∧ L 3 = .int .i64 y1 ∧ Ext w4 w) ?_ ?_
            ·
              refine wpl [] (.pure true 0 (.pure false 1 (.pure true 2 (.pure true 3 (.pure true 4 (.pure false 5 (.pure false 6 (.pure true 7 (.pure false 8 (.pure false 9 (.pure true 10 (.pure true 11 (.pure true 12 (.pure false 13 (.pure true 14 (.pure true 15 (.pure true 16 (.pure false 17 (.pure false 18 (.pure true 19 (.pure false 20 (.pure false 21 (.pure true 22 (.pure true 23 .fin)))))))))))))))))))))))) mixed (by kernel_rfl) (fun w6 hx5 => ?_)
              have k6 := k3.tr hx5
              have k7 := K0_i1.tr hx5
              have hb6 := hb4.ext hx5
              have r19 := r11.ext hx5
              have r20 := r12.ext hx5
              refine pv rfl rfl rfl (fun _ _ => xfa l1_i1 fa25_1) (.inl rfl) <| pv rfl rfl rfl (fun _ hS => xld rfl ti23 ((Bx.cs (hb6.ext (hS.resolve_left nofun))).at 1 rfl)) (.inr (Ext.refl _)) <| pv rfl rfl rfl (fun _ _ => xmv) (.inl rfl) <| ?_
              have hz := bs hB3; obtain ⟨x5, Ex5, hB3⟩ := hz
              have hz := (RV.els r3).ix Ex5; obtain ⟨b4, f2, cs3, e6, i4, i5, q7, hc3⟩ := hz
              cases e6
              obtain ⟨_, _, rfl, ⟨a5, cq5, rfl, p5, q8, e7⟩, ⟨a6, cq6, rfl, p6, q9, e8⟩⟩ := q7
              have r21 := RV.of1 p5 q8 e7
              have r22 := RV.of1 p6 q9 e8
              have hc4 := hc3.ext k6
              have r23 := r21.ext k6
              have r24 := r22.ext k6
              refine pv rfl rfl rfl (fun _ _ => xixs rfl l3_i1 Try.underlying23 ti57 i4 i5) (.inl rfl) <| pv rfl rfl rfl (fun _ _ => xfa rfl fa57_0) (.inl rfl) <| pv rfl rfl rfl (fun _ hS => xld rfl ti22 ((hc4.ext (hS.resolve_left nofun)).at 0 rfl)) (.inr (Ext.refl _)) <| pv rfl rfl rfl (fun _ hS => xlen rfl Try.underlying22) (.inr (Ext.refl _)) <| pv rfl rfl rfl (fun _ _ => xfa l1_i1 fa25_0) (.inl rfl) <| pv rfl rfl rfl (fun _ hS => xld rfl ti22 ((Bx.cs (hb6.ext (hS.resolve_left nofun))).at 0 rfl)) (.inr (Ext.refl _)) <| pv rfl rfl rfl (fun _ hS => xlen rfl Try.underlying22) (.inr (Ext.refl _)) <| pv rfl rfl rfl (fun _ _ => xneq rfl rfl) (.inl rfl) <| pv rfl rfl rfl (fun _ _ => xmv) (.inl rfl) <| ?_
              refine Or.elim (Bool.eq_false_or_eq_true (!decide ((x5.1.length : Int) = (x0.1.length : Int)))) (fun h6 => ?_) (fun h6 => ?_)
              ·
                have hB3 := ifp hB3 h6
                refine pvf rfl rfl rfl rfl rfl rfl (btf h6) rfl (.inl rfl) <| pvf rfl rfl rfl rfl rfl rfl (btf h6) rfl (.inr (Ext.refl _)) <| pvf rfl rfl rfl rfl rfl rfl (btf h6) rfl (.inl rfl) <| pvf rfl rfl rfl rfl rfl rfl (btf h6) rfl (.inl rfl) <| pvf rfl rfl rfl rfl rfl rfl (btf h6) rfl (.inl rfl) <| pvf rfl rfl rfl rfl rfl rfl (btf h6) rfl (.inr (Ext.refl _)) <| pvf rfl rfl rfl rfl rfl rfl (btf h6) rfl (.inr (Ext.refl _)) <| pvf rfl rfl rfl rfl rfl rfl (btf h6) rfl (.inl rfl) <| pvf rfl rfl rfl rfl rfl rfl (btf h6) rfl (.inr (Ext.refl _)) <| pvf rfl rfl rfl rfl rfl rfl (btf h6) rfl (.inr (Ext.refl _)) <| pvf rfl rfl rfl rfl rfl rfl (btf h6) rfl (.inl rfl) <| pv rfl rfl rfl (fun _ _ => xpt rfl h6 rfl) (.inl rfl) <| ?_
                cases hB3
                refine lf <| ?_
                exact ⟨rfl, l1_i1, l3_i1, hx5⟩
              ·
                have hB3 := ifn hB3 h6
                refine pvt rfl rfl rfl rfl rfl rfl (bf h6) rfl (fun _ _ => xfa l1_i1 fa25_1) (.inl rfl) <| pvt rfl rfl rfl rfl rfl rfl (bf h6) rfl (fun _ hS => xld rfl ti23 ((Bx.cs (hb6.ext (hS.resolve_left nofun))).at 1 rfl)) (.inr (Ext.refl _)) <| pvt rfl rfl rfl rfl rfl rfl (bf h6) rfl (fun _ _ => xmv) (.inl rfl) <| ?_
                have hz := bs hB3; obtain ⟨x6, Ex6, hB3⟩ := hz
                have hz := ix2 r3 Ex6; obtain ⟨cs4, i6, i7, q10, hc5⟩ := hz
                obtain ⟨_, _, rfl, ⟨a7, cq7, rfl, p7, q11, e9⟩, ⟨a8, cq8, rfl, p8, q12, e10⟩⟩ := q10
                have r25 := RV.of1 p7 q11 e9
                have r26 := RV.of1 p8 q12 e10
                have hc6 := hc5.ext k6
                have r27 := r25.ext k6
                have r28 := r26.ext k6
                refine pvt rfl rfl rfl rfl rfl rfl (bf h6) rfl (fun _ _ => xixs rfl l3_i1 Try.underlying23 ti57 i6 i7) (.inl rfl) <| pvt rfl rfl rfl rfl rfl rfl (bf h6) rfl (fun _ _ => xfa rfl fa57_1) (.inl rfl) <| pvt rfl rfl rfl rfl rfl rfl (bf h6) rfl (fun _ hS => xld rfl ti22 ((hc6.ext (hS.resolve_left nofun)).at 1 rfl)) (.inr (Ext.refl _)) <| pvt rfl rfl rfl rfl rfl rfl (bf h6) rfl (fun _ hS => xlen rfl Try.underlying22) (.inr (Ext.refl _)) <| pvt rfl rfl rfl rfl rfl rfl (bf h6) rfl (fun _ _ => xfa l1_i1 fa25_0) (.inl rfl) <| pvt rfl rfl rfl rfl rfl rfl (bf h6) rfl (fun _ hS => xld rfl ti22 ((Bx.cs (hb6.ext (hS.resolve_left nofun))).at 0 rfl)) (.inr (Ext.refl _)) <| pvt rfl rfl rfl rfl rfl rfl (bf h6) rfl (fun _ hS => xlen rfl Try.underlying22) (.inr (Ext.refl _)) <| pvt rfl rfl rfl rfl rfl rfl (bf h6) rfl (fun _ _ => xneq rfl rfl) (.inl rfl) <| pv rfl rfl rfl (fun _ _ => xpf rfl h6 rfl) (.inl rfl) <| ?_
                cases hB3
                refine lf <| ?_
                exact ⟨rfl, l1_i1, l3_i1, hx5⟩
            rintro L w7 ⟨l58_j1, l1_j1, l3_j1, K0_j1⟩
            have k8 := k3.tr K0_j1
            have k9 := K0_i1.tr K0_j1
            have r29 := r11.ext K0_j1
            have r30 := r12.ext K0_j1
            have hb7 := hb4.ext K0_j1
            refine cnd l58_j1 (fun h7 => ?_) (fun h7 => ?_)
            ·
              have hB1 := ifp hB1 h7
              refine wp_seq <| rg <| vl rfl rfl xas <| nl <| ?_
              cases hB1
              have hF := (show some _ = some _ from hF); cases hF
              exact wp_ret <| rt rfl (.tmp rfl rfl .nil) ⟨rfl, k8⟩
            ·
              have hB1 := ifn hB1 h7
              refine wp_skip <| rg <| vl rfl rfl xmv <| vl rfl rfl (xadd l3_j1 rfl) <| vl rfl rfl xas <| nl <| ?_
              refine lq m (Nat.lt_succ_self _) <| ?_
              exact ⟨_, hB1, rfl, l1_j1, k9⟩
          ·
            have hB1 := ifn hB1 h5
            refine wp_exit <| ?_
            cases hB1
            refine lf <| ?_
            exact ⟨rfl, l1_i1, K0_i1⟩
        rintro L w8 ⟨rfl, l1_j2, K0_j2⟩
        have k10 := k2.tr K0_j2
        have r31 := r9.ext K0_j2
        have r32 := r10.ext K0_j2
        have hb8 := hb3.ext K0_j2
        refine wp_seq <| wp_seq <| rg <| vl rfl rfl xas <| nl <| ?_
        have hz := bs hF; obtain ⟨o2, hB7, hF⟩ := hz
        refine ct (fun L w => o2 = .inr () ∧ Ext w8 w) ?_ ?_
        ·
          refine wp_block <| lp (I := fun m L w => ∃ y3 : Int, ref11_CheckBath_l2 F x0 m y3  = some o2 ∧ L 4 = .int .i64 y3 ∧ L 1 = .pointer (some ⟨b2, 0, none⟩) ∧ Ext w8 w) F ⟨_, hB7, rfl, l1_j2, (Ext.refl _)⟩ ?_
          rintro m L w9 ⟨y3, hB7, l4_i8, l1_i8, K0_i8⟩
          rcases m with _ | m
          · rw [ref11_CheckBath_l2] at hB7; cases hB7
          rw [ref11_CheckBath_l2] at hB7
          have k11 := k10.tr K0_i8
          have k12 := K0_j2.tr K0_i8
          have r33 := r31.ext K0_i8
          have r34 := r32.ext K0_i8
          have hb9 := hb8.ext K0_i8
          refine wp_seq <| wp_seq <| rg <| vl rfl rfl xmv <| vl rfl rfl (xfa l1_i8 fa25_1) <| vl rfl rfl (xld rfl ti23 ((Bx.cs hb9).at 1 rfl)) <| vl rfl rfl (xlen rfl Try.underlying23) <| vl rfl rfl (xlss l4_i8 rfl) <| nl <| cnd rfl (fun h8 => ?_) (fun h8 => ?_)
          ·
            have hB7 := ifp hB7 h8
            refine wp_skip <| wp_seq <| wp_block <| wp_seq <| ?_
            have hz := bs hB7; obtain ⟨y4, hB9, hB7⟩ := hz
            refine ct (fun L w => L 83 = .bool y4 ∧ L 1 = .pointer (some ⟨b2, 0, none⟩) ∧ L 4 = .int .i64 y3 ∧ Ext w9 w) ?_ ?_
            ·
              refine rg <| vl rfl rfl (xfa l1_i8 fa25_1) <| vl rfl rfl (xld rfl ti23 ((Bx.cs hb9).at 1 rfl)) <| vl rfl rfl xmv <| ?_
              have hz := bs hB9; obtain ⟨x9, Ex9, hB9⟩ := hz
              have hz := (RV.els r3).ix Ex9; obtain ⟨b6, f4, cs6, e14, i11, i12, q16, hc9⟩ := hz
              cases e14
              obtain ⟨_, _, rfl, ⟨a11, cq11, rfl, p11, q17, e15⟩, ⟨a12, cq12, rfl, p12, q18, e16⟩⟩ := q16
              have r41 := RV.of1 p11 q17 e15
              have r42 := RV.of1 p12 q18 e16
              have hc10 := hc9.ext k11
              have r43 := r41.ext k11
              have r44 := r42.ext k11
              refine vl rfl rfl (xixs rfl l4_i8 Try.underlying23 ti57 i11 i12) <| vl rfl rfl (xfa rfl fa57_0) <| vl rfl rfl (xld rfl ti22 (hc10.at 0 rfl)) <| ?_
              have hz := bs hB9; obtain ⟨x10, Ex10, hB9⟩ := hz
              refine cl rfl rfl (xc cb56 (mc rfl (mc rfl mn))) (c56 r43 Ex10) ?_
              rintro _ w11 ⟨rfl, hx7⟩
              have k16 := k11.tr hx7
              have k17 := k12.tr hx7
              have k18 := K0_i8.tr hx7
              have hb11 := hb9.ext hx7
              have r45 := r33.ext hx7
              have r46 := r34.ext hx7
              refine vl rfl rfl (xnot rfl) <| vl rfl rfl xmv <| ?_
              refine Or.elim (Bool.eq_false_or_eq_true (!x10)) (fun h9 => ?_) (fun h9 => ?_)
              ·
                have hB9 := ifp hB9 h9
                refine gfk rfl rfl rfl rfl rfl (btf h9) rfl <| gfk rfl rfl rfl rfl rfl (btf h9) rfl <| gfk rfl rfl rfl rfl rfl (btf h9) rfl <| gfk rfl rfl rfl rfl rfl (btf h9) rfl <| gfk rfl rfl rfl rfl rfl (btf h9) rfl <| gfk rfl rfl rfl rfl rfl (btf h9) rfl <| gfk rfl rfl rfl rfl rfl (btf h9) rfl <| gfk rfl rfl rfl rfl rfl (btf h9) rfl <| vl rfl rfl (xpt rfl h9 rfl) <| nl <| ?_
                cases hB9
                refine lf <| ?_
                exact ⟨rfl, l1_i8, l4_i8, hx7⟩
              ·
                have hB9 := ifn hB9 h9
                refine gtk rfl rfl rfl rfl rfl (bf h9) <| vl rfl rfl (xfa l1_i8 fa25_1) <| gtk rfl rfl rfl rfl rfl (bf h9) <| vl rfl rfl (xld rfl ti23 ((Bx.cs hb11).at 1 rfl)) <| gtk rfl rfl rfl rfl rfl (bf h9) <| vl rfl rfl xmv <| ?_
                have hz := bs hB9; obtain ⟨x11, Ex11, hB9⟩ := hz
                have hz := ix2 r3 Ex11; obtain ⟨cs7, i13, i14, q19, hc11⟩ := hz
                obtain ⟨_, _, rfl, ⟨a13, cq13, rfl, p13, q20, e17⟩, ⟨a14, cq14, rfl, p14, q21, e18⟩⟩ := q19
                have r47 := RV.of1 p13 q20 e17
                have r48 := RV.of1 p14 q21 e18
                have hc12 := hc11.ext k16
                have r49 := r47.ext k16
                have r50 := r48.ext k16
                refine gtk rfl rfl rfl rfl rfl (bf h9) <| vl rfl rfl (xixs rfl l4_i8 Try.underlying23 ti57 i13 i14) <| gtk rfl rfl rfl rfl rfl (bf h9) <| vl rfl rfl (xfa rfl fa57_1) <| gtk rfl rfl rfl rfl rfl (bf h9) <| vl rfl rfl (xld rfl ti22 (hc12.at 1 rfl)) <| ?_
                have hz := bs hB9; obtain ⟨x12, Ex12, hB9⟩ := hz
                refine gtk rfl rfl rfl rfl rfl (bf h9) <| cl rfl rfl (xc cb56 (mc rfl (mc rfl mn))) (c56 r50 Ex12) ?_
                rintro _ w12 ⟨rfl, hx8⟩
                have k19 := k16.tr hx8
                have k20 := k17.tr hx8
                have k21 := k18.tr hx8
                have k22 := hx7.tr hx8
                have hb12 := hb11.ext hx8
                have r51 := r45.ext hx8
                have r52 := r46.ext hx8
                refine gtk rfl rfl rfl rfl rfl (bf h9) <| vl rfl rfl (xnot rfl) <| vl rfl rfl (xpf rfl h9 rfl) <| nl <| ?_
                cases hB9
                refine lf <| ?_
                exact ⟨rfl, l1_i8, l4_i8, k22⟩
            rintro L w13 ⟨l83_j3, l1_j3, l4_j3, K0_j3⟩
            have k23 := k11.tr K0_j3
            have k24 := k12.tr K0_j3
            have k25 := K0_i8.tr K0_j3
            have r53 := r33.ext K0_j3
            have r54 := r34.ext K0_j3
            have hb13 := hb9.ext K0_j3
            refine cnd l83_j3 (fun h10 => ?_) (fun h10 => ?_)
            ·
              have hB7 := ifp hB7 h10
              refine wp_seq <| rg <| vl rfl rfl xas <| nl <| ?_
              cases hB7
              have hF := (show some _ = some _ from hF); cases hF
              exact wp_ret <| rt rfl (.tmp rfl rfl .nil) ⟨rfl, k23⟩
            ·
              have hB7 := ifn hB7 h10
              refine wp_skip <| rg <| vl rfl rfl xmv <| vl rfl rfl (xadd l4_j3 rfl) <| vl rfl rfl xas <| nl <| ?_
              refine lq m (Nat.lt_succ_self _) <| ?_
              exact ⟨_, hB7, rfl, l1_j3, k25⟩
          ·
            have hB7 := ifn hB7 h8
            refine wp_exit <| ?_
            cases hB7
            refine lf <| ?_
            exact ⟨rfl, K0_i8⟩
        rintro L w14 ⟨rfl, K0_j4⟩
        have k26 := k10.tr K0_j4
        have k27 := K0_j2.tr K0_j4
        refine wp_seq <| rg <| vl rfl rfl xas <| nl <| ?_
        cases hF
        exact wp_ret <| rt rfl (.tmp rfl rfl .nil) ⟨rfl, k26⟩

set_option maxHeartbeats 4000000 in
theorem c64 {w0 : World} {v0 : Value} {x0 : ((List Int) × (List ((List Int) × (List Int))))} (r0 : RV w0 v0 x0) {v1 : Value} {x1 : (List Int)} (r1 : RV w0 v1 x1) {F : Nat} {r : Int} (hF : ref11_isStock F x0 x1 = some r) :
    Calls Try.prog 64 [v0, v1].toArray w0 (Ret fun v w' => v = .int .i64 r ∧ Ext w0 w') := by
  unfold ref11_isStock at hF
  have hz := id r0; obtain ⟨_, rfl, ⟨_, _, rfl, ⟨a1, cq1, rfl, p1, q3, e1⟩, ⟨a2, cq2, rfl, p2, q4, e2⟩⟩⟩ := hz
  have r3 := RV.of1 p1 q3 e1
  have r4 := RV.of1 p2 q4 e2
  have hz := r1.sl; obtain ⟨a3, cq3, rfl, -, -, -⟩ := hz
  refine entr (n := 35) Try.func64 rfl rfl rfl <| wp_seq <| rg <| sbx rfl rfl fun b3 w1 hx1 hg1 hb1 => ?_
  have r5 := r1.ext hx1
  have r6 := r3.ext hx1
  have r7 := r4.ext hx1
  have r8 := r0.ext hx1
  refine vl rfl rfl xas <| nl <| wp_seq <| wp_seq <| rg <| vl rfl rfl xmv <| vl rfl rfl (xlen rfl Try.underlying22) <| vl rfl rfl (xfa rfl fa25_0) <| vl rfl rfl (xld rfl ti22 ((Bx.cs hb1).at 0 rfl)) <| vl rfl rfl (xlen rfl Try.underlying22) <| vl rfl rfl (xneq rfl rfl) <| nl <| cnd rfl (fun h3 => ?_) (fun h3 => ?_)
  ·
    have hF := ifp hF h3
    refine wp_seq <| rg <| vl rfl rfl xas <| nl <| ?_
    cases hF
    exact wp_ret <| rt rfl (.tmp rfl rfl .nil) ⟨rfl, hx1⟩
  ·
    have hF := ifn hF h3
    refine wp_skip <| wp_seq <| wp_seq <| rg <| vl rfl rfl xas <| nl <| ?_
    have hz := bs hF; obtain ⟨o1, hB1, hF⟩ := hz
    refine ct (fun L w => o1 = .inr () ∧ Ext w1 w) ?_ ?_
    ·
      refine wp_block <| lp (I := fun m L w => ∃ y1 : Int, ref11_isStock_l1 F x0 x1 m y1  = some o1 ∧ L 5 = .int .i64 y1 ∧ L 1 = .slice a3 x1.length cq3 ∧ L 2 = .pointer (some ⟨b3, 0, none⟩) ∧ Ext w1 w) F ⟨_, hB1, rfl, rfl, rfl, (Ext.refl _)⟩ ?_
      rintro m L w2 ⟨y1, hB1, l5_i1, l1_i1, l2_i1, K0_i1⟩
      rcases m with _ | m
      · rw [ref11_isStock_l1] at hB1; cases hB1
      rw [ref11_isStock_l1] at hB1
      have k1 := hx1.tr K0_i1
      have r9 := r5.ext K0_i1
      have r10 := r6.ext K0_i1
      have r11 := r7.ext K0_i1
      have hb2 := hb1.ext K0_i1
      refine wp_seq <| wp_seq <| rg <| vl rfl rfl xmv <| vl rfl rfl xmv <| vl rfl rfl (xlen l1_i1 Try.underlying22) <| vl rfl rfl (xlss l5_i1 rfl) <| nl <| cnd rfl (fun h4 => ?_) (fun h4 => ?_)
      ·
        have hB1 := ifp hB1 h4
        refine wp_skip <| wp_seq <| wp_block <| wp_seq <| ?_
        have hz := bs hB1; obtain ⟨y2, hB3, hB1⟩ := hz
        refine ct (fun L w => L 34 = .bool y2 ∧ L 1 = .slice a3 x1.length cq3 ∧ L 2 = .pointer (some ⟨b3, 0, none⟩) ∧ L 5 = .int .i64 y1 ∧ Ext w2 w) ?_ ?_
        ·
          refine wpl [] (.pure true 0 (.pure true 1 (.pure true 2 (.pure false 3 (.pure true 4 (.pure true 5 (.pure true 6 (.pure true 7 (.pure true 8 (.pure false 9 (.pure true 10 (.pure false 11 (.pure true 12 (.pure true 13 (.pure false 14 (.pure true 15 (.pure true 16 .fin))))))))))))))))) mixed (by kernel_rfl) (fun w4 hx3 => ?_)
          have k4 := k1.tr hx3
          have k5 := K0_i1.tr hx3
          have hb4 := hb2.ext hx3
          have r15 := r10.ext hx3
          have r16 := r11.ext hx3
          have r17 := r9.ext hx3
          refine pv rfl rfl rfl (fun _ _ => xmv) (.inl rfl) <| pv rfl rfl rfl (fun _ _ => xmv) (.inl rfl) <| ?_
          have hz := bs hB3; obtain ⟨x4, Ex4, hB3⟩ := hz
          have hz := (RV.els r1).ix Ex4; obtain ⟨b5, f2, cs4, e4, i4, i5, q6, hc3⟩ := hz
          cases e4
          obtain rfl := q6
          have hc4 := hc3.ext k4
          refine pv rfl rfl rfl (fun _ _ => xixs l1_i1 l5_i1 Try.underlying22 ti2 i4 i5) (.inl rfl) <| pv rfl rfl rfl (fun _ hS => xld rfl ti2 ((hc4.ext (hS.resolve_left nofun)).at 0 rfl)) (.inr (Ext.refl _)) <| pv rfl rfl rfl (fun _ _ => xlss rfl rfl) (.inl rfl) <| pv rfl rfl rfl (fun _ _ => xmv) (.inl rfl) <| ?_
          refine Or.elim (Bool.eq_false_or_eq_true (decide (x4 < 0))) (fun h5 => ?_) (fun h5 => ?_)
          ·
            have hB3 := ifp hB3 h5
            refine pvf rfl rfl rfl rfl rfl rfl (btf h5) rfl (.inl rfl) <| pvf rfl rfl rfl rfl rfl rfl (btf h5) rfl (.inl rfl) <| pvf rfl rfl rfl rfl rfl rfl (btf h5) rfl (.inl rfl) <| pvf rfl rfl rfl rfl rfl rfl (btf h5) rfl (.inr (Ext.refl _)) <| pvf rfl rfl rfl rfl rfl rfl (btf h5) rfl (.inl rfl) <| pvf rfl rfl rfl rfl rfl rfl (btf h5) rfl (.inr (Ext.refl _)) <| pvf rfl rfl rfl rfl rfl rfl (btf h5) rfl (.inl rfl) <| pvf rfl rfl rfl rfl rfl rfl (btf h5) rfl (.inl rfl) <| pvf rfl rfl rfl rfl rfl rfl (btf h5) rfl (.inr (Ext.refl _)) <| pvf rfl rfl rfl rfl rfl rfl (btf h5) rfl (.inl rfl) <| pv rfl rfl rfl (fun _ _ => xpt rfl h5 rfl) (.inl rfl) <| ?_
            cases hB3
            refine lf <| ?_
            exact ⟨rfl, l1_i1, l2_i1, l5_i1, hx3⟩
          ·
            have hB3 := ifn hB3 h5
            refine pvt rfl rfl rfl rfl rfl rfl (bf h5) rfl (fun _ _ => xmv) (.inl rfl) <| pvt rfl rfl rfl rfl rfl rfl (bf h5) rfl (fun _ _ => xmv) (.inl rfl) <| ?_
            have hz := bs hB3; obtain ⟨x5, Ex5, hB3⟩ := hz
            have hz := ix2 r1 Ex5; obtain ⟨cs5, i6, i7, q7, hc5⟩ := hz
            obtain rfl := q7
            have hc6 := hc5.ext k4
            refine pvt rfl rfl rfl rfl rfl rfl (bf h5) rfl (fun _ _ => xixs l1_i1 l5_i1 Try.underlying22 ti2 i6 i7) (.inl rfl) <| pvt rfl rfl rfl rfl rfl rfl (bf h5) rfl (fun _ hS => xld rfl ti2 ((hc6.ext (hS.resolve_left nofun)).at 0 rfl)) (.inr (Ext.refl _)) <| pvt rfl rfl rfl rfl rfl rfl (bf h5) rfl (fun _ _ => xfa l2_i1 fa25_0) (.inl rfl) <| pvt rfl rfl rfl rfl rfl rfl (bf h5) rfl (fun _ hS => xld rfl ti22 ((Bx.cs (hb4.ext (hS.resolve_left nofun))).at 0 rfl)) (.inr (Ext.refl _)) <| pvt rfl rfl rfl rfl rfl rfl (bf h5) rfl (fun _ _ => xmv) (.inl rfl) <| ?_
            have hz := bs hB3; obtain ⟨x6, Ex6, hB3⟩ := hz
            have hz := (RV.els r3).ix Ex6; obtain ⟨b6, f3, cs6, e5, i8, i9, q8, hc7⟩ := hz
            cases e5
            obtain rfl := q8
            have hc8 := hc7.ext k4
            refine pvt rfl rfl rfl rfl rfl rfl (bf h5) rfl (fun _ _ => xixs rfl l5_i1 Try.underlying22 ti2 i8 i9) (.inl rfl) <| pvt rfl rfl rfl rfl rfl rfl (bf h5) rfl (fun _ hS => xld rfl ti2 ((hc8.ext (hS.resolve_left nofun)).at 0 rfl)) (.inr (Ext.refl _)) <| pvt rfl rfl rfl rfl rfl rfl (bf h5) rfl (fun _ _ => xgtr rfl rfl) (.inl rfl) <| pv rfl rfl rfl (fun _ _ => xpf rfl h5 rfl) (.inl rfl) <| ?_
            cases hB3
            refine lf <| ?_
            exact ⟨rfl, l1_i1, l2_i1, l5_i1, hx3⟩
        rintro L w5 ⟨l34_j1, l1_j1, l2_j1, l5_j1, K0_j1⟩
        have k6 := k1.tr K0_j1
        have k7 := K0_i1.tr K0_j1
        have r18 := r9.ext K0_j1
        have r19 := r10.ext K0_j1
        have r20 := r11.ext K0_j1
        have hb5 := hb2.ext K0_j1
        refine cnd l34_j1 (fun h6 => ?_) (fun h6 => ?_)
        ·
          have hB1 := ifp hB1 h6
          refine wp_seq <| rg <| vl rfl rfl xas <| nl <| ?_
          cases hB1
          have hF := (show some _ = some _ from hF); cases hF
          exact wp_ret <| rt rfl (.tmp rfl rfl .nil) ⟨rfl, k6⟩
        ·
          have hB1 := ifn hB1 h6
          refine wp_skip <| rg <| vl rfl rfl xmv <| vl rfl rfl (xadd l5_j1 rfl) <| vl rfl rfl xas <| nl <| ?_
          refine lq m (Nat.lt_succ_self _) <| ?_
          exact ⟨_, hB1, rfl, l1_j1, l2_j1, k7⟩
      ·
        have hB1 := ifn hB1 h4
        refine wp_exit <| ?_
        cases hB1
        refine lf <| ?_
        exact ⟨rfl, K0_i1⟩
    rintro L w6 ⟨rfl, K0_j2⟩
    have k8 := hx1.tr K0_j2
    refine wp_seq <| rg <| vl rfl rfl xas <| nl <| ?_
    cases hF
    exact wp_ret <| rt rfl (.tmp rfl rfl .nil) ⟨rfl, k8⟩

set_option maxHeartbeats 4000000 in
theorem c31 {w0 : World} {v0 : Value} {x0 : ((List Int) × (List ((List Int) × (List Int))))} (r0 : RV w0 v0 x0) {v1 : Value} {x1 : (List Int)} (r1 : RV w0 v1 x1) {F : Nat} {r : Int} (hF : ref11_One F x0 x1 = some r) :
    Calls Try.prog 31 [v0, v1].toArray w0 (Ret fun v w' => v = .int .i64 r ∧ Ext w0 w') := by
  unfold ref11_One at hF
  have hz := id r0; obtain ⟨_, rfl, ⟨_, _, rfl, ⟨a1, cq1, rfl, p1, q3, e1⟩, ⟨a2, cq2, rfl, p2, q4, e2⟩⟩⟩ := hz
  have r3 := RV.of1 p1 q3 e1
  have r4 := RV.of1 p2 q4 e2
  have hz := r1.sl; obtain ⟨a3, cq3, rfl, -, -, -⟩ := hz
  refine entr (n := 13) Try.func31 rfl rfl rfl <| wp_seq <| rg <| sbx rfl rfl fun b3 w1 hx1 hg1 hb1 => ?_
  have r5 := r1.ext hx1
  have r6 := r3.ext hx1
  have r7 := r4.ext hx1
  have r8 := r0.ext hx1
  refine vl rfl rfl xas <| nl <| wp_seq <| wp_seq <| rg <| vl rfl rfl (xlda rfl ti25 rfl (Bx.cs hb1)) <| ?_
  have hz := bs hF; obtain ⟨x3, Ex3, hF⟩ := hz
  refine cl rfl rfl (xc cb17 (mc rfl mn)) (c17 (show RV (α := ((List Int) × (List ((List Int) × (List Int))))) _ (.agg [.slice a1 x0.1.length cq1, .slice a2 x0.2.length cq2].toArray) (x0.1, x0.2) from ⟨_, rfl, ⟨[.slice a1 x0.1.length cq1], [.slice a2 x0.2.length cq2], rfl, r6.rep1, r7.rep1⟩⟩) Ex3) ?_
  rintro _ w2 ⟨rfl, hx2⟩
  have k1 := hx1.tr hx2
  have hb2 := hb1.ext hx2
  have r9 := r6.ext hx2
  have r10 := r7.ext hx2
  have r11 := r5.ext hx2
  refine vl rfl rfl (xneq rfl rfl) <| nl <| cnd rfl (fun h3 => ?_) (fun h3 => ?_)
  ·
    have hF := ifp hF h3
    refine wp_seq <| rg <| vl rfl rfl (xlda rfl ti25 rfl (Bx.cs hb2)) <| ?_
    have hz := bs hF; obtain ⟨x4, Ex4, hF⟩ := hz
    refine cl rfl rfl (xc cb17 (mc rfl mn)) (c17 (show RV (α := ((List Int) × (List ((List Int) × (List Int))))) _ (.agg [.slice a1 x0.1.length cq1, .slice a2 x0.2.length cq2].toArray) (x0.1, x0.2) from ⟨_, rfl, ⟨[.slice a1 x0.1.length cq1], [.slice a2 x0.2.length cq2], rfl, r9.rep1, r10.rep1⟩⟩) Ex4) ?_
    rintro _ w3 ⟨rfl, hx3⟩
    have k2 := k1.tr hx3
    refine vl rfl rfl xas <| nl <| ?_
    cases hF
    exact wp_ret <| rt rfl (.tmp rfl rfl .nil) ⟨rfl, k2⟩
  ·
    have hF := ifn hF h3
    refine wp_skip <| wp_seq <| rg <| vl rfl rfl (xlda rfl ti25 rfl (Bx.cs hb2)) <| vl rfl rfl xmv <| ?_
    have hz := bs hF; obtain ⟨x5, Ex5, hF⟩ := hz
    refine cl rfl rfl (xc cb64 (mc rfl (mc rfl mn))) (c64 (show RV (α := ((List Int) × (List ((List Int) × (List Int))))) _ (.agg [.slice a1 x0.1.length cq1, .slice a2 x0.2.length cq2].toArray) (x0.1, x0.2) from ⟨_, rfl, ⟨[.slice a1 x0.1.length cq1], [.slice a2 x0.2.length cq2], rfl, r9.rep1, r10.rep1⟩⟩) r11 Ex5) ?_
    rintro _ w4 ⟨rfl, hx4⟩
    have k3 := k1.tr hx4
    refine vl rfl rfl xas <| nl <| ?_
    cases hF
    exact wp_ret <| rt rfl (.tmp rfl rfl .nil) ⟨rfl, k3⟩

set_option maxHeartbeats 4000000 in
theorem c49 {w0 : World} {v0 : Value} {x0 : ((List Int) × (List ((List Int) × (List Int))))} (r0 : RV w0 v0 x0) {v1 : Value} {x1 : (List Int)} (r1 : RV w0 v1 x1) {x2 : Int} {F : Nat} {r : ((List Int) × Bool)} (hF : ref11_after F x0 x1 x2 = some r) :
    Calls Try.prog 49 [v0, v1, .int .i64 x2].toArray w0 (Ret fun v w' => ∃ u0 : Value, v = .tuple #[u0, .bool r.2] ∧ RV w' u0 r.1 ∧ Ext w0 w') := by
  unfold ref11_after at hF
  have hz := id r0; obtain ⟨_, rfl, ⟨_, _, rfl, ⟨a1, cq1, rfl, p1, q4, e1⟩, ⟨a2, cq2, rfl, p2, q5, e2⟩⟩⟩ := hz
  have r4 := RV.of1 p1 q4 e1
  have r5 := RV.of1 p2 q5 e2
  have hz := r1.sl; obtain ⟨a3, cq3, rfl, -, -, -⟩ := hz
  refine entr (n := 63) Try.func49 rfl rfl rfl <| wp_seq <| rg <| sbx rfl rfl fun b4 w1 hx1 hg1 hb1 => ?_
  have r6 := r1.ext hx1
  have r7 := r4.ext hx1
  have r8 := r5.ext hx1
  have r9 := r0.ext hx1
  refine vl rfl rfl xas <| vl rfl rfl xas <| nl <| wp_seq <| rg <| vl rfl rfl (xfa rfl fa25_1) <| vl rfl rfl (xld rfl ti23 ((Bx.cs hb1).at 1 rfl)) <| vl rfl rfl xmv <| ?_
  have hz := bs hF; obtain ⟨x4, Ex4, hF⟩ := hz
  have hz := (RV.els r5).ix Ex4; obtain ⟨b5, f1, cs4, e3, i1, i2, q6, hc1⟩ := hz
  cases e3
  obtain ⟨_, _, rfl, ⟨a4, cq4, rfl, p3, q7, e4⟩, ⟨a5, cq5, rfl, p4, q8, e5⟩⟩ := q6
  have r10 := RV.of1 p3 q7 e4
  have r11 := RV.of1 p4 q8 e5
  have hc2 := hc1.ext hx1
  have r12 := r10.ext hx1
  have r13 := r11.ext hx1
  refine vl rfl rfl (xixs rfl rfl Try.underlying23 ti57 i1 i2) <| vl rfl rfl (xlda rfl ti57 rfl hc2) <| sal ti57 fun b6 w2 hx2 hg2 hb2 => ?_
  have k1 := hx1.tr hx2
  have hb3 := hb1.ext hx2
  have r14 := r7.ext hx2
  have r15 := r8.ext hx2
  have r16 := r6.ext hx2
  have r17 := r12.ext hx2
  have r18 := r13.ext hx2
  refine sst rfl rfl rfl ti57 hb2 rfl rfl (ble rfl) fun w3 hch1 hb4 => ?_
  have k2 := Ext.chg k1 hch1 (Nat.le_trans hx1.size hg2)
  have k3 := Ext.chg hx2 hch1 (Nat.le_trans (Nat.le_refl _) hg2)
  have hb5 := hb1.ext k3
  have r19 := r7.ext k3
  have r20 := r8.ext k3
  have r21 := r6.ext k3
  have r22 := r12.ext k3
  have r23 := r13.ext k3
  have hb6 : Bx w3 b6 57 [.slice a4 x4.1.length cq4, .slice a5 x4.2.length cq5] := hb4
  refine nl <| wp_seq <| rg <| vl rfl rfl xas <| nl <| wp_seq <| wp_seq <| rg <| vl rfl rfl xas <| nl <| ?_
  have o1 : Row (α := Int) 2 w3.heap.size w3 (.slice none 0 0) [] := Row.nil
  have hz := bs hF; obtain ⟨o2, hB1, hF⟩ := hz
  refine ct (fun L w => ∃ z1 : (List Int), ∃ v5 : Value, o2 = .inr z1 ∧ L 9 = v5 ∧ Row 2 w3.heap.size w v5 z1 ∧ Ext w3 w) ?_ ?_
  ·
    refine wp_block <| lp (I := fun m L w => ∃ y1 : (List Int), ∃ y2 : Int, ∃ v4 : Value, ref11_after_l1 F x0 x1 x4 m y1 y2  = some o2 ∧ L 9 = v4 ∧ Row 2 w3.heap.size w v4 y1 ∧ L 10 = .int .i64 y2 ∧ L 1 = .slice a3 x1.length cq3 ∧ L 3 = .pointer (some ⟨b4, 0, none⟩) ∧ L 8 = .pointer (some ⟨b6, 0, none⟩) ∧ Ext w3 w) F ⟨_, _, _, hB1, rfl, o1, rfl, rfl, rfl, rfl, (Ext.refl _)⟩ ?_
    rintro m L w4 ⟨y1, y2, v4, hB1, l9_i3, O9_i3, l10_i3, l1_i3, l3_i3, l8_i3, K0_i3⟩
    rcases m with _ | m
    · rw [ref11_after_l1] at hB1; cases hB1
    rw [ref11_after_l1] at hB1
    have k4 := k2.tr K0_i3
    have k5 := k3.tr K0_i3
    have r24 := r21.ext K0_i3
    have r25 := r19.ext K0_i3
    have r26 := r20.ext K0_i3
    have hb7 := hb5.ext K0_i3
    have r27 := r22.ext K0_i3
    have r28 := r23.ext K0_i3
    have hb8 := hb6.ext K0_i3
    have hz := RV.sl O9_i3.rv; obtain ⟨a6, cq6, rfl, -, -, -⟩ := hz
    refine wp_seq <| wp_seq <| rg <| vl rfl rfl xmv <| vl rfl rfl xmv <| vl rfl rfl (xlen l1_i3 Try.underlying22) <| vl rfl rfl (xlss l10_i3 rfl) <| nl <| cnd rfl (fun h4 => ?_) (fun h4 => ?_)
    ·
      have hB1 := ifp hB1 h4
      refine wp_skip <| wp_seq <| wp_block <| wp_seq <| wpl [] (.pure true 0 (.pure true 1 (.pure true 2 (.pure false 3 (.pure true 4 (.pure false 5 (.pure true 6 (.pure true 7 (.pure false 8 (.pure true 9 (.pure true 10 (.pure false 11 (.pure true 12 (.pure true 13 (.pure false 14 (.pure true 15 (.pure true 16 .fin))))))))))))))))) mixed (by kernel_rfl) (fun w5 hx3 => ?_)
      have k6 := k4.tr hx3
      have k7 := k5.tr hx3
      have k8 := K0_i3.tr hx3
      have hb9 := hb7.ext hx3
      have r29 := r25.ext hx3
      have r30 := r26.ext hx3
      have hb10 := hb8.ext hx3
      have r31 := r27.ext hx3
      have r32 := r28.ext hx3
      have r33 := r24.ext hx3
      have O1 := O9_i3.ext hx3
      refine pv rfl rfl rfl (fun _ _ => xmv) (.inl rfl) <| pv rfl rfl rfl (fun _ _ => xmv) (.inl rfl) <| ?_
      have hz := bs hB1; obtain ⟨x5, Ex5, hB1⟩ := hz
      have hz := (RV.els r1).ix Ex5; obtain ⟨b7, f2, cs5, e6, i4, i5, q9, hc3⟩ := hz
      cases e6
      obtain rfl := q9
      have hc4 := hc3.ext k6
      refine pv rfl rfl rfl (fun _ _ => xixs l1_i3 l10_i3 Try.underlying22 ti2 i4 i5) (.inl rfl) <| pv rfl rfl rfl (fun _ hS => xld rfl ti2 ((hc4.ext (hS.resolve_left nofun)).at 0 rfl)) (.inr (Ext.refl _)) <| pv rfl rfl rfl (fun _ _ => xfa l8_i3 fa57_0) (.inl rfl) <| pv rfl rfl rfl (fun _ hS => xld rfl ti22 ((Bx.cs (hb10.ext (hS.resolve_left nofun))).at 0 rfl)) (.inr (Ext.refl _)) <| pv rfl rfl rfl (fun _ _ => xmv) (.inl rfl) <| ?_
      have hz := bs hB1; obtain ⟨x6, Ex6, hB1⟩ := hz
      have hz := (RV.els r10).ix Ex6; obtain ⟨b8, f3, cs6, e7, i6, i7, q10, hc5⟩ := hz
      cases e7
      obtain rfl := q10
      have hc6 := hc5.ext k6
      refine pv rfl rfl rfl (fun _ _ => xixs rfl l10_i3 Try.underlying22 ti2 i6 i7) (.inl rfl) <| pv rfl rfl rfl (fun _ hS => xld rfl ti2 ((hc6.ext (hS.resolve_left nofun)).at 0 rfl)) (.inr (Ext.refl _)) <| pv rfl rfl rfl (fun _ _ => xsub rfl rfl) (.inl rfl) <| pv rfl rfl rfl (fun _ _ => xfa l8_i3 fa57_1) (.inl rfl) <| pv rfl rfl rfl (fun _ hS => xld rfl ti22 ((Bx.cs (hb10.ext (hS.resolve_left nofun))).at 1 rfl)) (.inr (Ext.refl _)) <| pv rfl rfl rfl (fun _ _ => xmv) (.inl rfl) <| ?_
      have hz := bs hB1; obtain ⟨x7, Ex7, hB1⟩ := hz
      have hz := (RV.els r11).ix Ex7; obtain ⟨b9, f4, cs7, e8, i8, i9, q11, hc7⟩ := hz
      cases e8
      obtain rfl := q11
      have hc8 := hc7.ext k6
      refine pv rfl rfl rfl (fun _ _ => xixs rfl l10_i3 Try.underlying22 ti2 i8 i9) (.inl rfl) <| pv rfl rfl rfl (fun _ hS => xld rfl ti2 ((hc8.ext (hS.resolve_left nofun)).at 0 rfl)) (.inr (Ext.refl _)) <| pv rfl rfl rfl (fun _ _ => xadd rfl rfl) (.inl rfl) <| pv rfl rfl rfl (fun _ _ => xas) (.inl rfl) <| wp_seq <| wp_seq <| ?_
      have hz := bs hB1; obtain ⟨y3, hB3, hB1⟩ := hz
      refine ct (fun L w => L 57 = .bool y3 ∧ L 1 = .slice (some ⟨b7, f2, none⟩) x1.length cq3 ∧ L 3 = .pointer (some ⟨b4, 0, none⟩) ∧ L 8 = .pointer (some ⟨b6, 0, none⟩) ∧ L 9 = .slice a6 y1.length cq6 ∧ L 10 = .int .i64 y2 ∧ L 11 = .int .i64 (w64 ((w64 (x5 - x6)) + x7)) ∧ w3.heap.size ≤ w.heap.size ∧ Ext w5 w) ?_ ?_
      ·
        refine wpl [] (.pure true 0 (.pure true 1 (.pure true 2 (.pure false 3 (.pure true 4 (.pure false 5 (.pure true 6 (.pure true 7 (.pure false 8 (.pure true 9 (.pure true 10 (.pure true 11 (.pure true 12 (.pure false 13 (.pure true 14 (.pure true 15 (.pure false 16 (.pure true 17 (.pure true 18 .fin))))))))))))))))))) mixed (by kernel_rfl) (fun w7 hx5 => ?_)
        have k12 := k6.tr hx5
        have k13 := k7.tr hx5
        have k14 := k8.tr hx5
        have hb13 := hb9.ext hx5
        have r39 := r29.ext hx5
        have r40 := r30.ext hx5
        have hb14 := hb10.ext hx5
        have r41 := r31.ext hx5
        have r42 := r32.ext hx5
        have r43 := r33.ext hx5
        have O3 := O1.ext hx5
        refine pv rfl rfl rfl (fun _ _ => xmv) (.inl rfl) <| pv rfl rfl rfl (fun _ _ => xmv) (.inl rfl) <| ?_
        have hz := bs hB3; obtain ⟨x10, Ex10, hB3⟩ := hz
        have hz := ix2 r1 Ex10; obtain ⟨cs10, i14, i15, q14, hc13⟩ := hz
        obtain rfl := q14
        have hc14 := hc13.ext k12
        refine pv rfl rfl rfl (fun _ _ => xixs l1_i3 l10_i3 Try.underlying22 ti2 i14 i15) (.inl rfl) <| pv rfl rfl rfl (fun _ hS => xld rfl ti2 ((hc14.ext (hS.resolve_left nofun)).at 0 rfl)) (.inr (Ext.refl _)) <| pv rfl rfl rfl (fun _ _ => xfa l8_i3 fa57_0) (.inl rfl) <| pv rfl rfl rfl (fun _ hS => xld rfl ti22 ((Bx.cs (hb14.ext (hS.resolve_left nofun))).at 0 rfl)) (.inr (Ext.refl _)) <| pv rfl rfl rfl (fun _ _ => xmv) (.inl rfl) <| ?_
        have hz := bs hB3; obtain ⟨x11, Ex11, hB3⟩ := hz
        have hz := ix2 r10 Ex11; obtain ⟨cs11, i16, i17, q15, hc15⟩ := hz
        obtain rfl := q15
        have hc16 := hc15.ext k12
        refine pv rfl rfl rfl (fun _ _ => xixs rfl l10_i3 Try.underlying22 ti2 i16 i17) (.inl rfl) <| pv rfl rfl rfl (fun _ hS => xld rfl ti2 ((hc16.ext (hS.resolve_left nofun)).at 0 rfl)) (.inr (Ext.refl _)) <| pv rfl rfl rfl (fun _ _ => xlss rfl rfl) (.inl rfl) <| pv rfl rfl rfl (fun _ _ => xmv) (.inl rfl) <| ?_
        refine Or.elim (Bool.eq_false_or_eq_true (decide (x10 < x11))) (fun h5 => ?_) (fun h5 => ?_)
        ·
          have hB3 := ifp hB3 h5
          refine pvf rfl rfl rfl rfl rfl rfl (btf h5) rfl (.inl rfl) <| pvf rfl rfl rfl rfl rfl rfl (btf h5) rfl (.inl rfl) <| pvf rfl rfl rfl rfl rfl rfl (btf h5) rfl (.inr (Ext.refl _)) <| pvf rfl rfl rfl rfl rfl rfl (btf h5) rfl (.inl rfl) <| pvf rfl rfl rfl rfl rfl rfl (btf h5) rfl (.inl rfl) <| pvf rfl rfl rfl rfl rfl rfl (btf h5) rfl (.inr (Ext.refl _)) <| pvf rfl rfl rfl rfl rfl rfl (btf h5) rfl (.inl rfl) <| pv rfl rfl rfl (fun _ _ => xpt rfl h5 rfl) (.inl rfl) <| ?_
          cases hB3
          refine lf <| ?_
          exact ⟨rfl, l1_i3, l3_i3, l8_i3, l9_i3, l10_i3, rfl, k14.size, hx5⟩
        ·
          have hB3 := ifn hB3 h5
          refine pvt rfl rfl rfl rfl rfl rfl (bf h5) rfl (fun _ _ => xmv) (.inl rfl) <| pvt rfl rfl rfl rfl rfl rfl (bf h5) rfl (fun _ _ => xfa l3_i3 fa25_0) (.inl rfl) <| pvt rfl rfl rfl rfl rfl rfl (bf h5) rfl (fun _ hS => xld rfl ti22 ((Bx.cs (hb13.ext (hS.resolve_left nofun))).at 0 rfl)) (.inr (Ext.refl _)) <| pvt rfl rfl rfl rfl rfl rfl (bf h5) rfl (fun _ _ => xmv) (.inl rfl) <| ?_
          have hz := bs hB3; obtain ⟨x12, Ex12, hB3⟩ := hz
          have hz := (RV.els r4).ix Ex12; obtain ⟨b10, f5, cs12, e9, i18, i19, q16, hc17⟩ := hz
          cases e9
          obtain rfl := q16
          have hc18 := hc17.ext k12
          refine pvt rfl rfl rfl rfl rfl rfl (bf h5) rfl (fun _ _ => xixs rfl l10_i3 Try.underlying22 ti2 i18 i19) (.inl rfl) <| pvt rfl rfl rfl rfl rfl rfl (bf h5) rfl (fun _ hS => xld rfl ti2 ((hc18.ext (hS.resolve_left nofun)).at 0 rfl)) (.inr (Ext.refl _)) <| pvt rfl rfl rfl rfl rfl rfl (bf h5) rfl (fun _ _ => xgtr rfl rfl) (.inl rfl) <| pv rfl rfl rfl (fun _ _ => xpf rfl h5 rfl) (.inl rfl) <| ?_
          cases hB3
          refine lf <| ?_
          exact ⟨rfl, l1_i3, l3_i3, l8_i3, l9_i3, l10_i3, rfl, k14.size, hx5⟩
      rintro L w8 ⟨l57_j1, l1_j1, l3_j1, l8_j1, l9_j1, l10_j1, l11_j1, Z0_j1, K0_j1⟩
      have k15 := k6.tr K0_j1
      have k16 := k7.tr K0_j1
      have k17 := k8.tr K0_j1
      have r44 := r33.ext K0_j1
      have r45 := r29.ext K0_j1
      have r46 := r30.ext K0_j1
      have hb15 := hb9.ext K0_j1
      have r47 := r31.ext K0_j1
      have r48 := r32.ext K0_j1
      have hb16 := hb10.ext K0_j1
      have O4 := O1.ext K0_j1
      refine cnd l57_j1 (fun h6 => ?_) (fun h6 => ?_)
      ·
        have hB1 := ifp hB1 h6
        refine wp_seq <| rg <| vl rfl rfl xas <| vl rfl rfl xas <| nl <| ?_
        cases hB1
        have hF := (show some _ = some _ from hF); cases hF
        exact wp_ret <| rt rfl (.tmp rfl rfl (.tmp rfl rfl .nil)) ⟨_, rfl, (RVo.nil (Nat.zero_le _)), k15⟩
      ·
        have hB1 := ifn hB1 h6
        refine wp_skip <| rg <| vl rfl rfl xmv <| vl rfl rfl xmv <| sbsv (cs := [.int .i64 (w64 ((w64 (x5 - x6)) + x7))]) Try.underlying22 ti2 rfl (pc l11_j1 pn) rfl rfl rfl rfl rfl fun b11 w9 hx6 hg3 hb17 => ?_
        have k18 := k15.tr hx6
        have k19 := k16.tr hx6
        have k20 := k17.tr hx6
        have k21 := K0_j1.tr hx6
        have zs1 := Nat.le_trans Z0_j1 hx6.size
        have hb18 := hb15.ext hx6
        have r49 := r45.ext hx6
        have r50 := r46.ext hx6
        have hb19 := hb16.ext hx6
        have r51 := r47.ext hx6
        have r52 := r48.ext hx6
        have r53 := r44.ext hx6
        have O5 := O4.ext hx6
        have o3 : Row (α := Int) 2 w8.heap.size w9 (.slice (some ⟨b11, 0, none⟩) 1 1) [w64 ((w64 (x5 - x6)) + x7)] := Row.lit hg3 hb17 rfl (ble rfl)
        have hz := bs hB1; obtain ⟨x13, Ex13, hB1⟩ := hz
        refine sapx (l := y1) (k := ([w64 ((w64 (x5 - x6)) + x7)] : List Int)) l9_j1 rfl Try.underlying22 ti2 rfl rfl O5 (RV.els o3.rv) Ex13 k20.size fun v6 w10 o4 hB6 hgr1 how1 => ?_
        have k22 := Ext.grow k18 k2.size hB6
        have k23 := Ext.grow k19 k3.size hB6
        have k24 : Ext w3 w10 := k20.trans hB6
        have zs2 := Nat.le_trans zs1 hgr1.size
        have hb20 := hb5.ext k24
        have r55 := r19.ext k24
        have r56 := r20.ext k24
        have hb21 := hb6.ext k24
        have r57 := r22.ext k24
        have r58 := r23.ext k24
        have r59 := r21.ext k24
        have hz := RV.sl o4.rv; obtain ⟨a7, cq7, rfl, -, -, -⟩ := hz
        refine vl rfl rfl xas <| nl <| rg <| vl rfl rfl xmv <| vl rfl rfl (xadd l10_j1 rfl) <| vl rfl rfl xas <| nl <| ?_
        refine lq m (Nat.lt_succ_self _) <| ?_
        exact ⟨_, _, _, hB1, rfl, o4, rfl, l1_j1, l3_j1, l8_j1, k24⟩
    ·
      have hB1 := ifn hB1 h4
      refine wp_exit <| ?_
      cases hB1
      refine lf <| ?_
      exact ⟨_, _, rfl, l9_i3, O9_i3, K0_i3⟩
  rintro L w11 ⟨z1, v5, rfl, l9_j2, O9_j2, K0_j2⟩
  have k25 := k2.tr K0_j2
  have k26 := k3.tr K0_j2
  have hz := RV.sl O9_j2.rv; obtain ⟨a8, cq8, rfl, -, -, -⟩ := hz
  refine wp_seq <| rg <| vl rfl rfl xmv <| vl rfl rfl xas <| vl rfl rfl xas <| nl <| ?_
  cases hF
  exact wp_ret <| rt rfl (.tmp l9_j2 rfl (.tmp rfl rfl .nil)) ⟨_, rfl, O9_j2.rv, k25⟩

set_option maxHeartbeats 4000000 in
theorem c15 {w0 : World} {v0 : Value} {x0 : ((List Int) × (List ((List Int) × (List Int))))} (r0 : RV w0 v0 x0) {v1 : Value} {x1 : (List Int)} (r1 : RV w0 v1 x1) {v2 : Value} {x2 : (List Int)} (r2 : RV w0 v2 x2) {F : Nat} {r : ((List Int) × Int)} (hF : ref11_Make F x0 x1 x2 = some r) :
    Calls Try.prog 15 [v0, v1, v2].toArray w0 (Ret fun v w' => ∃ u0 : Value, v = .tuple #[u0, .int .i64 r.2] ∧ RV w' u0 r.1 ∧ Ext w0 w') := by
  unfold ref11_Make at hF
  have hz := id r0; obtain ⟨_, rfl, ⟨_, _, rfl, ⟨a1, cq1, rfl, p1, q4, e1⟩, ⟨a2, cq2, rfl, p2, q5, e2⟩⟩⟩ := hz
  have r4 := RV.of1 p1 q4 e1
  have r5 := RV.of1 p2 q5 e2
  have hz := r1.sl; obtain ⟨a3, cq3, rfl, -, -, -⟩ := hz
  have hz := r2.sl; obtain ⟨a4, cq4, rfl, -, -, -⟩ := hz
  refine entr (n := 67) Try.func15 rfl rfl rfl <| wp_seq <| rg <| sbx rfl rfl fun b4 w1 hx1 hg1 hb1 => ?_
  have r6 := r1.ext hx1
  have r7 := r2.ext hx1
  have r8 := r4.ext hx1
  have r9 := r5.ext hx1
  have r10 := r0.ext hx1
  refine vl rfl rfl xas <| vl rfl rfl xas <| nl <| wp_seq <| wp_seq <| rg <| vl rfl rfl (xlda rfl ti25 rfl (Bx.cs hb1)) <| vl rfl rfl xmv <| ?_
  have hz := bs hF; obtain ⟨x4, Ex4, hF⟩ := hz
  refine cl rfl rfl (xc cb31 (mc rfl (mc rfl mn))) (c31 (show RV (α := ((List Int) × (List ((List Int) × (List Int))))) _ (.agg [.slice a1 x0.1.length cq1, .slice a2 x0.2.length cq2].toArray) (x0.1, x0.2) from ⟨_, rfl, ⟨[.slice a1 x0.1.length cq1], [.slice a2 x0.2.length cq2], rfl, r8.rep1, r9.rep1⟩⟩) r6 Ex4) ?_
  rintro _ w2 ⟨rfl, hx2⟩
  have k1 := hx1.tr hx2
  have hb2 := hb1.ext hx2
  have r11 := r8.ext hx2
  have r12 := r9.ext hx2
  have r13 := r6.ext hx2
  have r14 := r7.ext hx2
  refine vl rfl rfl (xneq rfl rfl) <| nl <| cnd rfl (fun h4 => ?_) (fun h4 => ?_)
  ·
    have hF := ifp hF h4
    refine wp_seq <| rg <| vl rfl rfl (xlda rfl ti25 rfl (Bx.cs hb2)) <| vl rfl rfl xmv <| ?_
    have hz := bs hF; obtain ⟨x5, Ex5, hF⟩ := hz
    refine cl rfl rfl (xc cb31 (mc rfl (mc rfl mn))) (c31 (show RV (α := ((List Int) × (List ((List Int) × (List Int))))) _ (.agg [.slice a1 x0.1.length cq1, .slice a2 x0.2.length cq2].toArray) (x0.1, x0.2) from ⟨_, rfl, ⟨[.slice a1 x0.1.length cq1], [.slice a2 x0.2.length cq2], rfl, r11.rep1, r12.rep1⟩⟩) r13 Ex5) ?_
    rintro _ w3 ⟨rfl, hx3⟩
    have k2 := k1.tr hx3
    refine vl rfl rfl xas <| vl rfl rfl xas <| nl <| ?_
    cases hF
    exact wp_ret <| rt rfl (.tmp rfl rfl (.tmp rfl rfl .nil)) ⟨_, rfl, (RVo.nil (Nat.zero_le _)), k2⟩
  ·
    have hF := ifn hF h4
    refine wp_skip <| wp_seq <| wp_seq <| rg <| vl rfl rfl xmv <| vl rfl rfl (xlen rfl Try.underlying26) <| vl rfl rfl (xgtr rfl rfl) <| nl <| cnd rfl (fun h5 => ?_) (fun h5 => ?_)
    ·
      have hF := ifp hF h5
      refine wp_seq <| rg <| vl rfl rfl xas <| vl rfl rfl xas <| nl <| ?_
      cases hF
      exact wp_ret <| rt rfl (.tmp rfl rfl (.tmp rfl rfl .nil)) ⟨_, rfl, (RVo.nil (Nat.zero_le _)), k1⟩
    ·
      have hF := ifn hF h5
      refine wp_skip <| wp_seq <| wp_seq <| rg <| vl rfl rfl xas <| nl <| ?_
      have hz := bs hF; obtain ⟨o1, hB1, hF⟩ := hz
      refine ct (fun L w => o1 = .inr () ∧ L 1 = .slice a3 x1.length cq3 ∧ L 2 = .slice a4 x2.length cq4 ∧ L 3 = .pointer (some ⟨b4, 0, none⟩) ∧ Ext w2 w) ?_ ?_
      ·
        refine wp_block <| lp (I := fun m L w => ∃ y1 : Int, ref11_Make_l1 F x0 x2 m y1  = some o1 ∧ L 8 = .int .i64 y1 ∧ L 1 = .slice a3 x1.length cq3 ∧ L 2 = .slice a4 x2.length cq4 ∧ L 3 = .pointer (some ⟨b4, 0, none⟩) ∧ Ext w2 w) F ⟨_, hB1, rfl, rfl, rfl, rfl, (Ext.refl _)⟩ ?_
        rintro m L w4 ⟨y1, hB1, l8_i1, l1_i1, l2_i1, l3_i1, K0_i1⟩
        rcases m with _ | m
        · rw [ref11_Make_l1] at hB1; cases hB1
        rw [ref11_Make_l1] at hB1
        have k3 := k1.tr K0_i1
        have r15 := r13.ext K0_i1
        have r16 := r14.ext K0_i1
        have r17 := r11.ext K0_i1
        have r18 := r12.ext K0_i1
        have hb3 := hb2.ext K0_i1
        refine wp_seq <| wp_seq <| rg <| vl rfl rfl xmv <| vl rfl rfl xmv <| vl rfl rfl (xlen l2_i1 Try.underlying26) <| vl rfl rfl (xlss l8_i1 rfl) <| nl <| cnd rfl (fun h6 => ?_) (fun h6 => ?_)
        ·
          have hB1 := ifp hB1 h6
          refine wp_skip <| wp_seq <| wp_block <| wp_seq <| ?_
          have hz := bs hB1; obtain ⟨y2, hB3, hB1⟩ := hz
          refine ct (fun L w => L 43 = .bool y2 ∧ L 1 = .slice a3 x1.length cq3 ∧ L 2 = .slice a4 x2.length cq4 ∧ L 3 = .pointer (some ⟨b4, 0, none⟩) ∧ L 8 = .int .i64 y1 ∧ Ext w4 w) ?_ ?_
          ·
            refine wpl [] (.pure true 0 (.pure true 1 (.pure true 2 (.pure false 3 (.pure true 4 (.pure true 5 (.pure true 6 (.pure true 7 (.pure true 8 (.pure false 9 (.pure true 10 (.pure false 11 (.pure false 12 (.pure true 13 (.pure true 14 .fin))))))))))))))) mixed (by kernel_rfl) (fun w6 hx5 => ?_)
            have k6 := k3.tr hx5
            have k7 := K0_i1.tr hx5
            have hb5 := hb3.ext hx5
            have r23 := r17.ext hx5
            have r24 := r18.ext hx5
            have r25 := r15.ext hx5
            have r26 := r16.ext hx5
            refine pv rfl rfl rfl (fun _ _ => xmv) (.inl rfl) <| pv rfl rfl rfl (fun _ _ => xmv) (.inl rfl) <| ?_
            have hz := bs hB3; obtain ⟨x7, Ex7, hB3⟩ := hz
            have hz := (RV.els r2).ix Ex7; obtain ⟨b6, f2, cs5, e4, i4, i5, q7, hc3⟩ := hz
            cases e4
            obtain rfl := q7
            have hc4 := hc3.ext k6
            refine pv rfl rfl rfl (fun _ _ => xixs l2_i1 l8_i1 Try.underlying26 ti3 i4 i5) (.inl rfl) <| pv rfl rfl rfl (fun _ hS => xld rfl ti3 ((hc4.ext (hS.resolve_left nofun)).at 0 rfl)) (.inr (Ext.refl _)) <| pv rfl rfl rfl (fun _ _ => xlss rfl rfl) (.inl rfl) <| pv rfl rfl rfl (fun _ _ => xmv) (.inl rfl) <| ?_
            refine Or.elim (Bool.eq_false_or_eq_true (decide (x7 < 0))) (fun h7 => ?_) (fun h7 => ?_)
            ·
              have hB3 := ifp hB3 h7
              refine pvf rfl rfl rfl rfl rfl rfl (btf h7) rfl (.inl rfl) <| pvf rfl rfl rfl rfl rfl rfl (btf h7) rfl (.inl rfl) <| pvf rfl rfl rfl rfl rfl rfl (btf h7) rfl (.inl rfl) <| pvf rfl rfl rfl rfl rfl rfl (btf h7) rfl (.inr (Ext.refl _)) <| pvf rfl rfl rfl rfl rfl rfl (btf h7) rfl (.inl rfl) <| pvf rfl rfl rfl rfl rfl rfl (btf h7) rfl (.inr (Ext.refl _)) <| pvf rfl rfl rfl rfl rfl rfl (btf h7) rfl (.inr (Ext.refl _)) <| pvf rfl rfl rfl rfl rfl rfl (btf h7) rfl (.inl rfl) <| pv rfl rfl rfl (fun _ _ => xpt rfl h7 rfl) (.inl rfl) <| ?_
              cases hB3
              refine lf <| ?_
              exact ⟨rfl, l1_i1, l2_i1, l3_i1, l8_i1, hx5⟩
            ·
              have hB3 := ifn hB3 h7
              refine pvt rfl rfl rfl rfl rfl rfl (bf h7) rfl (fun _ _ => xmv) (.inl rfl) <| pvt rfl rfl rfl rfl rfl rfl (bf h7) rfl (fun _ _ => xmv) (.inl rfl) <| ?_
              have hz := bs hB3; obtain ⟨x8, Ex8, hB3⟩ := hz
              have hz := ix2 r2 Ex8; obtain ⟨cs6, i6, i7, q8, hc5⟩ := hz
              obtain rfl := q8
              have hc6 := hc5.ext k6
              refine pvt rfl rfl rfl rfl rfl rfl (bf h7) rfl (fun _ _ => xixs l2_i1 l8_i1 Try.underlying26 ti3 i6 i7) (.inl rfl) <| pvt rfl rfl rfl rfl rfl rfl (bf h7) rfl (fun _ hS => xld rfl ti3 ((hc6.ext (hS.resolve_left nofun)).at 0 rfl)) (.inr (Ext.refl _)) <| pvt rfl rfl rfl rfl rfl rfl (bf h7) rfl (fun _ _ => xfa l3_i1 fa25_1) (.inl rfl) <| pvt rfl rfl rfl rfl rfl rfl (bf h7) rfl (fun _ hS => xld rfl ti23 ((Bx.cs (hb5.ext (hS.resolve_left nofun))).at 1 rfl)) (.inr (Ext.refl _)) <| pvt rfl rfl rfl rfl rfl rfl (bf h7) rfl (fun _ hS => xlen rfl Try.underlying23) (.inr (Ext.refl _)) <| pvt rfl rfl rfl rfl rfl rfl (bf h7) rfl (fun _ _ => xgeq rfl rfl) (.inl rfl) <| pv rfl rfl rfl (fun _ _ => xpf rfl h7 rfl) (.inl rfl) <| ?_
              cases hB3
              refine lf <| ?_
              exact ⟨rfl, l1_i1, l2_i1, l3_i1, l8_i1, hx5⟩
          rintro L w7 ⟨l43_j1, l1_j1, l2_j1, l3_j1, l8_j1, K0_j1⟩
          have k8 := k3.tr K0_j1
          have k9 := K0_i1.tr K0_j1
          have r27 := r15.ext K0_j1
          have r28 := r16.ext K0_j1
          have r29 := r17.ext K0_j1
          have r30 := r18.ext K0_j1
          have hb6 := hb3.ext K0_j1
          refine cnd l43_j1 (fun h8 => ?_) (fun h8 => ?_)
          ·
            have hB1 := ifp hB1 h8
            refine wp_seq <| rg <| vl rfl rfl xas <| vl rfl rfl xas <| nl <| ?_
            cases hB1
            have hF := (show some _ = some _ from hF); cases hF
            exact wp_ret <| rt rfl (.tmp rfl rfl (.tmp rfl rfl .nil)) ⟨_, rfl, (RVo.nil (Nat.zero_le _)), k8⟩
          ·
            have hB1 := ifn hB1 h8
            refine wp_skip <| rg <| vl rfl rfl xmv <| vl rfl rfl (xadd l8_j1 rfl) <| vl rfl rfl xas <| nl <| ?_
            refine lq m (Nat.lt_succ_self _) <| ?_
            exact ⟨_, hB1, rfl, l1_j1, l2_j1, l3_j1, k9⟩
        ·
          have hB1 := ifn hB1 h6
          refine wp_exit <| ?_
          cases hB1
          refine lf <| ?_
          exact ⟨rfl, l1_i1, l2_i1, l3_i1, K0_i1⟩
      rintro L w8 ⟨rfl, l1_j2, l2_j2, l3_j2, K0_j2⟩
      have k10 := k1.tr K0_j2
      have r31 := r13.ext K0_j2
      have r32 := r14.ext K0_j2
      have r33 := r11.ext K0_j2
      have r34 := r12.ext K0_j2
      have hb7 := hb2.ext K0_j2
      refine wp_seq <| rg <| sbsv (cs := []) Try.underlying22 ti2 rfl pn rfl rfl rfl rfl rfl fun b7 w9 hx6 hg2 hb8 => ?_
      have k11 := k10.tr hx6
      have k12 := K0_j2.tr hx6
      have hb9 := hb7.ext hx6
      have r35 := r33.ext hx6
      have r36 := r34.ext hx6
      have r37 := r31.ext hx6
      have r38 := r32.ext hx6
      have o2 : Row (α := Int) 2 w8.heap.size w9 (.slice (some ⟨b7, 0, none⟩) 0 0) [] := Row.lit hg2 hb8 rfl (ble rfl)
      refine vl rfl rfl xmv <| ?_
      have hz := bs hF; obtain ⟨x9, Ex9, hF⟩ := hz
      refine sapx (l := ([] : List Int)) (k := x1) rfl l1_j2 Try.underlying22 ti2 rfl rfl o2 (RV.els r37) Ex9 hx6.size fun v4 w10 o3 hB7 hgr1 how1 => ?_
      have k13 := Ext.grow k11 k10.size hB7
      have k14 := Ext.grow k12 K0_j2.size hB7
      have k15 : Ext w8 w10 := hx6.trans hB7
      have hb10 := hb7.ext k15
      have r40 := r33.ext k15
      have r41 := r34.ext k15
      have r42 := r32.ext k15
      have hz := RV.sl o3.rv; obtain ⟨a5, cq5, rfl, -, -, -⟩ := hz
      refine vl rfl rfl xas <| nl <| wp_seq <| wp_seq <| rg <| vl rfl rfl xas <| nl <| ?_
      have hz := bs hF; obtain ⟨o4, hB8, hF⟩ := hz
      refine ct (fun L w => ∃ z1 : (List Int), ∃ v6 : Value, o4 = .inr z1 ∧ L 9 = v6 ∧ RV w v6 z1 ∧ w8.heap.size ≤ w.heap.size ∧ Ext w10 w) ?_ ?_
      ·
        refine wp_block <| lp (I := fun m L w => ∃ y3 : (List Int), ∃ y4 : Int, ∃ v5 : Value, ref11_Make_l2 F x0 x2 m y3 y4  = some o4 ∧ L 9 = v5 ∧ RV w v5 y3 ∧ L 10 = .int .i64 y4 ∧ L 2 = .slice a4 x2.length cq4 ∧ L 3 = .pointer (some ⟨b4, 0, none⟩) ∧ w8.heap.size ≤ w.heap.size ∧ Ext w10 w) F ⟨_, _, _, hB8, rfl, o3.rv, rfl, l2_j2, l3_j2, k15.size, (Ext.refl _)⟩ ?_
        rintro m L w11 ⟨y3, y4, v5, hB8, l9_i8, R9_i8, l10_i8, l2_i8, l3_i8, Z0_i8, K0_i8⟩
        rcases m with _ | m
        · rw [ref11_Make_l2] at hB8; cases hB8
        rw [ref11_Make_l2] at hB8
        have k16 := k13.tr K0_i8
        have k17 := k14.tr K0_i8
        have k18 := k15.tr K0_i8
        have r43 := r42.ext K0_i8
        have r44 := r40.ext K0_i8
        have r45 := r41.ext K0_i8
        have hb11 := hb10.ext K0_i8
        have hz := RV.sl R9_i8; obtain ⟨a6, cq6, rfl, -, -, -⟩ := hz
        refine wp_seq <| wp_seq <| rg <| vl rfl rfl xmv <| vl rfl rfl xmv <| vl rfl rfl (xlen l2_i8 Try.underlying26) <| vl rfl rfl (xlss l10_i8 rfl) <| nl <| cnd rfl (fun h9 => ?_) (fun h9 => ?_)
        ·
          have hB8 := ifp hB8 h9
          refine wp_skip <| wp_seq <| wp_block <| wp_seq <| wpl [] (.pure false 0 (.pure true 1 (.pure true 2 (.pure true 3 (.pure true 4 (.pure false 5 (.eff 6 (.pure true 7 (.pure true 8 (.pure true 9 (.pure true 10 (.pure true 11 .fin))))) .stop))))))) mixed (by kernel_rfl) (fun w12 hx7 => ?_)
          have k19 := k16.tr hx7
          have k20 := k17.tr hx7
          have k21 := k18.tr hx7
          have k22 := K0_i8.tr hx7
          have zs1 := Nat.le_trans Z0_i8 hx7.size
          have hb12 := hb11.ext hx7
          have r46 := r44.ext hx7
          have r47 := r45.ext hx7
          have r48 := r43.ext hx7
          have R1 := R9_i8.ext hx7
          refine pv rfl rfl rfl (fun _ hS => xlda l3_i8 ti25 rfl (Bx.cs (hb12.ext (hS.resolve_left nofun)))) (.inr (Ext.refl _)) <| pv rfl rfl rfl (fun _ _ => xmv) (.inl rfl) <| pv rfl rfl rfl (fun _ _ => xmv) (.inl rfl) <| pv rfl rfl rfl (fun _ _ => xmv) (.inl rfl) <| ?_
          have hz := bs hB8; obtain ⟨x10, Ex10, hB8⟩ := hz
          have hz := (RV.els r2).ix Ex10; obtain ⟨b8, f3, cs7, e5, i9, i10, q9, hc7⟩ := hz
          cases e5
          obtain rfl := q9
          have hc8 := hc7.ext k19
          refine pv rfl rfl rfl (fun _ _ => xixs l2_i8 l10_i8 Try.underlying26 ti3 i9 i10) (.inl rfl) <| pv rfl rfl rfl (fun _ hS => xld rfl ti3 ((hc8.ext (hS.resolve_left nofun)).at 0 rfl)) (.inr (Ext.refl _)) <| ?_
          have hz := bs hB8; obtain ⟨x11, Ex11, hB8⟩ := hz
          refine pe1 rfl <| cl rfl rfl (xc cb49 (mc rfl (mc l9_i8 (mc rfl mn)))) (c49 (show RV (α := ((List Int) × (List ((List Int) × (List Int))))) _ (.agg [.slice a1 x0.1.length cq1, .slice a2 x0.2.length cq2].toArray) (x0.1, x0.2) from ⟨_, rfl, ⟨[.slice a1 x0.1.length cq1], [.slice a2 x0.2.length cq2], rfl, r46.rep1, r47.rep1⟩⟩) R1 Ex11) ?_
          rintro _ w13 ⟨u1, rfl, r49, hx8⟩
          have k23 := k19.tr hx8
          have k24 := k20.tr hx8
          have k25 := k21.tr hx8
          have k26 := k22.tr hx8
          have zs2 := Nat.le_trans zs1 hx8.size
          have hb13 := hb12.ext hx8
          have r50 := r46.ext hx8
          have r51 := r47.ext hx8
          have r52 := r48.ext hx8
          have hz := RV.sl r49; obtain ⟨a7, cq7, rfl, -, -, -⟩ := hz
          refine nl ⟨fun _ _ => hx8, ?_⟩
          refine pv rfl rfl rfl (fun _ _ => xmv) (.inl rfl) <| pv rfl rfl rfl (fun _ _ => xext rfl rfl) (.inl rfl) <| pv rfl rfl rfl (fun _ _ => xext rfl rfl) (.inl rfl) <| pv rfl rfl rfl (fun _ _ => xas) (.inl rfl) <| pv rfl rfl rfl (fun _ _ => xas) (.inl rfl) <| wp_seq <| wp_seq <| rg <| vl rfl rfl xmv <| vl rfl rfl (xnot rfl) <| nl <| cnd rfl (fun h10 => ?_) (fun h10 => ?_)
          ·
            have hB8 := ifp hB8 h10
            refine wp_seq <| rg <| vl rfl rfl xas <| vl rfl rfl xas <| nl <| ?_
            cases hB8
            have hF := (show some _ = some _ from hF); cases hF
            exact wp_ret <| rt rfl (.tmp rfl rfl (.tmp rfl rfl .nil)) ⟨_, rfl, (RVo.nil (Nat.zero_le _)), k23⟩
          ·
            have hB8 := ifn hB8 h10
            refine wp_skip <| rg <| vl rfl rfl xmv <| vl rfl rfl xas <| nl <| rg <| vl rfl rfl xmv <| vl rfl rfl (xadd l10_i8 rfl) <| vl rfl rfl xas <| nl <| ?_
            refine lq m (Nat.lt_succ_self _) <| ?_
            exact ⟨_, _, _, hB8, rfl, r49, rfl, l2_i8, l3_i8, zs2, k26⟩
        ·
          have hB8 := ifn hB8 h9
          refine wp_exit <| ?_
          cases hB8
          refine lf <| ?_
          exact ⟨_, _, rfl, l9_i8, R9_i8, Z0_i8, K0_i8⟩
      rintro L w14 ⟨z1, v6, rfl, l9_j3, R9_j3, Z0_j3, K0_j3⟩
      have k27 := k13.tr K0_j3
      have k28 := k14.tr K0_j3
      have k29 := k15.tr K0_j3
      have hz := RV.sl R9_j3; obtain ⟨a8, cq8, rfl, -, -, -⟩ := hz
      refine wp_seq <| rg <| vl rfl rfl xmv <| vl rfl rfl xas <| vl rfl rfl xas <| nl <| ?_
      cases hF
      exact wp_ret <| rt rfl (.tmp l9_j3 rfl (.tmp rfl rfl .nil)) ⟨_, rfl, R9_j3, k27⟩

set_option maxHeartbeats 4000000 in
theorem c19 {w0 : World} {v0 : Value} {x0 : ((List Int) × (List ((List Int) × (List Int))))} (r0 : RV w0 v0 x0) {F : Nat} {r : Bool} (hF : law11_large F x0 = some r) :
    Calls Try.prog 19 [v0].toArray w0 (Ret fun v w' => v = .bool r ∧ Ext w0 w') := by
  unfold law11_large at hF
  have hz := id r0; obtain ⟨_, rfl, ⟨_, _, rfl, ⟨a1, cq1, rfl, p1, q2, e1⟩, ⟨a2, cq2, rfl, p2, q3, e2⟩⟩⟩ := hz
  have r2 := RV.of1 p1 q2 e1
  have r3 := RV.of1 p2 q3 e2
  refine entr (n := 11) Try.func19 rfl rfl rfl <| wp_seq <| rg <| sbx rfl rfl fun b2 w1 hx1 hg1 hb1 => ?_
  have r4 := r2.ext hx1
  have r5 := r3.ext hx1
  have r6 := r0.ext hx1
  refine vl rfl rfl xas <| nl <| wp_seq <| rg <| vl rfl rfl (xlda rfl ti25 rfl (Bx.cs hb1)) <| ?_
  have hz := bs hF; obtain ⟨x2, Ex2, hF⟩ := hz
  refine cl rfl rfl (xc cb17 (mc rfl mn)) (c17 (show RV (α := ((List Int) × (List ((List Int) × (List Int))))) _ (.agg [.slice a1 x0.1.length cq1, .slice a2 x0.2.length cq2].toArray) (x0.1, x0.2) from ⟨_, rfl, ⟨[.slice a1 x0.1.length cq1], [.slice a2 x0.2.length cq2], rfl, r4.rep1, r5.rep1⟩⟩) Ex2) ?_
  rintro _ w2 ⟨rfl, hx2⟩
  have k1 := hx1.tr hx2
  have hb2 := hb1.ext hx2
  have r7 := r4.ext hx2
  have r8 := r5.ext hx2
  refine vl rfl rfl (xeql rfl rfl) <| vl rfl rfl xmv <| gv rfl rfl rfl rfl (gw1 rfl) rfl (fun hc => xlda rfl ti25 rfl (Bx.cs hb2)) <| ?_
  have hz := bs hF; obtain ⟨x3, Ex3, hF⟩ := hz
  refine gc rfl rfl rfl rfl (gw1 rfl) rfl (fun hc => xc cb57 (mc (mv hc rfl) mn)) (fun hc => (c57 (show RV (α := ((List Int) × (List ((List Int) × (List Int))))) _ (.agg [.slice a1 x0.1.length cq1, .slice a2 x0.2.length cq2].toArray) (x0.1, x0.2) from ⟨_, rfl, ⟨[.slice a1 x0.1.length cq1], [.slice a2 x0.2.length cq2], rfl, r7.rep1, r8.rep1⟩⟩) (gdp Ex3 hc))) (fun v2 w3 hy1 hn1 => ?_)
  have hx3 : Ext w2 w3 := gx (fun h => (hy1 h).2) (fun h => (hn1 h).2 ▸ Ext.refl _)
  have e3 := mkw (fun h => (hy1 h).1) (fun h => (hn1 h).1)
  have k2 := k1.tr hx3
  refine gv rfl rfl rfl rfl (gw1 rfl) rfl (fun hc => xgtr (mv hc e3) rfl) <| vl rfl rfl (xpa rfl rfl rfl) <| vl rfl rfl xas <| nl <| ?_
  cases hF
  exact wp_ret <| rt rfl (.tmp rfl rfl .nil) ⟨rfl, k2⟩

set_option maxHeartbeats 4000000 in
theorem c41 {w0 : World} {v0 : Value} {x0 : ((List Int) × (List ((List Int) × (List Int))))} (r0 : RV w0 v0 x0) {v1 : Value} {x1 : (List Int)} (r1 : RV w0 v1 x1) {v2 : Value} {x2 : (List Int)} (r2 : RV w0 v2 x2) {F : Nat} {r : Int} (hF : ref11_Two F x0 x1 x2 = some r) :
    Calls Try.prog 41 [v0, v1, v2].toArray w0 (Ret fun v w' => v = .int .i64 r ∧ Ext w0 w') := by
  unfold ref11_Two at hF
  have hz := id r0; obtain ⟨_, rfl, ⟨_, _, rfl, ⟨a1, cq1, rfl, p1, q4, e1⟩, ⟨a2, cq2, rfl, p2, q5, e2⟩⟩⟩ := hz
  have r4 := RV.of1 p1 q4 e1
  have r5 := RV.of1 p2 q5 e2
  have hz := r1.sl; obtain ⟨a3, cq3, rfl, -, -, -⟩ := hz
  have hz := r2.sl; obtain ⟨a4, cq4, rfl, -, -, -⟩ := hz
  refine entr (n := 17) Try.func41 rfl rfl rfl <| wp_seq <| rg <| sbx rfl rfl fun b4 w1 hx1 hg1 hb1 => ?_
  have r6 := r1.ext hx1
  have r7 := r2.ext hx1
  have r8 := r4.ext hx1
  have r9 := r5.ext hx1
  have r10 := r0.ext hx1
  refine vl rfl rfl xas <| nl <| wp_seq <| wp_seq <| rg <| vl rfl rfl (xlda rfl ti25 rfl (Bx.cs hb1)) <| vl rfl rfl xmv <| ?_
  have hz := bs hF; obtain ⟨x4, Ex4, hF⟩ := hz
  refine cl rfl rfl (xc cb31 (mc rfl (mc rfl mn))) (c31 (show RV (α := ((List Int) × (List ((List Int) × (List Int))))) _ (.agg [.slice a1 x0.1.length cq1, .slice a2 x0.2.length cq2].toArray) (x0.1, x0.2) from ⟨_, rfl, ⟨[.slice a1 x0.1.length cq1], [.slice a2 x0.2.length cq2], rfl, r8.rep1, r9.rep1⟩⟩) r6 Ex4) ?_
  rintro _ w2 ⟨rfl, hx2⟩
  have k1 := hx1.tr hx2
  have hb2 := hb1.ext hx2
  have r11 := r8.ext hx2
  have r12 := r9.ext hx2
  have r13 := r6.ext hx2
  have r14 := r7.ext hx2
  refine vl rfl rfl (xneq rfl rfl) <| nl <| cnd rfl (fun h4 => ?_) (fun h4 => ?_)
  ·
    have hF := ifp hF h4
    refine wp_seq <| rg <| vl rfl rfl (xlda rfl ti25 rfl (Bx.cs hb2)) <| vl rfl rfl xmv <| ?_
    have hz := bs hF; obtain ⟨x5, Ex5, hF⟩ := hz
    refine cl rfl rfl (xc cb31 (mc rfl (mc rfl mn))) (c31 (show RV (α := ((List Int) × (List ((List Int) × (List Int))))) _ (.agg [.slice a1 x0.1.length cq1, .slice a2 x0.2.length cq2].toArray) (x0.1, x0.2) from ⟨_, rfl, ⟨[.slice a1 x0.1.length cq1], [.slice a2 x0.2.length cq2], rfl, r11.rep1, r12.rep1⟩⟩) r13 Ex5) ?_
    rintro _ w3 ⟨rfl, hx3⟩
    have k2 := k1.tr hx3
    refine vl rfl rfl xas <| nl <| ?_
    cases hF
    exact wp_ret <| rt rfl (.tmp rfl rfl .nil) ⟨rfl, k2⟩
  ·
    have hF := ifn hF h4
    refine wp_skip <| wp_seq <| rg <| vl rfl rfl (xlda rfl ti25 rfl (Bx.cs hb2)) <| vl rfl rfl xmv <| ?_
    have hz := bs hF; obtain ⟨x6, Ex6, hF⟩ := hz
    refine cl rfl rfl (xc cb64 (mc rfl (mc rfl mn))) (c64 (show RV (α := ((List Int) × (List ((List Int) × (List Int))))) _ (.agg [.slice a1 x0.1.length cq1, .slice a2 x0.2.length cq2].toArray) (x0.1, x0.2) from ⟨_, rfl, ⟨[.slice a1 x0.1.length cq1], [.slice a2 x0.2.length cq2], rfl, r11.rep1, r12.rep1⟩⟩) r14 Ex6) ?_
    rintro _ w4 ⟨rfl, hx4⟩
    have k3 := k1.tr hx4
    refine vl rfl rfl xas <| nl <| ?_
    cases hF
    exact wp_ret <| rt rfl (.tmp rfl rfl .nil) ⟨rfl, k3⟩

set_option maxHeartbeats 4000000 in
theorem c61 {w0 : World} {v0 : Value} {x0 : ((List Int) × (List ((List Int) × (List Int))))} (r0 : RV w0 v0 x0) {v1 : Value} {x1 : (List Int)} (r1 : RV w0 v1 x1) {F : Nat} {r : Int} (hF : ref11_index F x0 x1 = some r) :
    Calls Try.prog 61 [v0, v1].toArray w0 (Ret fun v w' => v = .int .i64 r ∧ Ext w0 w') := by
  unfold ref11_index at hF
  have hz := id r0; obtain ⟨_, rfl, ⟨_, _, rfl, ⟨a1, cq1, rfl, p1, q3, e1⟩, ⟨a2, cq2, rfl, p2, q4, e2⟩⟩⟩ := hz
  have r3 := RV.of1 p1 q3 e1
  have r4 := RV.of1 p2 q4 e2
  have hz := r1.sl; obtain ⟨a3, cq3, rfl, -, -, -⟩ := hz
  refine entr (n := 27) Try.func61 rfl rfl rfl <| wp_seq <| rg <| sbx rfl rfl fun b3 w1 hx1 hg1 hb1 => ?_
  have r5 := r1.ext hx1
  have r6 := r3.ext hx1
  have r7 := r4.ext hx1
  have r8 := r0.ext hx1
  refine vl rfl rfl xas <| nl <| wp_seq <| rg <| vl rfl rfl xas <| nl <| wp_seq <| wp_seq <| rg <| vl rfl rfl xas <| nl <| ?_
  have hz := bs hF; obtain ⟨z1, hB1, hF⟩ := hz
  refine ct (fun L w => L 5 = .int .i64 z1 ∧ Ext w1 w) ?_ ?_
  ·
    refine wp_block <| lp (I := fun m L w => ∃ y1 : Int, ∃ y2 : Int, ref11_index_l1 F x0 x1 m y1 y2  = some z1 ∧ L 5 = .int .i64 y1 ∧ L 6 = .int .i64 y2 ∧ L 1 = .slice a3 x1.length cq3 ∧ L 2 = .pointer (some ⟨b3, 0, none⟩) ∧ Ext w1 w) F ⟨_, _, hB1, rfl, rfl, rfl, rfl, (Ext.refl _)⟩ ?_
    rintro m L w2 ⟨y1, y2, hB1, l5_i1, l6_i1, l1_i1, l2_i1, K0_i1⟩
    rcases m with _ | m
    · rw [ref11_index_l1] at hB1; cases hB1
    rw [ref11_index_l1] at hB1
    have k1 := hx1.tr K0_i1
    have r9 := r5.ext K0_i1
    have r10 := r6.ext K0_i1
    have r11 := r7.ext K0_i1
    have hb2 := hb1.ext K0_i1
    refine wp_seq <| wp_seq <| rg <| vl rfl rfl xmv <| vl rfl rfl xmv <| vl rfl rfl (xlen l1_i1 Try.underlying22) <| vl rfl rfl (xlss l6_i1 rfl) <| nl <| cnd rfl (fun h3 => ?_) (fun h3 => ?_)
    ·
      have hB1 := ifp hB1 h3
      refine wp_skip <| wp_seq <| wp_block <| wpl [] (.pure true 0 (.pure true 1 (.pure false 2 (.pure true 3 (.pure true 4 (.pure false 5 (.pure true 6 (.pure true 7 (.pure true 8 (.pure true 9 (.pure true 10 (.pure false 11 (.pure true 12 (.pure true 13 .fin)))))))))))))) mixed (by kernel_rfl) (fun w3 hx2 => ?_)
      have k2 := k1.tr hx2
      have k3 := K0_i1.tr hx2
      have hb3 := hb2.ext hx2
      have r12 := r10.ext hx2
      have r13 := r11.ext hx2
      have r14 := r9.ext hx2
      refine pv rfl rfl rfl (fun _ _ => xmv) (.inl rfl) <| pv rfl rfl rfl (fun _ _ => xfa l2_i1 fa25_0) (.inl rfl) <| pv rfl rfl rfl (fun _ hS => xld rfl ti22 ((Bx.cs (hb3.ext (hS.resolve_left nofun))).at 0 rfl)) (.inr (Ext.refl _)) <| pv rfl rfl rfl (fun _ _ => xmv) (.inl rfl) <| ?_
      have hz := bs hB1; obtain ⟨x3, Ex3, hB1⟩ := hz
      have hz := (RV.els r3).ix Ex3; obtain ⟨b4, f1, cs3, e3, i2, i3, q5, hc1⟩ := hz
      cases e3
      obtain rfl := q5
      have hc2 := hc1.ext k2
      refine pv rfl rfl rfl (fun _ _ => xixs rfl l6_i1 Try.underlying22 ti2 i2 i3) (.inl rfl) <| pv rfl rfl rfl (fun _ hS => xld rfl ti2 ((hc2.ext (hS.resolve_left nofun)).at 0 rfl)) (.inr (Ext.refl _)) <| pv rfl rfl rfl (fun _ _ => xadd rfl rfl) (.inl rfl) <| pv rfl rfl rfl (fun _ _ => xmul l5_i1 rfl) (.inl rfl) <| pv rfl rfl rfl (fun _ _ => xmv) (.inl rfl) <| pv rfl rfl rfl (fun _ _ => xmv) (.inl rfl) <| ?_
      have hz := bs hB1; obtain ⟨x4, Ex4, hB1⟩ := hz
      have hz := (RV.els r1).ix Ex4; obtain ⟨b5, f2, cs4, e4, i4, i5, q6, hc3⟩ := hz
      cases e4
      obtain rfl := q6
      have hc4 := hc3.ext k2
      refine pv rfl rfl rfl (fun _ _ => xixs l1_i1 l6_i1 Try.underlying22 ti2 i4 i5) (.inl rfl) <| pv rfl rfl rfl (fun _ hS => xld rfl ti2 ((hc4.ext (hS.resolve_left nofun)).at 0 rfl)) (.inr (Ext.refl _)) <| pv rfl rfl rfl (fun _ _ => xadd rfl rfl) (.inl rfl) <| pv rfl rfl rfl (fun _ _ => xas) (.inl rfl) <| rg <| vl rfl rfl xmv <| vl rfl rfl (xadd l6_i1 rfl) <| vl rfl rfl xas <| nl <| ?_
      refine lq m (Nat.lt_succ_self _) <| ?_
      exact ⟨_, _, hB1, rfl, rfl, l1_i1, l2_i1, k3⟩
    ·
      have hB1 := ifn hB1 h3
      refine wp_exit <| ?_
      cases hB1
      refine lf <| ?_
      exact ⟨l5_i1, K0_i1⟩
  rintro L w4 ⟨l5_j1, K0_j1⟩
  have k4 := hx1.tr K0_j1
  refine wp_seq <| rg <| vl rfl rfl xmv <| vl rfl rfl xas <| nl <| ?_
  cases hF
  exact wp_ret <| rt rfl (.tmp l5_j1 rfl .nil) ⟨rfl, k4⟩

set_option maxHeartbeats 4000000 in
theorem c62 {w0 : World} {v0 : Value} {x0 : ((List Int) × (List ((List Int) × (List Int))))} (r0 : RV w0 v0 x0) {x1 : Int} {F : Nat} {r : (List Int)} (hF : ref11_stock F x0 x1 = some r) :
    Calls Try.prog 62 [v0, .int .i64 x1].toArray w0 (Ret fun v w' => ∃ u0 : Value, v = u0 ∧ RV w' u0 r ∧ Ext w0 w') := by
  unfold ref11_stock at hF
  have hz := id r0; obtain ⟨_, rfl, ⟨_, _, rfl, ⟨a1, cq1, rfl, p1, q3, e1⟩, ⟨a2, cq2, rfl, p2, q4, e2⟩⟩⟩ := hz
  have r3 := RV.of1 p1 q3 e1
  have r4 := RV.of1 p2 q4 e2
  refine entr (n := 35) Try.func62 rfl rfl rfl <| wp_seq <| rg <| sbx rfl rfl fun b3 w1 hx1 hg1 hb1 => ?_
  have r5 := r3.ext hx1
  have r6 := r4.ext hx1
  have r7 := r0.ext hx1
  refine vl rfl rfl xas <| nl <| wp_seq <| rg <| vl rfl rfl (xfa rfl fa25_0) <| vl rfl rfl (xld rfl ti22 ((Bx.cs hb1).at 0 rfl)) <| vl rfl rfl (xlen rfl Try.underlying22) <| ?_
  have hz := bs hF; obtain ⟨x3, Ex3, hF⟩ := hz
  refine smks (α := Int) (z0 := 0) rfl rfl Try.underlying22 ti2 rfl rfl rfl Ex3 fun b4 w2 hx2 o1 => ?_
  have k1 := hx1.tr hx2
  have hb2 := hb1.ext hx2
  have r8 := r5.ext hx2
  have r9 := r6.ext hx2
  refine vl rfl rfl xas <| nl <| wp_seq <| wp_seq <| rg <| vl rfl rfl xmv <| vl rfl rfl (xlen rfl Try.underlying22) <| vl rfl rfl (xsub rfl rfl) <| vl rfl rfl xas <| nl <| ?_
  have hz := bs hF; obtain ⟨z1, hB1, hF⟩ := hz
  refine ct (fun L w => ∃ v4 : Value, L 5 = v4 ∧ Row 2 w1.heap.size w v4 z1 ∧ Ext w1 w) ?_ ?_
  ·
    refine wp_block <| lp (I := fun m L w => ∃ y1 : Int, ∃ y2 : (List Int), ∃ y3 : Int, ∃ v3 : Value, ref11_stock_l1 F x0 m y1 y2 y3  = some z1 ∧ L 1 = .int .i64 y1 ∧ L 5 = v3 ∧ Row 2 w1.heap.size w v3 y2 ∧ L 6 = .int .i64 y3 ∧ L 2 = .pointer (some ⟨b3, 0, none⟩) ∧ Ext w1 w) F ⟨_, _, _, _, hB1, rfl, rfl, o1, rfl, rfl, hx2⟩ ?_
    rintro m L w3 ⟨y1, y2, y3, v3, hB1, l1_i1, l5_i1, O5_i1, l6_i1, l2_i1, K0_i1⟩
    rcases m with _ | m
    · rw [ref11_stock_l1] at hB1; cases hB1
    rw [ref11_stock_l1] at hB1
    have k2 := hx1.tr K0_i1
    have r10 := r5.ext K0_i1
    have r11 := r6.ext K0_i1
    have hb3 := hb1.ext K0_i1
    have hz := RV.sl O5_i1.rv; obtain ⟨a3, cq3, rfl, -, -, -⟩ := hz
    refine wp_seq <| wp_seq <| rg <| vl rfl rfl xmv <| vl rfl rfl (xgeq l6_i1 rfl) <| nl <| cnd rfl (fun h3 => ?_) (fun h3 => ?_)
    ·
      have hB1 := ifp hB1 h3
      refine wp_skip <| wp_seq <| wp_block <| wp_seq <| rg <| vl rfl rfl (xfa l2_i1 fa25_0) <| vl rfl rfl (xld rfl ti22 ((Bx.cs hb3).at 0 rfl)) <| vl rfl rfl xmv <| ?_
      have hz := bs hB1; obtain ⟨x4, Ex4, hB1⟩ := hz
      have hz := (RV.els r3).ix Ex4; obtain ⟨b5, f1, cs3, e3, i2, i3, q5, hc1⟩ := hz
      cases e3
      obtain rfl := q5
      have hc2 := hc1.ext k2
      refine vl rfl rfl (xixs rfl l6_i1 Try.underlying22 ti2 i2 i3) <| vl rfl rfl (xld rfl ti2 (hc2.at 0 rfl)) <| vl rfl rfl (xadd rfl rfl) <| vl rfl rfl xas <| nl <| wp_seq <| rg <| vl rfl rfl xmv <| vl rfl rfl xmv <| vl rfl rfl xmv <| vl rfl rfl xmv <| ?_
      have hz := bs hB1; obtain ⟨x5, Ex5, hB1⟩ := hz
      refine vl rfl rfl (xremv l1_i1 rfl Ex5) <| ?_
      have hz := bs hB1; obtain ⟨x6, Ex6, hB1⟩ := hz
      have hz := (RV.els O5_i1.rv).ix Ex6; obtain ⟨b6, f2, cs4, e4, i4, i5, q6, hc3⟩ := hz
      cases e4
      obtain rfl := q6
      refine vl rfl rfl (xixs l5_i1 l6_i1 Try.underlying22 ti2 i4 i5) <| sstr (l := y2) (v := x5) rfl rfl rfl ti2 O5_i1 Ex6 fun w4 hch1 o3 => ?_
      have k3 := Ext.chg k2 hch1 (Nat.le_trans hx1.size (Row.ge O5_i1))
      have k4 := Ext.chg K0_i1 hch1 (Nat.le_trans (Nat.le_refl _) (Row.ge O5_i1))
      have hb4 := hb1.ext k4
      have r12 := r5.ext k4
      have r13 := r6.ext k4
      refine nl <| rg <| vl rfl rfl xmv <| vl rfl rfl xmv <| ?_
      have hz := bs hB1; obtain ⟨x7, Ex7, hB1⟩ := hz
      refine vl rfl rfl (xquov l1_i1 rfl Ex7) <| vl rfl rfl xas <| nl <| rg <| vl rfl rfl xmv <| vl rfl rfl (xsub l6_i1 rfl) <| vl rfl rfl xas <| nl <| ?_
      refine lq m (Nat.lt_succ_self _) <| ?_
      exact ⟨_, _, _, _, hB1, rfl, l5_i1, o3, rfl, l2_i1, k4⟩
    ·
      have hB1 := ifn hB1 h3
      refine wp_exit <| ?_
      cases hB1
      refine lf <| ?_
      exact ⟨_, l5_i1, O5_i1, K0_i1⟩
  rintro L w5 ⟨v4, l5_j1, O5_j1, K0_j1⟩
  have k5 := hx1.tr K0_j1
  have hz := RV.sl O5_j1.rv; obtain ⟨a4, cq4, rfl, -, -, -⟩ := hz
  refine wp_seq <| rg <| vl rfl rfl xmv <| vl rfl rfl xas <| nl <| ?_
  cases hF
  exact wp_ret <| rt rfl (.tmp l5_j1 rfl .nil) ⟨_, rfl, O5_j1.rv, k5⟩

set_option maxHeartbeats 4000000 in
theorem c60 {w0 : World} {v0 : Value} {x0 : ((List Int) × (List ((List Int) × (List Int))))} (r0 : RV w0 v0 x0) {v1 : Value} {x1 : (List Int)} (r1 : RV w0 v1 x1) {F : Nat} {r : (List Int)} (hF : ref11_Far F x0 x1 = some r) :
    Calls Try.prog 60 [v0, v1].toArray w0 (Ret fun v w' => ∃ u0 : Value, v = u0 ∧ RV w' u0 r ∧ Ext w0 w') := by
  unfold ref11_Far at hF
  have hz := id r0; obtain ⟨_, rfl, ⟨_, _, rfl, ⟨a1, cq1, rfl, p1, q3, e1⟩, ⟨a2, cq2, rfl, p2, q4, e2⟩⟩⟩ := hz
  have r3 := RV.of1 p1 q3 e1
  have r4 := RV.of1 p2 q4 e2
  have hz := r1.sl; obtain ⟨a3, cq3, rfl, -, -, -⟩ := hz
  refine entr (n := 79) Try.func60 rfl rfl rfl <| wp_seq <| rg <| sbx rfl rfl fun b3 w1 hx1 hg1 hb1 => ?_
  have r5 := r1.ext hx1
  have r6 := r3.ext hx1
  have r7 := r4.ext hx1
  have r8 := r0.ext hx1
  refine vl rfl rfl xas <| nl <| wp_seq <| rg <| vl rfl rfl (xlda rfl ti25 rfl (Bx.cs hb1)) <| ?_
  have hz := bs hF; obtain ⟨x3, Ex3, hF⟩ := hz
  refine cl rfl rfl (xc cb57 (mc rfl mn)) (c57 (show RV (α := ((List Int) × (List ((List Int) × (List Int))))) _ (.agg [.slice a1 x0.1.length cq1, .slice a2 x0.2.length cq2].toArray) (x0.1, x0.2) from ⟨_, rfl, ⟨[.slice a1 x0.1.length cq1], [.slice a2 x0.2.length cq2], rfl, r6.rep1, r7.rep1⟩⟩) Ex3) ?_
  rintro _ w2 ⟨rfl, hx2⟩
  have k1 := hx1.tr hx2
  have hb2 := hb1.ext hx2
  have r9 := r6.ext hx2
  have r10 := r7.ext hx2
  have r11 := r5.ext hx2
  have hz := bs hF; obtain ⟨x4, Ex4, hF⟩ := hz
  refine smks (α := Int) (z0 := 0) rfl rfl Try.underlying26 ti3 rfl rfl rfl Ex4 fun b4 w3 hx3 o1 => ?_
  have k2 := k1.tr hx3
  have hb3 := hb2.ext hx3
  have r12 := r9.ext hx3
  have r13 := r10.ext hx3
  have r14 := r11.ext hx3
  refine vl rfl rfl xas <| nl <| wp_seq <| wp_seq <| rg <| vl rfl rfl xas <| nl <| ?_
  have hz := bs hF; obtain ⟨z1, hB1, hF⟩ := hz
  refine ct (fun L w => ∃ v4 : Value, L 5 = v4 ∧ Row 3 w2.heap.size w v4 z1 ∧ L 1 = .slice a3 x1.length cq3 ∧ L 2 = .pointer (some ⟨b3, 0, none⟩) ∧ Ext w2 w) ?_ ?_
  ·
    refine wp_block <| lp (I := fun m L w => ∃ y1 : (List Int), ∃ y2 : Int, ∃ v3 : Value, ref11_Far_l1 F m y1 y2  = some z1 ∧ L 5 = v3 ∧ Row 3 w2.heap.size w v3 y1 ∧ L 6 = .int .i64 y2 ∧ L 1 = .slice a3 x1.length cq3 ∧ L 2 = .pointer (some ⟨b3, 0, none⟩) ∧ Ext w2 w) F ⟨_, _, _, hB1, rfl, o1, rfl, rfl, rfl, hx3⟩ ?_
    rintro m L w4 ⟨y1, y2, v3, hB1, l5_i1, O5_i1, l6_i1, l1_i1, l2_i1, K0_i1⟩
    rcases m with _ | m
    · rw [ref11_Far_l1] at hB1; cases hB1
    rw [ref11_Far_l1] at hB1
    have k3 := k1.tr K0_i1
    have r15 := r11.ext K0_i1
    have r16 := r9.ext K0_i1
    have r17 := r10.ext K0_i1
    have hb4 := hb2.ext K0_i1
    have hz := RV.sl O5_i1.rv; obtain ⟨a4, cq4, rfl, -, -, -⟩ := hz
    refine wp_seq <| wp_seq <| rg <| vl rfl rfl xmv <| vl rfl rfl xmv <| vl rfl rfl (xlen l5_i1 Try.underlying26) <| vl rfl rfl (xlss l6_i1 rfl) <| nl <| cnd rfl (fun h3 => ?_) (fun h3 => ?_)
    ·
      have hB1 := ifp hB1 h3
      refine wp_skip <| wp_seq <| wp_block <| rg <| vl rfl rfl xmv <| vl rfl rfl xmv <| ?_
      have hz := bs hB1; obtain ⟨x5, Ex5, hB1⟩ := hz
      have hz := (RV.els O5_i1.rv).ix Ex5; obtain ⟨b5, f1, cs3, e3, i2, i3, q5, hc1⟩ := hz
      cases e3
      obtain rfl := q5
      refine vl rfl rfl (xixs l5_i1 l6_i1 Try.underlying26 ti3 i2 i3) <| sstr (l := y1) (v := (-1)) rfl rfl rfl ti3 O5_i1 Ex5 fun w5 hch1 o3 => ?_
      have k4 := Ext.chg k3 hch1 (Nat.le_trans k1.size (Row.ge O5_i1))
      have k5 := Ext.chg K0_i1 hch1 (Nat.le_trans (Nat.le_refl _) (Row.ge O5_i1))
      have hb5 := hb2.ext k5
      have r18 := r9.ext k5
      have r19 := r10.ext k5
      have r20 := r11.ext k5
      refine nl <| rg <| vl rfl rfl xmv <| vl rfl rfl (xadd l6_i1 rfl) <| vl rfl rfl xas <| nl <| ?_
      refine lq m (Nat.lt_succ_self _) <| ?_
      exact ⟨_, _, _, hB1, l5_i1, o3, rfl, l1_i1, l2_i1, k5⟩
    ·
      have hB1 := ifn hB1 h3
      refine wp_exit <| ?_
      cases hB1
      refine lf <| ?_
      exact ⟨_, l5_i1, O5_i1, l1_i1, l2_i1, K0_i1⟩
  rintro L w6 ⟨v4, l5_j1, O5_j1, l1_j1, l2_j1, K0_j1⟩
  have k6 := k1.tr K0_j1
  have r21 := r11.ext K0_j1
  have r22 := r9.ext K0_j1
  have r23 := r10.ext K0_j1
  have hb6 := hb2.ext K0_j1
  have hz := RV.sl O5_j1.rv; obtain ⟨a5, cq5, rfl, -, -, -⟩ := hz
  refine wp_seq <| rg <| vl rfl rfl xmv <| vl rfl rfl (xlda l2_j1 ti25 rfl (Bx.cs hb6)) <| vl rfl rfl xmv <| ?_
  have hz := bs hF; obtain ⟨x6, Ex6, hF⟩ := hz
  refine cl rfl rfl (xc cb61 (mc rfl (mc l1_j1 mn))) (c61 (show RV (α := ((List Int) × (List ((List Int) × (List Int))))) _ (.agg [.slice a1 x0.1.length cq1, .slice a2 x0.2.length cq2].toArray) (x0.1, x0.2) from ⟨_, rfl, ⟨[.slice a1 x0.1.length cq1], [.slice a2 x0.2.length cq2], rfl, r22.rep1, r23.rep1⟩⟩) r21 Ex6) ?_
  rintro _ w7 ⟨rfl, hx4⟩
  have k7 := k6.tr hx4
  have k8 := K0_j1.tr hx4
  have hb7 := hb6.ext hx4
  have r24 := r22.ext hx4
  have r25 := r23.ext hx4
  have O1 := O5_j1.ext hx4
  have hz := bs hF; obtain ⟨x7, Ex7, hF⟩ := hz
  have hz := (RV.els O1.rv).ix Ex7; obtain ⟨b6, f2, cs4, e4, i4, i5, q6, hc2⟩ := hz
  cases e4
  obtain rfl := q6
  refine vl rfl rfl (xixs l5_j1 rfl Try.underlying26 ti3 i4 i5) <| sstr (l := z1) (v := 0) rfl rfl rfl ti3 O1 Ex7 fun w8 hch2 o4 => ?_
  have k9 := Ext.chg k7 hch2 (Nat.le_trans k1.size (Row.ge O1))
  have k10 := Ext.chg k8 hch2 (Nat.le_trans (Nat.le_refl _) (Row.ge O1))
  have hb8 := hb2.ext k10
  have r26 := r9.ext k10
  have r27 := r10.ext k10
  refine nl <| wp_seq <| wp_seq <| rg <| vl rfl rfl xas <| vl rfl rfl xas <| nl <| ?_
  have hz := bs hF; obtain ⟨z2, hB4, hF⟩ := hz
  refine ct (fun L w => ∃ v6 : Value, L 5 = v6 ∧ Row 3 w2.heap.size w v6 z2 ∧ Ext w2 w) ?_ ?_
  ·
    refine wp_block <| lp (I := fun m L w => ∃ y3 : (List Int), ∃ y4 : Int, ∃ y5 : Bool, ∃ v5 : Value, ref11_Far_l2 F x0 m y3 y4 y5  = some z2 ∧ L 5 = v5 ∧ Row 3 w2.heap.size w v5 y3 ∧ L 7 = .int .i64 y4 ∧ L 8 = .bool y5 ∧ L 2 = .pointer (some ⟨b3, 0, none⟩) ∧ Ext w2 w) F ⟨_, _, _, _, hB4, l5_j1, o4, rfl, rfl, l2_j1, k10⟩ ?_
    rintro m L w9 ⟨y3, y4, y5, v5, hB4, l5_i6, O5_i6, l7_i6, l8_i6, l2_i6, K0_i6⟩
    rcases m with _ | m
    · rw [ref11_Far_l2] at hB4; cases hB4
    rw [ref11_Far_l2] at hB4
    have k11 := k1.tr K0_i6
    have r28 := r9.ext K0_i6
    have r29 := r10.ext K0_i6
    have hb9 := hb2.ext K0_i6
    have hz := RV.sl O5_i6.rv; obtain ⟨a6, cq6, rfl, -, -, -⟩ := hz
    refine wp_seq <| wp_seq <| rg <| vl rfl rfl xmv <| nl <| cnd l8_i6 (fun h4 => ?_) (fun h4 => ?_)
    ·
      have hB4 := ifp hB4 h4
      refine wp_skip <| wp_seq <| wp_block <| wp_seq <| rg <| vl rfl rfl xas <| nl <| wp_seq <| rg <| vl rfl rfl xas <| nl <| ?_
      have hz := bs hB4; obtain ⟨⟨z3, z4⟩, hB6, hB4⟩ := hz
      refine ct (fun L w => ∃ v8 : Value, L 5 = v8 ∧ Row 3 w2.heap.size w v8 z3 ∧ L 8 = .bool z4 ∧ L 2 = .pointer (some ⟨b3, 0, none⟩) ∧ L 7 = .int .i64 y4 ∧ Ext w2 w) ?_ ?_
      ·
        refine wp_block <| lp (I := fun m L w => ∃ y6 : (List Int), ∃ y7 : Bool, ∃ y8 : Int, ∃ v7 : Value, ref11_Far_l3 F x0 y4 m y6 y7 y8  = some (z3, z4) ∧ L 5 = v7 ∧ Row 3 w2.heap.size w v7 y6 ∧ L 8 = .bool y7 ∧ L 9 = .int .i64 y8 ∧ L 2 = .pointer (some ⟨b3, 0, none⟩) ∧ L 7 = .int .i64 y4 ∧ Ext w2 w) F ⟨_, _, _, _, hB6, l5_i6, O5_i6, rfl, rfl, l2_i6, l7_i6, K0_i6⟩ ?_
        rintro m L w10 ⟨y6, y7, y8, v7, hB6, l5_i7, O5_i7, l8_i7, l9_i7, l2_i7, l7_i7, K0_i7⟩
        rcases m with _ | m
        · rw [ref11_Far_l3] at hB6; cases hB6
        rw [ref11_Far_l3] at hB6
        have k12 := k1.tr K0_i7
        have r30 := r9.ext K0_i7
        have r31 := r10.ext K0_i7
        have hb10 := hb2.ext K0_i7
        have hz := RV.sl O5_i7.rv; obtain ⟨a7, cq7, rfl, -, -, -⟩ := hz
        refine wp_seq <| wp_seq <| rg <| vl rfl rfl xmv <| vl rfl rfl xmv <| vl rfl rfl (xlen l5_i7 Try.underlying26) <| vl rfl rfl (xlss l9_i7 rfl) <| nl <| cnd rfl (fun h5 => ?_) (fun h5 => ?_)
        ·
          have hB6 := ifp hB6 h5
          refine wp_skip <| wp_seq <| ?_
          have hz := bs hB6; obtain ⟨⟨y9, y10⟩, hB8, hB6⟩ := hz
          refine ct (fun L w => ∃ v9 : Value, L 5 = v9 ∧ Row 3 w2.heap.size w v9 y9 ∧ L 8 = .bool y10 ∧ L 2 = .pointer (some ⟨b3, 0, none⟩) ∧ L 7 = .int .i64 y4 ∧ L 9 = .int .i64 y8 ∧ Ext w2 w) ?_ ?_
          ·
            refine wp_block <| wp_seq <| wp_seq <| rg <| vl rfl rfl xmv <| vl rfl rfl xmv <| ?_
            have hz := bs hB8; obtain ⟨x8, Ex8, hB8⟩ := hz
            have hz := (RV.els O5_i7.rv).ix Ex8; obtain ⟨b7, f3, cs5, e5, i8, i9, q7, hc3⟩ := hz
            cases e5
            obtain rfl := q7
            refine vl rfl rfl (xixs l5_i7 l9_i7 Try.underlying26 ti3 i8 i9) <| vl rfl rfl (xld rfl ti3 (hc3.at 0 rfl)) <| vl rfl rfl xmv <| vl rfl rfl (xneq rfl l7_i7) <| nl <| cnd rfl (fun h6 => ?_) (fun h6 => ?_)
            ·
              have hB8 := ifp hB8 h6
              refine wp_exit <| ?_
              cases hB8
              refine lf <| ?_
              exact ⟨_, l5_i7, O5_i7, l8_i7, l2_i7, l7_i7, l9_i7, K0_i7⟩
            ·
              have hB8 := ifn hB8 h6
              refine wp_skip <| wp_seq <| rg <| vl rfl rfl xas <| nl <| ?_
              have hz := bs hB8; obtain ⟨⟨z5, z6⟩, hB11, hB8⟩ := hz
              refine ct (fun L w => ∃ v11 : Value, L 5 = v11 ∧ Row 3 w2.heap.size w v11 z5 ∧ L 8 = .bool z6 ∧ L 2 = .pointer (some ⟨b3, 0, none⟩) ∧ L 7 = .int .i64 y4 ∧ L 9 = .int .i64 y8 ∧ Ext w2 w) ?_ ?_
              ·
                refine wp_block <| lp (I := fun m L w => ∃ y11 : (List Int), ∃ y12 : Bool, ∃ y13 : Int, ∃ v10 : Value, ref11_Far_l4 F x0 y4 y8 m y11 y12 y13  = some (z5, z6) ∧ L 5 = v10 ∧ Row 3 w2.heap.size w v10 y11 ∧ L 8 = .bool y12 ∧ L 10 = .int .i64 y13 ∧ L 2 = .pointer (some ⟨b3, 0, none⟩) ∧ L 7 = .int .i64 y4 ∧ L 9 = .int .i64 y8 ∧ Ext w2 w) F ⟨_, _, _, _, hB11, l5_i7, O5_i7, l8_i7, rfl, l2_i7, l7_i7, l9_i7, K0_i7⟩ ?_
                rintro m L w11 ⟨y11, y12, y13, v10, hB11, l5_i10, O5_i10, l8_i10, l10_i10, l2_i10, l7_i10, l9_i10, K0_i10⟩
                rcases m with _ | m
                · rw [ref11_Far_l4] at hB11; cases hB11
                rw [ref11_Far_l4] at hB11
                have k13 := k1.tr K0_i10
                have r32 := r9.ext K0_i10
                have r33 := r10.ext K0_i10
                have hb11 := hb2.ext K0_i10
                have hz := RV.sl O5_i10.rv; obtain ⟨a8, cq8, rfl, -, -, -⟩ := hz
                refine wp_seq <| wp_seq <| rg <| vl rfl rfl xmv <| vl rfl rfl (xfa l2_i10 fa25_1) <| vl rfl rfl (xld rfl ti23 ((Bx.cs hb11).at 1 rfl)) <| vl rfl rfl (xlen rfl Try.underlying23) <| vl rfl rfl (xlss l10_i10 rfl) <| nl <| cnd rfl (fun h7 => ?_) (fun h7 => ?_)
                ·
                  have hB11 := ifp hB11 h7
                  refine wp_skip <| wp_seq <| ?_
                  have hz := bs hB11; obtain ⟨⟨y14, y15⟩, hB13, hB11⟩ := hz
                  refine ct (fun L w => ∃ v12 : Value, L 5 = v12 ∧ Row 3 w2.heap.size w v12 y14 ∧ L 8 = .bool y15 ∧ L 2 = .pointer (some ⟨b3, 0, none⟩) ∧ L 7 = .int .i64 y4 ∧ L 9 = .int .i64 y8 ∧ L 10 = .int .i64 y13 ∧ Ext w2 w) ?_ ?_
                  ·
                    refine wp_block <| wp_seq <| wpl [] (.pure false 0 (.pure false 1 (.pure true 2 (.pure true 4 (.eff 3 (.eff 5 (.pure true 6 (.pure true 7 (.pure true 8 (.pure true 9 (.pure true 10 .fin))))) .stop) .stop))))) mixed (by kernel_rfl) (fun w12 hx5 => ?_)
                    have k14 := k13.tr hx5
                    have k15 := K0_i10.tr hx5
                    have hb12 := hb11.ext hx5
                    have r34 := r32.ext hx5
                    have r35 := r33.ext hx5
                    have O2 := O5_i10.ext hx5
                    refine pv rfl rfl rfl (fun _ hS => xlda l2_i10 ti25 rfl (Bx.cs (hb12.ext (hS.resolve_left nofun)))) (.inr (Ext.refl _)) <| pv rfl rfl rfl (fun _ hS => xlda l2_i10 ti25 rfl (Bx.cs (hb12.ext (hS.resolve_left nofun)))) (.inr (Ext.refl _)) <| pv rfl rfl rfl (fun _ _ => xmv) (.inl rfl) <| pv rfl rfl rfl (fun _ _ => xmv) (.inl rfl) <| ?_
                    have hz := bs hB13; obtain ⟨x9, Ex9, hB13⟩ := hz
                    refine pe1 rfl <| cl rfl rfl (xc cb62 (mc rfl (mc l9_i10 mn))) (c62 (show RV (α := ((List Int) × (List ((List Int) × (List Int))))) _ (.agg [.slice a1 x0.1.length cq1, .slice a2 x0.2.length cq2].toArray) (x0.1, x0.2) from ⟨_, rfl, ⟨[.slice a1 x0.1.length cq1], [.slice a2 x0.2.length cq2], rfl, r34.rep1, r35.rep1⟩⟩) Ex9) ?_
                    rintro _ w13 ⟨u1, rfl, r36, hx6⟩
                    have k16 := k14.tr hx6
                    have k17 := k15.tr hx6
                    have k18 := hx5.tr hx6
                    have hb13 := hb12.ext hx6
                    have r37 := r34.ext hx6
                    have r38 := r35.ext hx6
                    have O3 := O2.ext hx6
                    have hz := RV.sl r36; obtain ⟨a9, cq9, rfl, -, -, -⟩ := hz
                    refine nl ⟨fun _ _ => hx6, ?_⟩
                    have hz := bs hB13; obtain ⟨x10, Ex10, hB13⟩ := hz
                    refine pe1 rfl <| cl rfl rfl (xc cb49 (mc rfl (mc rfl (mc l10_i10 mn)))) (c49 (show RV (α := ((List Int) × (List ((List Int) × (List Int))))) _ (.agg [.slice a1 x0.1.length cq1, .slice a2 x0.2.length cq2].toArray) (x0.1, x0.2) from ⟨_, rfl, ⟨[.slice a1 x0.1.length cq1], [.slice a2 x0.2.length cq2], rfl, r37.rep1, r38.rep1⟩⟩) r36 Ex10) ?_
                    rintro _ w14 ⟨u2, rfl, r39, hx7⟩
                    have k19 := k16.tr hx7
                    have k20 := k17.tr hx7
                    have k21 := k18.tr hx7
                    have k22 := hx6.tr hx7
                    have hb14 := hb13.ext hx7
                    have r40 := r37.ext hx7
                    have r41 := r38.ext hx7
                    have O4 := O3.ext hx7
                    have hz := RV.sl r39; obtain ⟨a10, cq10, rfl, -, -, -⟩ := hz
                    refine nl ⟨fun _ _ => k22, ?_⟩
                    refine pv rfl rfl rfl (fun _ _ => xmv) (.inl rfl) <| pv rfl rfl rfl (fun _ _ => xext rfl rfl) (.inl rfl) <| pv rfl rfl rfl (fun _ _ => xext rfl rfl) (.inl rfl) <| pv rfl rfl rfl (fun _ _ => xas) (.inl rfl) <| pv rfl rfl rfl (fun _ _ => xas) (.inl rfl) <| wp_seq <| ?_
                    have hz := bs hB13; obtain ⟨y16, hB14, hB13⟩ := hz
                    refine ct (fun L w => L 70 = .bool y16 ∧ L 2 = .pointer (some ⟨b3, 0, none⟩) ∧ L 5 = .slice a8 y11.length cq8 ∧ L 7 = .int .i64 y4 ∧ L 8 = .bool y12 ∧ L 9 = .int .i64 y8 ∧ L 10 = .int .i64 y13 ∧ L 11 = .slice a10 x10.1.length cq10 ∧ w2.heap.size ≤ w.heap.size ∧ Ext w14 w) ?_ ?_
                    ·
                      refine rg <| vl rfl rfl xmv <| vl rfl rfl xmv <| ?_
                      refine Or.elim (Bool.eq_false_or_eq_true x10.2) (fun h8 => ?_) (fun h8 => ?_)
                      ·
                        have hB14 := ifp hB14 h8
                        refine gtk rfl rfl rfl rfl rfl (bt h8) <| vl rfl rfl xmv <| gtk rfl rfl rfl rfl rfl (bt h8) <| vl rfl rfl (xlda l2_i10 ti25 rfl (Bx.cs hb14)) <| gtk rfl rfl rfl rfl rfl (bt h8) <| vl rfl rfl xmv <| ?_
                        have hz := bs hB14; obtain ⟨x12, Ex12, hB14⟩ := hz
                        refine gtk rfl rfl rfl rfl rfl (bt h8) <| cl rfl rfl (xc cb61 (mc rfl (mc rfl mn))) (c61 (show RV (α := ((List Int) × (List ((List Int) × (List Int))))) _ (.agg [.slice a1 x0.1.length cq1, .slice a2 x0.2.length cq2].toArray) (x0.1, x0.2) from ⟨_, rfl, ⟨[.slice a1 x0.1.length cq1], [.slice a2 x0.2.length cq2], rfl, r40.rep1, r41.rep1⟩⟩) r39 Ex12) ?_
                        rintro _ w16 ⟨rfl, hx9⟩
                        have k27 := k19.tr hx9
                        have k28 := k20.tr hx9
                        have k29 := k21.tr hx9
                        have k30 := k22.tr hx9
                        have hb16 := hb14.ext hx9
                        have r45 := r40.ext hx9
                        have r46 := r41.ext hx9
                        have O6 := O4.ext hx9
                        have r47 := r39.ext hx9
                        have hz := bs hB14; obtain ⟨x13, Ex13, hB14⟩ := hz
                        have hz := (RV.els O6.rv).ix Ex13; obtain ⟨b8, f4, cs6, e7, i11, i12, q8, hc4⟩ := hz
                        cases e7
                        obtain rfl := q8
                        refine gtk rfl rfl rfl rfl rfl (bt h8) <| vl rfl rfl (xixs l5_i10 rfl Try.underlying26 ti3 i11 i12) <| gtk rfl rfl rfl rfl rfl (bt h8) <| vl rfl rfl (xld rfl ti3 (hc4.at 0 rfl)) <| gtk rfl rfl rfl rfl rfl (bt h8) <| vl rfl rfl (xlss rfl rfl) <| vl rfl rfl (xpt rfl h8 rfl) <| nl <| ?_
                        cases hB14
                        refine lf <| ?_
                        exact ⟨rfl, l2_i10, l5_i10, l7_i10, l8_i10, l9_i10, l10_i10, rfl, k28.size, hx9⟩
                      ·
                        have hB14 := ifn hB14 h8
                        refine gfk rfl rfl rfl rfl rfl (bft h8) rfl <| gfk rfl rfl rfl rfl rfl (bft h8) rfl <| gfk rfl rfl rfl rfl rfl (bft h8) rfl <| gfk rfl rfl rfl rfl rfl (bft h8) rfl <| gfk rfl rfl rfl rfl rfl (bft h8) rfl <| gfk rfl rfl rfl rfl rfl (bft h8) rfl <| gfk rfl rfl rfl rfl rfl (bft h8) rfl <| vl rfl rfl (xpf rfl h8 rfl) <| nl <| ?_
                        cases hB14
                        refine lf <| ?_
                        exact ⟨rfl, l2_i10, l5_i10, l7_i10, l8_i10, l9_i10, l10_i10, rfl, k20.size, (Ext.refl _)⟩
                    rintro L w17 ⟨l70_j2, l2_j2, l5_j2, l7_j2, l8_j2, l9_j2, l10_j2, l11_j2, Z0_j2, K0_j2⟩
                    have k31 := k19.tr K0_j2
                    have k32 := k20.tr K0_j2
                    have k33 := k21.tr K0_j2
                    have k34 := k22.tr K0_j2
                    have r48 := r40.ext K0_j2
                    have r49 := r41.ext K0_j2
                    have hb17 := hb14.ext K0_j2
                    have O7 := O4.ext K0_j2
                    have r50 := r39.ext K0_j2
                    have hz := bs hB13; obtain ⟨⟨y17, y18⟩, hB15, hB13⟩ := hz
                    refine ct (fun L w => ∃ v14 : Value, L 5 = v14 ∧ Row 3 w2.heap.size w v14 y17 ∧ L 8 = .bool y18 ∧ L 2 = .pointer (some ⟨b3, 0, none⟩) ∧ L 7 = .int .i64 y4 ∧ L 9 = .int .i64 y8 ∧ L 10 = .int .i64 y13 ∧ Ext w2 w) ?_ ?_
                    ·
                      refine cnd l70_j2 (fun h9 => ?_) (fun h9 => ?_)
                      ·
                        have hB15 := ifp hB15 h9
                        refine wp_seq <| rg <| vl rfl rfl xmv <| vl rfl rfl (xlda l2_j2 ti25 rfl (Bx.cs hb17)) <| vl rfl rfl xmv <| ?_
                        have hz := bs hB15; obtain ⟨x14, Ex14, hB15⟩ := hz
                        refine cl rfl rfl (xc cb61 (mc rfl (mc l11_j2 mn))) (c61 (show RV (α := ((List Int) × (List ((List Int) × (List Int))))) _ (.agg [.slice a1 x0.1.length cq1, .slice a2 x0.2.length cq2].toArray) (x0.1, x0.2) from ⟨_, rfl, ⟨[.slice a1 x0.1.length cq1], [.slice a2 x0.2.length cq2], rfl, r48.rep1, r49.rep1⟩⟩) r50 Ex14) ?_
                        rintro _ w18 ⟨rfl, hx10⟩
                        have k35 := k31.tr hx10
                        have k36 := k32.tr hx10
                        have k37 := k33.tr hx10
                        have k38 := k34.tr hx10
                        have k39 := K0_j2.tr hx10
                        have zs1 := Nat.le_trans Z0_j2 hx10.size
                        have hb18 := hb17.ext hx10
                        have r51 := r48.ext hx10
                        have r52 := r49.ext hx10
                        have O8 := O7.ext hx10
                        refine vl rfl rfl xmv <| vl rfl rfl (xadd l7_j2 rfl) <| ?_
                        have hz := bs hB15; obtain ⟨x15, Ex15, hB15⟩ := hz
                        have hz := (RV.els O8.rv).ix Ex15; obtain ⟨b9, f5, cs7, e8, i13, i14, q9, hc5⟩ := hz
                        cases e8
                        obtain rfl := q9
                        refine vl rfl rfl (xixs l5_j2 rfl Try.underlying26 ti3 i13 i14) <| sstr (l := y11) (v := w64 (y4 + 1)) rfl rfl rfl ti3 O8 Ex15 fun w19 hch3 o8 => ?_
                        have k40 := Ext.chg k35 hch3 (Nat.le_trans k1.size (Row.ge O8))
                        have k41 := Ext.chg k36 hch3 (Nat.le_trans (Nat.le_refl _) (Row.ge O8))
                        have zs2 := Nat.le_trans zs1 (Nat.le_of_eq hch3.size.symm)
                        have hb19 := hb2.ext k41
                        have r53 := r9.ext k41
                        have r54 := r10.ext k41
                        refine nl <| rg <| vl rfl rfl xas <| nl <| ?_
                        cases hB15
                        refine lf <| ?_
                        exact ⟨_, l5_j2, o8, rfl, l2_j2, l7_j2, l9_j2, l10_j2, k41⟩
                      ·
                        have hB15 := ifn hB15 h9
                        refine wp_skip <| ?_
                        cases hB15
                        refine lf <| ?_
                        exact ⟨_, l5_j2, O7, l8_j2, l2_j2, l7_j2, l9_j2, l10_j2, k32⟩
                    rintro L w20 ⟨v14, l5_j3, O5_j3, l8_j3, l2_j3, l7_j3, l9_j3, l10_j3, K0_j3⟩
                    have k42 := k1.tr K0_j3
                    have r55 := r9.ext K0_j3
                    have r56 := r10.ext K0_j3
                    have hb20 := hb2.ext K0_j3
                    have hz := RV.sl O5_j3.rv; obtain ⟨a11, cq11, rfl, -, -, -⟩ := hz
                    cases hB13
                    refine lf <| ?_
                    exact ⟨_, l5_j3, O5_j3, l8_j3, l2_j3, l7_j3, l9_j3, l10_j3, K0_j3⟩
                  rintro L w21 ⟨v12, l5_j4, O5_j4, l8_j4, l2_j4, l7_j4, l9_j4, l10_j4, K0_j4⟩
                  have k43 := k1.tr K0_j4
                  have r57 := r9.ext K0_j4
                  have r58 := r10.ext K0_j4
                  have hb21 := hb2.ext K0_j4
                  have hz := RV.sl O5_j4.rv; obtain ⟨a12, cq12, rfl, -, -, -⟩ := hz
                  refine rg <| vl rfl rfl xmv <| vl rfl rfl (xadd l10_j4 rfl) <| vl rfl rfl xas <| nl <| ?_
                  refine lq m (Nat.lt_succ_self _) <| ?_
                  exact ⟨_, _, _, _, hB11, l5_j4, O5_j4, l8_j4, rfl, l2_j4, l7_j4, l9_j4, K0_j4⟩
                ·
                  have hB11 := ifn hB11 h7
                  refine wp_exit <| ?_
                  cases hB11
                  refine lf <| ?_
                  exact ⟨_, l5_i10, O5_i10, l8_i10, l2_i10, l7_i10, l9_i10, K0_i10⟩
              rintro L w22 ⟨v11, l5_j5, O5_j5, l8_j5, l2_j5, l7_j5, l9_j5, K0_j5⟩
              have k44 := k1.tr K0_j5
              have r59 := r9.ext K0_j5
              have r60 := r10.ext K0_j5
              have hb22 := hb2.ext K0_j5
              have hz := RV.sl O5_j5.rv; obtain ⟨a13, cq13, rfl, -, -, -⟩ := hz
              cases hB8
              refine lf <| ?_
              exact ⟨_, l5_j5, O5_j5, l8_j5, l2_j5, l7_j5, l9_j5, K0_j5⟩
          rintro L w23 ⟨v9, l5_j6, O5_j6, l8_j6, l2_j6, l7_j6, l9_j6, K0_j6⟩
          have k45 := k1.tr K0_j6
          have r61 := r9.ext K0_j6
          have r62 := r10.ext K0_j6
          have hb23 := hb2.ext K0_j6
          have hz := RV.sl O5_j6.rv; obtain ⟨a14, cq14, rfl, -, -, -⟩ := hz
          refine rg <| vl rfl rfl xmv <| vl rfl rfl (xadd l9_j6 rfl) <| vl rfl rfl xas <| nl <| ?_
          refine lq m (Nat.lt_succ_self _) <| ?_
          exact ⟨_, _, _, _, hB6, l5_j6, O5_j6, l8_j6, rfl, l2_j6, l7_j6, K0_j6⟩
        ·
          have hB6 := ifn hB6 h5
          refine wp_exit <| ?_
          cases hB6
          refine lf <| ?_
          exact ⟨_, l5_i7, O5_i7, l8_i7, l2_i7, l7_i7, K0_i7⟩
      rintro L w24 ⟨v8, l5_j7, O5_j7, l8_j7, l2_j7, l7_j7, K0_j7⟩
      have k46 := k1.tr K0_j7
      have r63 := r9.ext K0_j7
      have r64 := r10.ext K0_j7
      have hb24 := hb2.ext K0_j7
      have hz := RV.sl O5_j7.rv; obtain ⟨a15, cq15, rfl, -, -, -⟩ := hz
      refine rg <| vl rfl rfl xmv <| vl rfl rfl (xadd l7_j7 rfl) <| vl rfl rfl xas <| nl <| ?_
      refine lq m (Nat.lt_succ_self _) <| ?_
      exact ⟨_, _, _, _, hB4, l5_j7, O5_j7, rfl, l8_j7, l2_j7, K0_j7⟩
    ·
      have hB4 := ifn hB4 h4
      refine wp_exit <| ?_
      cases hB4
      refine lf <| ?_
      exact ⟨_, l5_i6, O5_i6, K0_i6⟩
  rintro L w25 ⟨v6, l5_j8, O5_j8, K0_j8⟩
  have k47 := k1.tr K0_j8
  have hz := RV.sl O5_j8.rv; obtain ⟨a16, cq16, rfl, -, -, -⟩ := hz
  refine wp_seq <| rg <| vl rfl rfl xmv <| vl rfl rfl xas <| nl <| ?_
  cases hF
  exact wp_ret <| rt rfl (.tmp l5_j8 rfl .nil) ⟨_, rfl, O5_j8.rv, k47⟩
end Go.Proofs.Ytboefnpnoojfpaa
