/-
  The costs of the cheapest ways between all turns, as the definitions say. Condition: the pure function computes something.
-/
import Derived.Test.YthppacohnciinaaWalkE
import Derived.Test.YthppacohnciinaaMat
namespace Go.Proofs.Ythppacohnciinaa
open Go Go.Md Go.RowKit
attribute [local irreducible] Go.wpList Go.Code.wp Go.Calls Go.Md.Rnd Go.Md.Mt

set_option maxHeartbeats 4000000 in
theorem c62b {w0 : World} {v0 : Value} {x0 : (Int × (List (Int × Int × Int)))} (r0 : RV w0 v0 x0) {F : Nat} {r : (List (Int × Int × Int))} (hF : ref01_All F x0 = some r) :
    Calls Try.prog 62 [v0].toArray w0 (Ret fun v w' => ∃ u0 : Value, v = u0 ∧ Row 56 w0.heap.size w' u0 r ∧ Ext w0 w') := by
  unfold ref01_All at hF
  have hz := id r0; obtain ⟨_, rfl, ⟨_, _, rfl, rfl, ⟨a1, cq1, rfl, p1, q2, e1⟩⟩⟩ := hz
  have r2 := RV.of1 p1 q2 e1
  refine entr (n := 23) Try.func62 rfl rfl rfl <| wp_seq <| rg <| sbx rfl rfl fun b2 w1 hx1 hg1 hb1 => ?_
  have r3 := r2.ext hx1
  have r4 := r0.ext hx1
  refine vl rfl rfl xas <| nl <| wp_seq <| rg <| sbsv (cs := []) Try.underlying22 ti56 rfl pn rfl rfl rfl rfl rfl fun b3 w2 hx2 hg2 hb2 => ?_
  have k1 := hx1.tr hx2
  have hb3 := hb1.ext hx2
  have r5 := r3.ext hx2
  have o1 : Row (α := (Int × Int × Int)) 56 w1.heap.size w2 (.slice (some ⟨b3, 0, none⟩) 0 0) [] := Row.lit hg2 hb2 rfl (ble rfl)
  refine vl rfl rfl (xfa rfl fa24_1) <| vl rfl rfl (xld rfl ti22 ((Bx.cs hb3).at 1 rfl)) <| ?_
  have hz := bs hF; obtain ⟨x2, Ex2, hF⟩ := hz
  refine sapx (l := ([] : List (Int × Int × Int))) (k := x0.2) rfl rfl Try.underlying22 ti56 rfl rfl o1 (RV.els r5) Ex2 hx2.size fun v2 w3 o2 hB1 hgr1 how1 => ?_
  have k2 := Ext.grow k1 hx1.size hB1
  have k3 : Ext w1 w3 := hx2.trans hB1
  have hb4 := hb1.ext k3
  have r7 := r3.ext k3
  have hz := RV.sl o2.rv; obtain ⟨a2, cq2, rfl, -, -, -⟩ := hz
  refine vl rfl rfl xas <| nl <| wp_seq <| wp_seq <| rg <| vl rfl rfl xas <| nl <| ?_
  have hz := bs hF; obtain ⟨z1, hB2, hF⟩ := hz
  refine ct (fun L w => ∃ v4 : Value, L 3 = v4 ∧ Row 56 w1.heap.size w v4 z1 ∧ Ext w1 w) ?_ ?_
  ·
    refine wp_block <| lp (I := fun m L w => ∃ y1 : (List (Int × Int × Int)), ∃ y2 : Int, ∃ v3 : Value, ref01_All_l1 F x0 m y1 y2  = some z1 ∧ L 3 = v3 ∧ Row 56 w1.heap.size w v3 y1 ∧ L 4 = .int .i64 y2 ∧ L 1 = .pointer (some ⟨b2, 0, none⟩) ∧ Ext w1 w) F ⟨_, _, _, hB2, rfl, o2, rfl, rfl, k3⟩ ?_
    rintro m L w4 ⟨y1, y2, v3, hB2, l3_i1, O3_i1, l4_i1, l1_i1, K0_i1⟩
    rcases m with _ | m
    · rw [ref01_All_l1] at hB2; cases hB2
    rw [ref01_All_l1] at hB2
    have k4 := hx1.tr K0_i1
    have r8 := r3.ext K0_i1
    have hb5 := hb1.ext K0_i1
    have hz := RV.sl O3_i1.rv; obtain ⟨a3, cq3, rfl, -, -, -⟩ := hz
    refine wp_seq <| wp_seq <| rg <| vl rfl rfl xmv <| vl rfl rfl (xfa l1_i1 fa24_0) <| vl rfl rfl (xld rfl ti3 ((Bx.cs hb5).at 0 rfl)) <| vl rfl rfl (xleq l4_i1 rfl) <| nl <| cnd rfl (fun h2 => ?_) (fun h2 => ?_)
    ·
      have hB2 := ifp hB2 h2
      refine wp_skip <| wp_seq <| wp_block <| rg <| vl rfl rfl xmv <| vl rfl rfl xmv <| vl rfl rfl (xbdv (r := [.int .i64 0, .int .i64 y2, .int .i64 100000]) ti56 sp56 (pc rfl (pc l4_i1 (pc rfl pn))) rfl) <| vl rfl rfl xmv <| vl rfl rfl (xbdv (r := [.int .i64 y2, .int .i64 0, .int .i64 0]) ti56 sp56 (pc l4_i1 (pc rfl (pc rfl pn))) rfl) <| sbsv (cs := [.int .i64 0, .int .i64 y2, .int .i64 100000, .int .i64 y2, .int .i64 0, .int .i64 0]) Try.underlying22 ti56 rfl (pc rfl (pc rfl pn)) rfl rfl rfl rfl rfl fun b4 w5 hx3 hg3 hb6 => ?_
      have k5 := k4.tr hx3
      have k6 := K0_i1.tr hx3
      have hb7 := hb5.ext hx3
      have r9 := r8.ext hx3
      have O1 := O3_i1.ext hx3
      have o4 : Row (α := (Int × Int × Int)) 56 w4.heap.size w5 (.slice (some ⟨b4, 0, none⟩) 2 2) [(0, y2, 100000), (y2, 0, 0)] := Row.lit hg3 hb6 rfl (ble rfl)
      have hz := bs hB2; obtain ⟨x3, Ex3, hB2⟩ := hz
      refine sapx (l := y1) (k := ([(0, y2, 100000), (y2, 0, 0)] : List (Int × Int × Int))) l3_i1 rfl Try.underlying22 ti56 rfl rfl O1 (RV.els o4.rv) Ex3 k6.size fun v5 w6 o5 hB4 hgr2 how2 => ?_
      have k7 := Ext.grow k5 hx1.size hB4
      have k8 : Ext w1 w6 := k6.trans hB4
      have hb8 := hb1.ext k8
      have r11 := r3.ext k8
      have hz := RV.sl o5.rv; obtain ⟨a4, cq4, rfl, -, -, -⟩ := hz
      refine vl rfl rfl xas <| nl <| rg <| vl rfl rfl xmv <| vl rfl rfl (xadd l4_i1 rfl) <| vl rfl rfl xas <| nl <| ?_
      refine lq m (Nat.lt_succ_self _) <| ?_
      exact ⟨_, _, _, hB2, rfl, o5, rfl, l1_i1, k8⟩
    ·
      have hB2 := ifn hB2 h2
      refine wp_exit <| ?_
      cases hB2
      refine lf <| ?_
      exact ⟨_, l3_i1, O3_i1, K0_i1⟩
  rintro L w7 ⟨v4, l3_j1, O3_j1, K0_j1⟩
  have k9 := hx1.tr K0_j1
  have hz := RV.sl O3_j1.rv; obtain ⟨a5, cq5, rfl, -, -, -⟩ := hz
  refine wp_seq <| rg <| vl rfl rfl xmv <| vl rfl rfl xas <| nl <| ?_
  cases hF
  exact wp_ret <| rt rfl (.tmp l3_j1 rfl .nil) ⟨_, rfl, O3_j1.bnd hx1.size, k9⟩

def ref01_Far_l2 (n : Int) : Nat → List Int → Int → Option (List Int)
  | 0, _, _ => none
  | m + 1, y, k => if (decide (k < n)) = true then (app 8 y [1099511627776]) >>= fun x => ref01_Far_l2 n m x (w64 (k + 1)) else some y
def ref01_Far_l1 (F : Nat) (n : Int) : Nat → List (List Int) → Int → Option (List (List Int))
  | 0, _, _ => none
  | m + 1, M, i => if (decide (i < n)) = true then (ref01_Far_l2 n F [] 0) >>= fun row => (ix row i) >>= fun _ => (app 24 M [rset row i 0]) >>= fun M' => ref01_Far_l1 F n m M' (w64 (i + 1)) else some M
def ref01_Far_l3 (all : List (Int × Int × Int)) : Nat → List (List Int) → Int → Option (List (List Int))
  | 0, _, _ => none
  | m + 1, M, i => if (decide (i < (all.length : Int))) = true then (ix all i) >>= fun r => (ix M r.1) >>= fun row => (ix row r.2.1) >>= fun a => ref01_Far_l3 all m (rset M r.1 (rset row r.2.1 (if r.2.2 < a then r.2.2 else a))) (w64 (i + 1)) else some M
def ref01_Far_mm (c s : Int) : Int := if (if s < c then s else c) > -1099511627776 then (if s < c then s else c) else -1099511627776
def ref01_Far_l6 (n h i : Int) : Nat → List (List Int) → Int → Option (List (List Int))
  | 0, _, _ => none
  | m + 1, M, k =>
    if (decide (k < n)) = true then
      (ix M i) >>= fun ri => (ix ri h) >>= fun a =>
      if (decide (a < 1099511627776)) = true then
        (ix M h) >>= fun rh => (ix rh k) >>= fun b =>
        if (decide (b < 1099511627776)) = true then (ix ri k) >>= fun c => ref01_Far_l6 n h i m (rset M i (rset ri k (ref01_Far_mm c (w64 (a + b))))) (w64 (k + 1))
        else ref01_Far_l6 n h i m M (w64 (k + 1))
      else ref01_Far_l6 n h i m M (w64 (k + 1))
    else some M
def ref01_Far_l5 (F : Nat) (n h : Int) : Nat → List (List Int) → Int → Option (List (List Int))
  | 0, _, _ => none
  | m + 1, M, i => if (decide (i < n)) = true then (ref01_Far_l6 n h i F M 0) >>= fun M' => ref01_Far_l5 F n h m M' (w64 (i + 1)) else some M
def ref01_Far_l4 (F : Nat) (n : Int) : Nat → List (List Int) → Int → Option (List (List Int))
  | 0, _, _ => none
  | m + 1, M, h => if (decide (h < n)) = true then (ref01_Far_l5 F n h F M 0) >>= fun M' => ref01_Far_l4 F n m M' (w64 (h + 1)) else some M
def ref01_Far (F : Nat) (x0 : Int × List (Int × Int × Int)) : Option (List (List Int)) :=
  (ref01_Far_l1 F (w64 (x0.1 + 1)) F [] 0) >>= fun M => (ref01_All F (x0.1, x0.2)) >>= fun all => (ref01_Far_l3 all F M 0) >>= fun M2 => ref01_Far_l4 F (w64 (x0.1 + 1)) F M2 0

set_option maxHeartbeats 4000000 in
theorem c51 {w0 : World} {v0 : Value} {x0 : Int × List (Int × Int × Int)} (r0 : RV w0 v0 x0) {F : Nat} {r : List (List Int)} (hF : ref01_Far F x0 = some r) :
    Calls Try.prog 51 [v0].toArray w0 (Ret fun v w' => ∃ u0 : Value, v = u0 ∧ RV w' u0 r ∧ Ext w0 w') := by
  unfold ref01_Far at hF
  have hz := id r0; obtain ⟨_, rfl, ⟨_, _, rfl, rfl, ⟨a1, c1, rfl, p1, q2, e1⟩⟩⟩ := hz
  have r2 := RV.of1 p1 q2 e1
  have hz := bs hF; obtain ⟨M1, hM1, hF⟩ := hz
  have hz := bs hF; obtain ⟨all, hall, hF⟩ := hz
  have hz := bs hF; obtain ⟨M2, hM2, hF⟩ := hz
  generalize hn : w64 (x0.1 + 1) = n at hM1 hF
  refine entr (n := 133) Try.func51 rfl rfl rfl <| wp_seq <| rg <| sbx rfl rfl fun b2 w1 hx1 hg1 hb1 => ?_
  have r3 := r2.ext hx1
  have hbl := hb1.lt
  refine vl rfl rfl xas <| nl <| wp_seq <| rg <| vl rfl rfl (xfa rfl fa24_0) <| vl rfl rfl (xld rfl ti3 ((Bx.cs hb1).at 0 rfl)) <| vl rfl rfl (xadd rfl rfl) <| vl rfl rfl xas <| nl <| wp_seq <| rg <| vl rfl rfl xas <| nl <| wp_seq <| ?_
  refine ct (fun L w => ∃ v, L 4 = v ∧ Mat 32 2 w1.heap.size w v M1 ∧ L 1 = .pointer (some ⟨b2, 0, none⟩) ∧ L 3 = .int .i64 n ∧ Ext w1 w) ?_ ?_
  · -- the rows are made
    refine wp_seq <| rg <| vl rfl rfl xas <| nl <| wp_block <| lp (I := fun m L w => ∃ M i v, ref01_Far_l1 F n m M i = some M1 ∧ L 4 = v ∧ Mat 32 2 w1.heap.size w v M ∧ L 5 = .int .i64 i ∧ L 1 = .pointer (some ⟨b2, 0, none⟩) ∧ L 3 = .int .i64 n ∧ Ext w1 w) F
      ⟨_, _, _, hM1, rfl, Mat.nil, rfl, rfl, (by rw [← hn]; rfl), Ext.refl _⟩ ?_
    rintro m L w2 ⟨M, i, v, hB, l4, hM, l5, l1, l3, k2⟩
    rcases m with _ | m
    · rw [ref01_Far_l1] at hB; cases hB
    rw [ref01_Far_l1] at hB
    refine wp_seq <| wp_seq <| rg <| vl rfl rfl (xmva l5) <| vl rfl rfl (xmva l3) <| vl rfl rfl (xlss rfl rfl) <| nl <| cnd rfl (fun h => ?_) (fun h => ?_)
    · have hB := ifp hB h
      have hz := bs hB; obtain ⟨row, hrow, hB⟩ := hz
      have hz := bs hB; obtain ⟨y0, Ey, hB⟩ := hz
      have hz := bs hB; obtain ⟨M', EM, hB⟩ := hz
      refine wp_skip <| wp_seq <| wp_block <| wp_seq <| rg <| vl rfl rfl xas <| nl <| wp_seq <| ?_
      refine ct (fun L w => ∃ v6, L 6 = v6 ∧ Row (α := Int) 2 w2.heap.size w v6 row ∧ L 4 = v ∧ L 5 = .int .i64 i ∧ L 1 = .pointer (some ⟨b2, 0, none⟩) ∧ L 3 = .int .i64 n ∧ Ext w2 w) ?_ ?_
      · refine wp_seq <| rg <| vl rfl rfl xas <| nl <| wp_block <| lp (I := fun m L w => ∃ y k v6, ref01_Far_l2 n m y k = some row ∧ L 6 = v6 ∧ Row (α := Int) 2 w2.heap.size w v6 y ∧ L 7 = .int .i64 k ∧ L 4 = v ∧ L 5 = .int .i64 i ∧ L 1 = .pointer (some ⟨b2, 0, none⟩) ∧ L 3 = .int .i64 n ∧ Ext w2 w) F
          ⟨_, _, _, hrow, rfl, Row.nil, rfl, l4, l5, l1, l3, Ext.refl _⟩ ?_
        rintro m L w3 ⟨y, k, v6, hB, l6, hr, l7, l4, l5, l1, l3, k3⟩
        rcases m with _ | m
        · rw [ref01_Far_l2] at hB; cases hB
        rw [ref01_Far_l2] at hB
        refine wp_seq <| wp_seq <| rg <| vl rfl rfl (xmva l7) <| vl rfl rfl (xmva l3) <| vl rfl rfl (xlss rfl rfl) <| nl <| cnd rfl (fun h => ?_) (fun h => ?_)
        · have hB := ifp hB h
          have hz := bs hB; obtain ⟨y', Ey', hB⟩ := hz
          refine wp_skip <| wp_seq <| wp_block <| rg <| vl rfl rfl (xmva l6) <| sbsv (cs := [.int .i64 1099511627776]) Try.underlying32 ti2 rfl (pc rfl pn) rfl rfl rfl rfl rfl fun b5 w4 hx4 hg4 hb4 => ?_
          have o1 : Row (α := Int) 2 w3.heap.size w4 (.slice (some ⟨b5, 0, none⟩) 1 1) [1099511627776] := Row.lit hg4 hb4 rfl (ble rfl)
          have k4 := k3.tr hx4
          refine sapx (l := y) (k := [1099511627776]) rfl rfl Try.underlying32 ti2 rfl rfl (hr.ext hx4) (RV.els o1.rv) Ey' k4.size fun v2 w5 o5 hB5 _ _ => ?_
          refine vl rfl rfl xas <| nl <| rg <| vl rfl rfl (xmva l7) <| vl rfl rfl (xadd rfl rfl) <| vl rfl rfl xas <| nl <| ?_
          exact lq m (Nat.lt_succ_self _) ⟨_, _, _, hB, rfl, o5, rfl, l4, l5, l1, l3, k4.trans hB5⟩
        · have hB := ifn hB h
          cases hB
          exact wp_exit <| lf ⟨_, l6, hr, l4, l5, l1, l3, k3⟩
      rintro L w3 ⟨v6, l6, hr, l4, l5, l1, l3, k3⟩
      have hz := RV.sl hr.rv; obtain ⟨a6, c6, rfl, -, -, -⟩ := hz
      have hz := (RV.els hr.rv).ix Ey; obtain ⟨b6, f6, cs6, rfl, i1, i2, -, -⟩ := hz
      refine wp_seq <| rg <| vl rfl rfl (xmva l6) <| vl rfl rfl (xmva l5) <| vl rfl rfl (xixs rfl rfl Try.underlying32 ti2 i1 i2) <| sstr (l := row) (i := i) (v := 0) rfl rfl rfl ti2 hr Ey fun w4 hch4 hr4 => ?_
      have hgb : w2.heap.size ≤ b6 := (hr.lt b6 rfl).1
      have k4 : Ext w2 w4 := k3.chg hch4 hgb
      obtain ⟨S, hS⟩ := hM
      have hS4 : MatS 32 2 w1.heap.size w4 v S M := ⟨hS.own.ext k4, hS.len, fun i s r h1 h2 => (hS.row i s r h1 h2).ext k4, hS.dif, hS.out⟩
      refine nl <| rg <| vl rfl rfl (xmva l4) <| vl rfl rfl (xmva l6) <| sbsv (cs := [.slice (some ⟨b6, f6, none⟩) row.length c6]) Try.underlying53 ti32 rfl (pc rfl pn) rfl rfl rfl rfl rfl fun b5 w5 hx5 hg5 hb5 => ?_
      have k5 := k4.tr hx5
      have hS5 : MatS 32 2 w1.heap.size w5 v S M := ⟨hS4.own.ext hx5, hS.len, fun i s r h1 h2 => (hS4.row i s r h1 h2).ext hx5, hS.dif, hS.out⟩
      have hr5 := hr4.ext hx5
      have os : Row (α := SV) 32 w4.heap.size w5 (.slice (some ⟨b5, 0, none⟩) 1 1) [⟨some ⟨b6, f6, none⟩, row.length, c6⟩] := Row.lit hg5 hb5 rfl (ble rfl)
      have hz := app_spec EM; obtain ⟨hbnd, rfl⟩ := hz
      have EM' : app 24 S [(⟨some ⟨b6, f6, none⟩, row.length, c6⟩ : SV)] = some (S ++ [⟨some ⟨b6, f6, none⟩, row.length, c6⟩]) := by
        unfold app
        rw [if_pos (by simpa [hS.len] using hbnd)]
      refine sapx (l := S) (k := [⟨some ⟨b6, f6, none⟩, row.length, c6⟩]) rfl rfl Try.underlying53 ti32 rfl rfl hS5.own (RV.els os.rv) EM' (Nat.le_trans k2.size k5.size) fun v2 w6 o6 hB6 hg6 how6 => ?_
      have hS6 := hS5.snoc (s := ⟨some ⟨b6, f6, none⟩, row.length, c6⟩) (r := rset row i 0) (b2 := w2.heap.size) hr5 k2.size (fun j t hj g hg => by
        have hM : M[j]? = some (M[j]'(by rw [← hS.len]; exact (List.getElem?_eq_some_iff.1 hj).1)) := List.getElem?_eq_getElem _
        exact ((hS.row j t _ hj hM).lt g hg).2) (fun g hg => (hS.own.lt g hg).2) hg6 o6 how6
      refine vl rfl rfl xas <| nl <| rg <| vl rfl rfl (xmva l5) <| vl rfl rfl (xadd rfl rfl) <| vl rfl rfl xas <| nl <| ?_
      exact lq m (Nat.lt_succ_self _) ⟨_, _, _, hB, rfl, ⟨_, hS6⟩, rfl, l1, l3, (k2.tr k5).grow (Nat.le_refl _) hB6⟩
    · have hB := ifn hB h
      cases hB
      exact wp_exit <| lf ⟨_, l4, hM, l1, l3, k2⟩
  rintro L w3 ⟨v, l4, hM, l1, l3, k3⟩
  have r4 := r3.ext k3
  have hb3 := hb1.ext k3
  have hz := Mat.sl hM; obtain ⟨am, cm, rfl⟩ := hz
  obtain ⟨S, hS⟩ := hM
  refine wp_seq <| rg <| vl rfl rfl (xlda l1 ti24 rfl (Bx.cs hb3)) <| cl rfl rfl (xc cb62 (mc rfl mn)) (c62b (show RV (α := (Int × (List (Int × Int × Int)))) _ (.agg [.int .i64 x0.1, .slice a1 x0.2.length c1].toArray) (x0.1, x0.2) from ⟨_, rfl, ⟨[.int .i64 x0.1], [.slice a1 x0.2.length c1], rfl, rfl, r4.rep1⟩⟩) hall) ?_
  rintro _ w4 ⟨u1, rfl, ra, hx4⟩
  have k4 := k3.tr hx4
  have hz := RV.sl ra.rv; obtain ⟨aa, ca, rfl, -, -, -⟩ := hz
  have hS4 : MatS 32 2 w1.heap.size w4 (.slice am M1.length cm) S M1 := ⟨hS.own.ext hx4, hS.len, fun i s r h1 h2 => (hS.row i s r h1 h2).ext hx4, hS.dif, hS.out⟩
  have hlt : ∀ (M : List (List Int)), M.length = M1.length → ∀ (i : Nat) (s : SV), S[i]? = some s → ∀ g, s.val.ownBlock = some g → g < w3.heap.size := fun M _ i s hs g hg => by
    have hM : M1[i]? = some (M1[i]'(by rw [← hS.len]; exact (List.getElem?_eq_some_iff.1 hs).1)) := List.getElem?_eq_getElem _
    exact ((hS.row i s _ hs hM).lt g hg).2
  have hge : ∀ (i : Nat) (s : SV), S[i]? = some s → ∀ g, s.val.ownBlock = some g → w1.heap.size ≤ g := fun i s hs g hg => by
    have hM : M1[i]? = some (M1[i]'(by rw [← hS.len]; exact (List.getElem?_eq_some_iff.1 hs).1)) := List.getElem?_eq_getElem _
    exact ((hS.row i s _ hs hM).lt g hg).1
  refine vl rfl rfl xas <| nl <| wp_seq <| ?_
  refine ct (fun L w => L 4 = .slice am M1.length cm ∧ MatS 32 2 w1.heap.size w (.slice am M1.length cm) S M2 ∧ L 3 = .int .i64 n ∧ Ext w1 w) ?_ ?_
  · -- the rules
    refine wp_seq <| rg <| vl rfl rfl xas <| nl <| wp_block <| lp (I := fun m L w => ∃ M i, ref01_Far_l3 all m M i = some M2 ∧ L 4 = .slice am M1.length cm ∧ MatS 32 2 w1.heap.size w (.slice am M1.length cm) S M ∧ L 9 = .int .i64 i ∧ L 8 = .slice aa all.length ca ∧ Row (α := Int × Int × Int) 56 w3.heap.size w (.slice aa all.length ca) all ∧ L 3 = .int .i64 n ∧ Ext w1 w) F
      ⟨_, _, hM2, l4, hS4, rfl, rfl, ra, l3, k4⟩ ?_
    rintro m L w5 ⟨M, i, hB, l4, hM, l9, l8, ra, l3, k5⟩
    rcases m with _ | m
    · rw [ref01_Far_l3] at hB; cases hB
    rw [ref01_Far_l3] at hB
    refine wp_seq <| wp_seq <| rg <| vl rfl rfl (xmva l9) <| vl rfl rfl (xmva l8) <| vl rfl rfl (xlen rfl Try.underlying22) <| vl rfl rfl (xlss rfl rfl) <| nl <| cnd rfl (fun h => ?_) (fun h => ?_)
    · have hB := ifp hB h
      have hz := bs hB; obtain ⟨rr, Er, hB⟩ := hz
      have hz := bs hB; obtain ⟨row, Em, hB⟩ := hz
      have hz := bs hB; obtain ⟨a, Ea, hB⟩ := hz
      have hz := (RV.els ra.rv).ix Er; obtain ⟨br, fr', csr, rfl, i1, i2, qr, hcr⟩ := hz
      obtain ⟨_, _, rfl, rfl, ⟨_, _, rfl, rfl, rfl⟩⟩ := qr
      refine wp_skip <| wp_seq <| wp_block <| wp_seq <| rg <| vl rfl rfl (xmva l8) <| vl rfl rfl (xmva l9) <| vl rfl rfl (xixs rfl rfl Try.underlying22 ti56 i1 i2) <| vl rfl rfl (xlda rfl ti56 rfl hcr) <| sal ti56 fun b10 w6 hx6 hg6 hb6 => ?_
      refine sst rfl rfl rfl ti56 hb6 rfl rfl (ble rfl) fun w7 hch7 hb7 => ?_
      have hx7 : Ext w5 w7 := hx6.chg hch7 hg6
      have hM7 : MatS 32 2 w1.heap.size w7 (.slice am M1.length cm) S M := ⟨hM.own.ext hx7, hM.len, fun i s r h1 h2 => (hM.row i s r h1 h2).ext hx7, hM.dif, hM.out⟩
      refine nl <| wpl [20] (.pure true 0 (.pure true 1 (.pure false 2 (.pure true 3 (.pure false 4 (.pure true 5 (.pure false 6 (.pure true 7 (.pure true 8 (.pure false 9 (.pure true 10 (.pure false 11 (.pure true 12 (.pure false 13 (.pure true 14 (.pure false 15 (.pure true 16 (.pure false 17 (.pure true 18 (.pure true 19 (.eff 20 .fin .stop))))))))))))))))))))) mixed (by kernel_rfl) (fun wd hxd => ?_)
      have hMd : MatS 32 2 w1.heap.size wd (.slice am M1.length cm) S M := ⟨hM7.own.ext hxd, hM.len, fun i s r h1 h2 => (hM7.row i s r h1 h2).ext hxd, hM.dif, hM.out⟩
      have hbd := hb7.ext hxd
      have hz := hMd.at Em; obtain ⟨s, bo, fo, Es, rfl, j1, j2, hcs, hrow⟩ := hz
      have hz := (RV.els (a := s.a) (n := s.len) (cap := s.cap) hrow.rv).ix Ea; obtain ⟨bs', fs', css, esa, j3, j4, qs, hce⟩ := hz
      obtain rfl := qs
      have hsl := (RV.cap (a := s.a) (n := s.len) (cap := s.cap) hrow.rv).1
      have esv : s.val = .slice (some ⟨bs', fs', none⟩) row.length s.cap := by unfold SV.val; rw [esa, hsl]
      rw [esv] at hcs
      have hrow' : Row (α := Int) 2 w1.heap.size wd (.slice (some ⟨bs', fs', none⟩) row.length s.cap) row := by rw [← esv]; exact hrow
      have hown : s.val.ownBlock = some bs' := by rw [esv]; rfl
      have hsi := (ix_spec Es).2.2
      refine pv rfl rfl rfl (fun _ _ => xmva l4) (.inl rfl) <| pv rfl rfl rfl (fun _ _ => xfa rfl fa56_0) (.inl rfl) <| pv rfl rfl rfl (fun _ hS => xld rfl ti3 ((Bx.cs (hbd.ext (hS.resolve_left nofun))).at 0 rfl)) (.inr (Ext.refl _)) <| pv rfl rfl rfl (fun _ _ => xixs rfl rfl Try.underlying53 ti32 j1 j2) (.inl rfl) <| pv rfl rfl rfl (fun _ hS => xld rfl ti32 ((hcs.ext (hS.resolve_left nofun)).at 0 rfl)) (.inr (Ext.refl _)) <| ?_
      refine pv rfl rfl rfl (fun _ _ => xfa rfl fa56_1) (.inl rfl) <| pv rfl rfl rfl (fun _ hS => xld rfl ti3 ((Bx.cs (hbd.ext (hS.resolve_left nofun))).at 1 rfl)) (.inr (Ext.refl _)) <| ?_
      refine pv rfl rfl rfl (fun _ _ => xmva l4) (.inl rfl) <| pv rfl rfl rfl (fun _ _ => xfa rfl fa56_0) (.inl rfl) <| pv rfl rfl rfl (fun _ hS => xld rfl ti3 ((Bx.cs (hbd.ext (hS.resolve_left nofun))).at 0 rfl)) (.inr (Ext.refl _)) <| pv rfl rfl rfl (fun _ _ => xixs rfl rfl Try.underlying53 ti32 j1 j2) (.inl rfl) <| pv rfl rfl rfl (fun _ hS => xld rfl ti32 ((hcs.ext (hS.resolve_left nofun)).at 0 rfl)) (.inr (Ext.refl _)) <| ?_
      refine pv rfl rfl rfl (fun _ _ => xfa rfl fa56_1) (.inl rfl) <| pv rfl rfl rfl (fun _ hS => xld rfl ti3 ((Bx.cs (hbd.ext (hS.resolve_left nofun))).at 1 rfl)) (.inr (Ext.refl _)) <| ?_
      have j4' : rr.2.1 < (row.length : Int) := by rw [← hsl]; exact_mod_cast (by rw [hsl]; exact j4)
      refine pv rfl rfl rfl (fun _ _ => xixs rfl rfl Try.underlying32 ti2 j3 j4) (.inl rfl) <| pv rfl rfl rfl (fun _ hS => xld rfl ti2 ((hce.ext (hS.resolve_left nofun)).at 0 rfl)) (.inr (Ext.refl _)) <| ?_
      refine pv rfl rfl rfl (fun _ _ => xfa rfl fa56_2) (.inl rfl) <| pv rfl rfl rfl (fun _ hS => xld rfl ti2 ((Bx.cs (hbd.ext (hS.resolve_left nofun))).at 2 rfl)) (.inr (Ext.refl _)) <| pv rfl rfl rfl (fun _ _ => xmin rfl rfl) (.inl rfl) <| pv rfl rfl rfl (fun _ _ => xixs rfl rfl Try.underlying32 ti2 j3 j4) (.inl rfl) <| ?_
      refine pe1 rfl <| sstr (l := row) (i := rr.2.1) (v := if rr.2.2 < a then rr.2.2 else a) rfl rfl rfl ti2 hrow' Ea fun w8 hch8 hr8 => ?_
      refine nl ⟨fun h => (h (by decide)).elim, ?_⟩
      have hM8 := hMd.set Es Em hch8 hown (by rw [esv]; exact hr8)
      have hbs := hlt M (by rw [← hM.len, hS.len]) _ _ hsi bs' hown
      have hbs2 := hge _ _ hsi bs' hown
      have ra8 := ((ra.ext hx7).ext hxd).chg hch8 hbs
      have k8 : Ext w1 w8 := ((k5.tr hx7).tr hxd).chg hch8 hbs2
      refine rg <| vl rfl rfl (xmva l9) <| vl rfl rfl (xadd rfl rfl) <| vl rfl rfl xas <| nl <| ?_
      exact lq m (Nat.lt_succ_self _) ⟨_, _, hB, l4, hM8, rfl, l8, ra8, l3, k8⟩
    · have hB := ifn hB h
      cases hB
      exact wp_exit <| lf ⟨l4, hM, l3, k5⟩
  rintro L w5 ⟨l4, hM, l3, k5⟩
  refine wp_seq <| ?_
  refine ct (fun L w => L 4 = .slice am M1.length cm ∧ MatS 32 2 w1.heap.size w (.slice am M1.length cm) S r ∧ Ext w1 w) ?_ ?_
  · refine wp_seq <| rg <| vl rfl rfl xas <| nl <| wp_block <| lp (I := fun m L w => ∃ M h, ref01_Far_l4 F n m M h = some r ∧ L 4 = .slice am M1.length cm ∧ MatS 32 2 w1.heap.size w (.slice am M1.length cm) S M ∧ L 11 = .int .i64 h ∧ L 3 = .int .i64 n ∧ Ext w1 w) F
      ⟨_, _, hF, l4, hM, rfl, l3, k5⟩ ?_
    rintro m L w6 ⟨M, h, hB, l4, hM, l11, l3, k6⟩
    rcases m with _ | m
    · rw [ref01_Far_l4] at hB; cases hB
    rw [ref01_Far_l4] at hB
    refine wp_seq <| wp_seq <| rg <| vl rfl rfl (xmva l11) <| vl rfl rfl (xmva l3) <| vl rfl rfl (xlss rfl rfl) <| nl <| cnd rfl (fun hc => ?_) (fun hc => ?_)
    rotate_left
    · have hB := ifn hB hc
      cases hB
      exact wp_exit <| lf ⟨l4, hM, k6⟩
    have hB := ifp hB hc
    have hz := bs hB; obtain ⟨M3, hM3, hB⟩ := hz
    refine wp_skip <| wp_seq <| ?_
    refine ct (fun L w => L 4 = .slice am M1.length cm ∧ MatS 32 2 w1.heap.size w (.slice am M1.length cm) S M3 ∧ L 11 = .int .i64 h ∧ L 3 = .int .i64 n ∧ Ext w1 w) ?_ ?_
    rotate_left
    · rintro L w7 ⟨l4, hM, l11, l3, k7⟩
      refine rg <| vl rfl rfl (xmva l11) <| vl rfl rfl (xadd rfl rfl) <| vl rfl rfl xas <| nl <| ?_
      exact lq m (Nat.lt_succ_self _) ⟨_, _, hB, l4, hM, rfl, l3, k7⟩
    clear hB
    refine wp_block <| wp_seq <| rg <| vl rfl rfl xas <| nl <| wp_block <| lp (I := fun m L w => ∃ M i, ref01_Far_l5 F n h m M i = some M3 ∧ L 4 = .slice am M1.length cm ∧ MatS 32 2 w1.heap.size w (.slice am M1.length cm) S M ∧ L 11 = .int .i64 h ∧ L 12 = .int .i64 i ∧ L 3 = .int .i64 n ∧ Ext w1 w) F
      ⟨_, _, hM3, l4, hM, l11, rfl, l3, k6⟩ ?_
    rintro m L w7 ⟨M, i, hB, l4, hM, l11, l12, l3, k7⟩
    rcases m with _ | m
    · rw [ref01_Far_l5] at hB; cases hB
    rw [ref01_Far_l5] at hB
    refine wp_seq <| wp_seq <| rg <| vl rfl rfl (xmva l12) <| vl rfl rfl (xmva l3) <| vl rfl rfl (xlss rfl rfl) <| nl <| cnd rfl (fun hc => ?_) (fun hc => ?_)
    rotate_left
    · have hB := ifn hB hc
      cases hB
      exact wp_exit <| lf ⟨l4, hM, l11, l3, k7⟩
    have hB := ifp hB hc
    have hz := bs hB; obtain ⟨M4, hM4, hB⟩ := hz
    refine wp_skip <| wp_seq <| ?_
    refine ct (fun L w => L 4 = .slice am M1.length cm ∧ MatS 32 2 w1.heap.size w (.slice am M1.length cm) S M4 ∧ L 11 = .int .i64 h ∧ L 12 = .int .i64 i ∧ L 3 = .int .i64 n ∧ Ext w1 w) ?_ ?_
    rotate_left
    · rintro L w8 ⟨l4, hM, l11, l12, l3, k8⟩
      refine rg <| vl rfl rfl (xmva l12) <| vl rfl rfl (xadd rfl rfl) <| vl rfl rfl xas <| nl <| ?_
      exact lq m (Nat.lt_succ_self _) ⟨_, _, hB, l4, hM, l11, rfl, l3, k8⟩
    clear hB
    refine wp_block <| wp_seq <| rg <| vl rfl rfl xas <| nl <| wp_block <| lp (I := fun m L w => ∃ M k, ref01_Far_l6 n h i m M k = some M4 ∧ L 4 = .slice am M1.length cm ∧ MatS 32 2 w1.heap.size w (.slice am M1.length cm) S M ∧ L 11 = .int .i64 h ∧ L 12 = .int .i64 i ∧ L 13 = .int .i64 k ∧ L 3 = .int .i64 n ∧ Ext w1 w) F
      ⟨_, _, hM4, l4, hM, l11, l12, rfl, l3, k7⟩ ?_
    rintro m L w8 ⟨M, k, hB, l4, hM, l11, l12, l13, l3, k8⟩
    rcases m with _ | m
    · rw [ref01_Far_l6] at hB; cases hB
    rw [ref01_Far_l6] at hB
    refine wp_seq <| wp_seq <| rg <| vl rfl rfl (xmva l13) <| vl rfl rfl (xmva l3) <| vl rfl rfl (xlss rfl rfl) <| nl <| cnd rfl (fun hc => ?_) (fun hc => ?_)
    rotate_left
    · have hB := ifn hB hc
      cases hB
      exact wp_exit <| lf ⟨l4, hM, l11, l12, l3, k8⟩
    have hB := ifp hB hc
    have hz := bs hB; obtain ⟨ri, Ei, hB⟩ := hz
    have hz := bs hB; obtain ⟨a, Ea, hB⟩ := hz
    have hz := hM.at Ei; obtain ⟨s, bo, fo, Es, rfl, i1, i2, hcs, hrow⟩ := hz
    have hz := (RV.els (a := s.a) (n := s.len) (cap := s.cap) hrow.rv).ix Ea; obtain ⟨b1, f1, css, esa, j1, j2, qs, hca⟩ := hz
    obtain rfl := qs
    have hsl := (RV.cap (a := s.a) (n := s.len) (cap := s.cap) hrow.rv).1
    have esv : s.val = .slice (some ⟨b1, f1, none⟩) ri.length s.cap := by unfold SV.val; rw [esa, hsl]
    rw [esv] at hcs
    have hrow' : Row (α := Int) 2 w1.heap.size w8 (.slice (some ⟨b1, f1, none⟩) ri.length s.cap) ri := by rw [← esv]; exact hrow
    have hown : s.val.ownBlock = some b1 := by rw [esv]; rfl
    have hsi := (ix_spec Es).2.2
    refine wp_skip <| wp_seq <| ?_
    refine ct (fun L w => ∃ M', ref01_Far_l6 n h i m M' (w64 (k + 1)) = some M4 ∧ L 4 = .slice (some ⟨bo, fo, none⟩) M1.length cm ∧ MatS 32 2 w1.heap.size w (.slice (some ⟨bo, fo, none⟩) M1.length cm) S M' ∧ L 11 = .int .i64 h ∧ L 12 = .int .i64 i ∧ L 13 = .int .i64 k ∧ L 3 = .int .i64 n ∧ Ext w1 w) ?_ ?_
    rotate_left
    · rintro L w9 ⟨M', hB, l4, hM, l11, l12, l13, l3, k9⟩
      refine rg <| vl rfl rfl (xmva l13) <| vl rfl rfl (xadd rfl rfl) <| vl rfl rfl xas <| nl <| ?_
      exact lq m (Nat.lt_succ_self _) ⟨_, _, hB, l4, hM, l11, l12, rfl, l3, k9⟩
    refine wp_block <| wp_seq <| rg <| vl rfl rfl (xmva l4) <| vl rfl rfl (xmva l12) <| vl rfl rfl (xixs rfl rfl Try.underlying53 ti32 i1 i2) <| vl rfl rfl (xld rfl ti32 (hcs.at 0 rfl)) <| vl rfl rfl (xmva l11) <| vl rfl rfl (xixs rfl rfl Try.underlying32 ti2 j1 j2) <| vl rfl rfl (xld rfl ti2 (hca.at 0 rfl)) <| vl rfl rfl (xlss rfl rfl) <| vl rfl rfl xmv <| ?_
    rcases Bool.eq_false_or_eq_true (decide (a < 1099511627776)) with hg | hg
    rotate_left
    · have hB := ifn hB hg
      refine gfk rfl rfl rfl rfl rfl (bft hg) rfl <| gfk rfl rfl rfl rfl rfl (bft hg) rfl <| gfk rfl rfl rfl rfl rfl (bft hg) rfl <| gfk rfl rfl rfl rfl rfl (bft hg) rfl <| gfk rfl rfl rfl rfl rfl (bft hg) rfl <| gfk rfl rfl rfl rfl rfl (bft hg) rfl <| gfk rfl rfl rfl rfl rfl (bft hg) rfl <| gfk rfl rfl rfl rfl rfl (bft hg) rfl <| vl rfl rfl (xpf rfl hg rfl) <| nl <| ?_
      refine cnd rfl (fun h => by cases h) (fun _ => wp_skip <| lf ⟨_, hB, l4, hM, l11, l12, l13, l3, k8⟩)
    have hB := ifp hB hg
    have hz := bs hB; obtain ⟨rh, Eh, hB⟩ := hz
    have hz := bs hB; obtain ⟨b, Eb, hB⟩ := hz
    have hz := hM.at Eh; obtain ⟨s2, bo2, fo2, Es2, e2, i3, i4, hcs2, hrow2⟩ := hz
    cases e2
    have hz := (RV.els (a := s2.a) (n := s2.len) (cap := s2.cap) hrow2.rv).ix Eb; obtain ⟨b2', f2, css2, esa2, j3, j4, qs2, hcb⟩ := hz
    obtain rfl := qs2
    have hsl2 := (RV.cap (a := s2.a) (n := s2.len) (cap := s2.cap) hrow2.rv).1
    have esv2 : s2.val = .slice (some ⟨b2', f2, none⟩) rh.length s2.cap := by unfold SV.val; rw [esa2, hsl2]
    rw [esv2] at hcs2
    refine gtk rfl rfl rfl rfl rfl (bt hg) <| vl rfl rfl (xmva l4) <| gtk rfl rfl rfl rfl rfl (bt hg) <| vl rfl rfl (xmva l11) <| gtk rfl rfl rfl rfl rfl (bt hg) <| vl rfl rfl (xixs rfl rfl Try.underlying53 ti32 i3 i4) <| gtk rfl rfl rfl rfl rfl (bt hg) <| vl rfl rfl (xld rfl ti32 (hcs2.at 0 rfl)) <| gtk rfl rfl rfl rfl rfl (bt hg) <| vl rfl rfl (xmva l13) <| gtk rfl rfl rfl rfl rfl (bt hg) <| vl rfl rfl (xixs rfl rfl Try.underlying32 ti2 j3 j4) <| gtk rfl rfl rfl rfl rfl (bt hg) <| vl rfl rfl (xld rfl ti2 (hcb.at 0 rfl)) <| gtk rfl rfl rfl rfl rfl (bt hg) <| vl rfl rfl (xlss rfl rfl) <| vl rfl rfl (xpt rfl hg rfl) <| nl <| ?_
    refine cnd rfl (fun hg2 => ?_) (fun hg2 => wp_skip <| lf ⟨_, ifn hB hg2, l4, hM, l11, l12, l13, l3, k8⟩)
    have hB := ifp hB hg2
    have hz := bs hB; obtain ⟨c, Ec, hB⟩ := hz
    refine wpl [30] (.pure true 0 (.pure true 1 (.pure true 2 (.pure false 3 (.pure true 4 (.pure true 5 (.pure true 6 (.pure true 7 (.pure false 8 (.pure true 9 (.pure true 10 (.pure false 11 (.pure true 12 (.pure true 13 (.pure true 14 (.pure false 15 (.pure true 16 (.pure true 17 (.pure false 18 (.pure true 19 (.pure true 20 (.pure true 21 (.pure false 22 (.pure true 23 (.pure true 24 (.pure false 25 (.pure true 26 (.pure true 27 (.pure true 28 (.pure true 29 (.eff 30 .fin .stop))))))))))))))))))))))))))))))) mixed (by kernel_rfl) (fun wd hxd => ?_)
    have hMd : MatS 32 2 w1.heap.size wd (.slice (some ⟨bo, fo, none⟩) M1.length cm) S M := ⟨hM.own.ext hxd, hM.len, fun i s r h1 h2 => (hM.row i s r h1 h2).ext hxd, hM.dif, hM.out⟩
    have hrd := hrow'.ext hxd
    have dcs := hcs.ext hxd
    have dcs2 := hcs2.ext hxd
    have dca := hca.ext hxd
    have dcb := hcb.ext hxd
    have hz := (RV.els hrd.rv).ix Ec; obtain ⟨b3, f3, css3, e3, j5, j6, qs3, hcc⟩ := hz
    cases e3
    obtain rfl := qs3
    refine pv rfl rfl rfl (fun _ _ => xmva l4) (.inl rfl) <| pv rfl rfl rfl (fun _ _ => xmva l12) (.inl rfl) <| pv rfl rfl rfl (fun _ _ => xixs rfl rfl Try.underlying53 ti32 i1 i2) (.inl rfl) <| pv rfl rfl rfl (fun _ hS => xld rfl ti32 ((dcs.ext (hS.resolve_left nofun)).at 0 rfl)) (.inr (Ext.refl _)) <| pv rfl rfl rfl (fun _ _ => xmva l13) (.inl rfl) <| ?_
    refine pv rfl rfl rfl (fun _ _ => xmva l4) (.inl rfl) <| pv rfl rfl rfl (fun _ _ => xmva l12) (.inl rfl) <| pv rfl rfl rfl (fun _ _ => xixs rfl rfl Try.underlying53 ti32 i1 i2) (.inl rfl) <| pv rfl rfl rfl (fun _ hS => xld rfl ti32 ((dcs.ext (hS.resolve_left nofun)).at 0 rfl)) (.inr (Ext.refl _)) <| pv rfl rfl rfl (fun _ _ => xmva l13) (.inl rfl) <| pv rfl rfl rfl (fun _ _ => xixs rfl rfl Try.underlying32 ti2 j5 j6) (.inl rfl) <| pv rfl rfl rfl (fun _ hS => xld rfl ti2 ((hcc.ext (hS.resolve_left nofun)).at 0 rfl)) (.inr (Ext.refl _)) <| ?_
    refine pv rfl rfl rfl (fun _ _ => xmva l4) (.inl rfl) <| pv rfl rfl rfl (fun _ _ => xmva l12) (.inl rfl) <| pv rfl rfl rfl (fun _ _ => xixs rfl rfl Try.underlying53 ti32 i1 i2) (.inl rfl) <| pv rfl rfl rfl (fun _ hS => xld rfl ti32 ((dcs.ext (hS.resolve_left nofun)).at 0 rfl)) (.inr (Ext.refl _)) <| pv rfl rfl rfl (fun _ _ => xmva l11) (.inl rfl) <| pv rfl rfl rfl (fun _ _ => xixs rfl rfl Try.underlying32 ti2 j1 j2) (.inl rfl) <| pv rfl rfl rfl (fun _ hS => xld rfl ti2 ((dca.ext (hS.resolve_left nofun)).at 0 rfl)) (.inr (Ext.refl _)) <| ?_
    refine pv rfl rfl rfl (fun _ _ => xmva l4) (.inl rfl) <| pv rfl rfl rfl (fun _ _ => xmva l11) (.inl rfl) <| pv rfl rfl rfl (fun _ _ => xixs rfl rfl Try.underlying53 ti32 i3 i4) (.inl rfl) <| pv rfl rfl rfl (fun _ hS => xld rfl ti32 ((dcs2.ext (hS.resolve_left nofun)).at 0 rfl)) (.inr (Ext.refl _)) <| pv rfl rfl rfl (fun _ _ => xmva l13) (.inl rfl) <| pv rfl rfl rfl (fun _ _ => xixs rfl rfl Try.underlying32 ti2 j3 j4) (.inl rfl) <| pv rfl rfl rfl (fun _ hS => xld rfl ti2 ((dcb.ext (hS.resolve_left nofun)).at 0 rfl)) (.inr (Ext.refl _)) <| ?_
    refine pv rfl rfl rfl (fun _ _ => xadd rfl rfl) (.inl rfl) <| pv rfl rfl rfl (fun _ _ => xmin rfl rfl) (.inl rfl) <| pv rfl rfl rfl (fun _ _ => xmax rfl rfl) (.inl rfl) <| pv rfl rfl rfl (fun _ _ => xixs rfl rfl Try.underlying32 ti2 j5 j6) (.inl rfl) <| ?_
    refine pe1 rfl <| sstr (l := ri) (i := k) (v := ref01_Far_mm c (w64 (a + b))) rfl rfl rfl ti2 hrd Ec fun w9 hch9 hr9 => ?_
    refine nl ⟨fun h => (h (by decide)).elim, ?_⟩
    have hM9 := hMd.set Es Ei hch9 hown (by rw [esv]; exact hr9)
    have hb2 := hge _ _ hsi b1 hown
    exact lf ⟨_, hB, l4, hM9, l11, l12, l13, l3, (k8.tr hxd).chg hch9 hb2⟩
  rintro L w6 ⟨l4, hM, k6⟩
  refine wp_seq <| rg <| vl rfl rfl (xmva l4) <| vl rfl rfl xas <| nl <| ?_
  exact wp_ret <| rt rfl (.tmp rfl rfl .nil) ⟨_, rfl, Mat.rv ⟨S, hM⟩, hx1.tr k6⟩
end Go.Proofs.Ythppacohnciinaa
