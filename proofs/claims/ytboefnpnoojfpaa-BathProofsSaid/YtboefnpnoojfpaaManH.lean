/-
  The elimination: weights that part two stocks, or a mixture that gives the way. Condition: the pure function computes something.
-/
import Derived.Test.YtboefnpnoojfpaaManB
import Derived.Test.YtboefnpnoojfpaaMatg
namespace Go.Proofs.Ytboefnpnoojfpaa
open Go Go.Md Go.RowKit
attribute [local irreducible] Go.wpList Go.Code.wp Go.Calls Go.Md.Rnd Go.Md.Mt

abbrev Rt := Int × Int
abbrev Tab := List (List Rt)
def slv_z (len : Int) : Nat → List Rt → Int → Option (List Rt)
  | 0, _, _ => none
  | m + 1, r, i => if (decide (i < len)) = true then (ix r i) >>= fun _ => slv_z len m (rset r i (0, 1)) (w64 (i + 1)) else some r
def slv_m (x : Spec) (k : Int) : Nat → List Rt → Int → Option (List Rt)
  | 0, _, _ => none
  | m + 1, r, i =>
    if (decide (i < (x.2.length : Int))) = true then
      (ix x.2 i) >>= fun mv => (ix mv.2 k) >>= fun g => (ix mv.1 k) >>= fun t => (ix r i) >>= fun e =>
      slv_m x k m (rset r i (w64 (g - t), e.2)) (w64 (i + 1))
    else some r
def slv_row (F : Nat) (x : Spec) (from_ to_ : St) (n kinds k : Int) : Option (List Rt) :=
  (mks 16 (w64 (w64 (n + 1) + kinds)) ((0, 0) : Rt)) >>= fun r0 => (slv_z (r0.length : Int) F r0 0) >>= fun r1 => (slv_m x k F r1 0) >>= fun r2 =>
  (ix to_.l k) >>= fun b => (ix from_.l k) >>= fun a => (ix r2 n) >>= fun e =>
  (ix (rset r2 n (w64 (b - a), e.2)) (w64 (w64 (n + 1) + k))) >>= fun e2 => some (rset (rset r2 n (w64 (b - a), e.2)) (w64 (w64 (n + 1) + k)) (1, e2.2))
def slv_rows (F : Nat) (x : Spec) (from_ to_ : St) (n kinds : Int) : Nat → Tab → Int → Option Tab
  | 0, _, _ => none
  | m + 1, M, k =>
    if (decide (k < kinds)) = true then (slv_row F x from_ to_ n kinds k) >>= fun r => (app 24 M [r]) >>= fun M' => slv_rows F x from_ to_ n kinds m M' (w64 (k + 1))
    else some M
def slv_find (kinds i : Int) (M : Tab) : Nat → Int → Option Int
  | 0, _ => none
  | m + 1, r =>
    if (decide (r < kinds)) = true then
      (ix M r) >>= fun row => (ix row i) >>= fun e => if (!decide (e = ((0, 1) : Rt))) = true then some r else slv_find kinds i M m (w64 (r + 1))
    else some (-1)
def slv_over (F : Nat) (used : Int) (lead : Rt) (len : Int) : Nat → Tab → Int → Option Tab
  | 0, _, _ => none
  | m + 1, M, c =>
    if (decide (c < len)) = true then
      (ix M used) >>= fun row => (ix row c) >>= fun e => (bath_fraction_over F e lead) >>= fun e' => slv_over F used lead len m (rset M used (rset row c e')) (w64 (c + 1))
    else some M
def slv_less (F : Nat) (r used : Int) (f : Rt) (len : Int) : Nat → Tab → Int → Option Tab
  | 0, _, _ => none
  | m + 1, M, c =>
    if (decide (c < len)) = true then
      (ix M r) >>= fun row => (ix row c) >>= fun e => (ix M used) >>= fun lrow => (ix lrow c) >>= fun g => (bath_fraction_less F e f g) >>= fun e' =>
      slv_less F r used f len m (rset M r (rset row c e')) (w64 (c + 1))
    else some M
def slv_elim (F : Nat) (i used len : Int) : Nat → Tab → Int → Option Tab
  | 0, _, _ => none
  | m + 1, M, r =>
    if (decide (r < len)) = true then
      (ix M r) >>= fun row => (ix row i) >>= fun f =>
      if ((decide (r = used)) || (decide (f = ((0, 1) : Rt)))) = true then slv_elim F i used len m M (w64 (r + 1))
      else (slv_less F r used f (row.length : Int) F M 0) >>= fun M' => slv_elim F i used len m M' (w64 (r + 1))
    else some M
def slv_main (F : Nat) (n kinds : Int) : Nat → Tab → List Int → Int → Int → Option (Tab × List Int × Int)
  | 0, _, _, _, _ => none
  | m + 1, M, T, used, i =>
    if (decide (i < n)) = true then
      (ix T i) >>= fun _ => (slv_find kinds i M F used) >>= fun at_ =>
      if (decide (at_ < 0)) = true then slv_main F n kinds m M (rset T i (-1)) used (w64 (i + 1))
      else
        (ix M used) >>= fun p => (ix M at_) >>= fun q => (ix q i) >>= fun lead =>
        (slv_over F used lead (q.length : Int) F (rset (rset M used q) at_ p) 0) >>= fun M2 => (slv_elim F i used (M2.length : Int) F M2 0) >>= fun M3 =>
        slv_main F n kinds m M3 (rset (rset T i (-1)) i used) (w64 (used + 1)) (w64 (i + 1))
    else some (M, T, used)
def slv_last (F : Nat) (n kinds : Int) (M : Tab) : Nat → Int → Option (Sum (List Int) Unit)
  | 0, _ => none
  | m + 1, r =>
    if (decide (r < kinds)) = true then
      (ix M r) >>= fun row => (ix row n) >>= fun e =>
      if (!decide (e = ((0, 1) : Rt))) = true then (sdrop row (w64 (n + 1))) >>= fun d => (bath_whole F d) >>= fun wl => some (.inl wl.1)
      else slv_last F n kinds M m (w64 (r + 1))
    else some (.inr ())
def slv_times (n : Int) (M : Tab) (T : List Int) : Nat → List Rt → Int → Option (List Rt)
  | 0, _, _ => none
  | m + 1, t, i =>
    if (decide (i < (T.length : Int))) = true then
      (ix T i) >>= fun r => (ix t i) >>= fun _ =>
      if (decide (0 ≤ r)) = true then (ix M r) >>= fun row => (ix row n) >>= fun e => slv_times n M T m (rset (rset t i (0, 1)) i e) (w64 (i + 1))
      else slv_times n M T m (rset t i (0, 1)) (w64 (i + 1))
    else some t
def bath_shop_solve (F : Nat) (x0 : Spec × Opq) (from_ to_ : St) : Option (List Int × (List Int × Int)) :=
  (slv_rows F x0.1 from_ to_ (x0.1.2.length : Int) (x0.1.1.length : Int) F [] 0) >>= fun M =>
  (mks 8 (x0.1.2.length : Int) (0 : Int)) >>= fun T =>
  (slv_main F (x0.1.2.length : Int) (x0.1.1.length : Int) F M T 0 0) >>= fun p =>
  (slv_last F (x0.1.2.length : Int) (x0.1.1.length : Int) p.1 F p.2.2) >>= fun o => match o with
  | .inl wl => some (wl, ([], 0))
  | .inr () =>
    (mks 16 (x0.1.2.length : Int) ((0, 0) : Rt)) >>= fun t0 => (slv_times (x0.1.2.length : Int) p.1 p.2.1 F t0 0) >>= fun t => (bath_whole F t) >>= fun q => some ([], q)

theorem ix_swap {γ : Type} {M : List γ} {u a : Int} {p q : γ} (hu : ix M u = some p) (ha : ix M a = some q) : ix (rset (rset M u q) a p) u = some q := by
  obtain ⟨u0, _, u2⟩ := ix_spec hu
  obtain ⟨a0, _, a2⟩ := ix_spec ha
  have hul := (List.getElem?_eq_some_iff.1 u2).1
  unfold ix rset
  rw [if_pos u0, List.getElem?_set]
  by_cases h : a.toNat = u.toNat
  · rw [if_pos h, List.length_set, if_pos (by rw [h]; exact hul)]
    rw [h, u2] at a2
    exact a2
  · rw [if_neg h, List.getElem?_set, if_pos rfl, if_pos hul]
theorem rvflat {α : Type} [Enc α] [Flat α] {w : World} {x : α} : RV w (fv x) x := ⟨_, rfl, Flat.iff.2 rfl⟩

set_option maxHeartbeats 8000000 in
theorem c65 {w0 : World} {b0 : Nat} {cs0 : List Value} {x0 : Spec × Opq} (h0 : Cs w0 b0 0 cs0) (q0 : Enc.rep (fun _ => True) w0 cs0 x0) {v1 : Value} {x1 : St} (r1 : RV w0 v1 x1) {v2 : Value} {x2 : St} (r2 : RV w0 v2 x2) {F : Nat} {r : List Int × (List Int × Int)} (hF : bath_shop_solve F x0 x1 x2 = some r) :
    Calls Try.prog 65 [.pointer (some ⟨b0, 0, none⟩), v1, v2].toArray w0 (Ret fun v w' => ∃ u0 u1 : Value, v = .tuple #[u0, .agg [u1, .int .i64 r.2.2].toArray] ∧ Row 2 w0.heap.size w' u0 r.1 ∧ Row 2 w0.heap.size w' u1 r.2.1 ∧ Ext w0 w') := by
  unfold bath_shop_solve at hF
  have hz := bs hF; obtain ⟨M1, hM1, hF⟩ := hz
  obtain ⟨_, _, rfl, ⟨_, _, rfl, ⟨a1, cq1, rfl, p1, q4, e1⟩, ⟨a2, cq2, rfl, p2, q5, e2⟩⟩, ⟨a3, rfl, q6⟩⟩ := q0
  have r4 := RV.of1 p1 q4 e1
  have r5 := RV.of1 p2 q5 e2
  have hz := id r1; obtain ⟨_, rfl, rfl⟩ := hz
  have hz := id r2; obtain ⟨_, rfl, rfl⟩ := hz
  refine entr (n := 310) Try.func65 rfl rfl rfl <| wp_seq <| rg <| sbx (cs := Flat.enc x1) rfl rfl fun b4 w1 hx1 hg1 hb4 => sbx (cs := Flat.enc x2) rfl rfl fun b5 w2 hx2 hg2 hb5 => ?_
  refine vl rfl rfl xas <| sal ti62 fun b7 w3 hx3 hg3 hb7 => nl <| wp_seq <| rg <| vl rfl rfl (xbdv (r := Flat.enc ((0, 1) : Rt)) ti116 sp116 (pc rfl (pc rfl pn)) rfl) <| sal ti116 fun b8 w4 hx4 hg4 hb8 => ?_
  refine sstf (u := ((0, 1) : Rt)) rfl rfl ti116 rfl hb8 rfl fun w5 hc5 hb85 => nl ?_
  have k45 : Ext w3 w5 := hx4.chg hc5 hg4
  have k5 : Ext w0 w5 := ((hx1.tr hx2).tr hx3).tr k45
  have hb45 := ((hb4.ext hx2).ext hx3).ext k45
  have hb55 := (hb5.ext hx3).ext k45
  have hb75 := hb7.ext k45
  refine wp_seq <| wpl [] (.pure true 0 (.pure true 1 (.pure true 2 (.pure true 3 (.pure false 4 (.pure false 5 (.pure true 6 (.pure true 7 (.pure true 8 (.pure true 9 (.pure false 10 (.pure false 11 (.pure true 12 (.pure true 13 .fin)))))))))))))) mixed (by kernel_rfl) (fun wb hxb => ?_)
  have kb : Ext w0 wb := k5.tr hxb
  have h0b := h0.ext kb
  refine pv rfl rfl rfl (fun _ _ => xmv) (.inl rfl) <| pv rfl rfl rfl (fun _ _ => xnil rfl) (.inl rfl) <| pv rfl rfl rfl (fun _ _ => xfa rfl fa105_0) (.inl rfl) <| pv rfl rfl rfl (fun _ _ => xfa rfl fa25_1) (.inl rfl) <| pv rfl rfl rfl (fun _ hS => xld rfl ti23 ((h0b.ext (hS.resolve_left nofun)).at 1 rfl)) (.inr (Ext.refl _)) <| pv rfl rfl rfl (fun _ _ => xlen rfl Try.underlying23) (.inr (Ext.refl _)) <| ?_
  refine pv rfl rfl rfl (fun _ _ => xmv) (.inl rfl) <| pv rfl rfl rfl (fun _ _ => xnil rfl) (.inl rfl) <| pv rfl rfl rfl (fun _ _ => xfa rfl fa105_0) (.inl rfl) <| pv rfl rfl rfl (fun _ _ => xfa rfl fa25_0) (.inl rfl) <| pv rfl rfl rfl (fun _ hS => xld rfl ti22 ((h0b.ext (hS.resolve_left nofun)).at 0 rfl)) (.inr (Ext.refl _)) <| pv rfl rfl rfl (fun _ _ => xlen rfl Try.underlying22) (.inr (Ext.refl _)) <| ?_
  refine pv rfl rfl rfl (fun _ _ => xas) (.inl rfl) <| pv rfl rfl rfl (fun _ _ => xas) (.inl rfl) <| ?_
  have d4 := hb45.ext hxb
  have d5 := hb55.ext hxb
  have d7 := hb75.ext hxb
  have d8 := hb85.ext hxb
  have l4' := d4.lt
  have l5' := d5.lt
  have l7' := d7.lt
  have l8' := d8.lt
  generalize hn : (x0.1.2.length : Int) = n at hM1 hF
  generalize hk : (x0.1.1.length : Int) = kinds at hM1 hF
  refine wp_seq <| rg <| vl rfl rfl xas <| nl <| wp_seq <| wp_seq <| rg <| vl rfl rfl xmv <| vl rfl rfl xmv <| nl ?_
  refine ct (fun L w => ∃ v, L 11 = v ∧ MatX (α := Rt) 118 116 wb.heap.size w v M1 ∧ L 0 = .pointer (some ⟨b0, 0, none⟩) ∧ L 7 = .pointer (some ⟨b7, 0, none⟩) ∧ L 8 = .pointer (some ⟨b8, 0, none⟩) ∧ L 9 = .int .i64 n ∧ L 10 = .int .i64 kinds ∧ Ext wb w) ?_ ?_
  · -- the rows are made
    refine wp_block <| lp (I := fun m L w => ∃ M k v, slv_rows F x0.1 x1 x2 n kinds m M k = some M1 ∧ L 11 = v ∧ MatX (α := Rt) 118 116 wb.heap.size w v M ∧ L 49 = .int .i64 k ∧ L 48 = .int .i64 kinds ∧ L 0 = .pointer (some ⟨b0, 0, none⟩) ∧ L 4 = .pointer (some ⟨b4, 0, none⟩) ∧ L 5 = .pointer (some ⟨b5, 0, none⟩) ∧ L 7 = .pointer (some ⟨b7, 0, none⟩) ∧ L 8 = .pointer (some ⟨b8, 0, none⟩) ∧ L 9 = .int .i64 n ∧ L 10 = .int .i64 kinds ∧ Ext wb w) F
      ⟨_, _, _, hM1, rfl, MatX.nil, rfl, by rw [← hk]; rfl, rfl, rfl, rfl, rfl, rfl, by rw [← hn]; rfl, by rw [← hk]; rfl, Ext.refl _⟩ ?_
    rintro m L w6 ⟨M, k, v, hB, l11, hM, l49, l48, l0, l4, l5, l7, l8, l9, l10, k6⟩
    rcases m with _ | m
    · rw [slv_rows] at hB; cases hB
    rw [slv_rows] at hB
    refine wp_seq <| rg <| vl rfl rfl (xlss l49 l48) <| nl <| wp_seq <| cnd rfl (fun h => ?_) (fun h => ?_)
    rotate_left
    · have hB := ifn hB h
      cases hB
      exact wp_exit <| lf ⟨_, l11, hM, l0, l7, l8, l9, l10, k6⟩
    have hB := ifp hB h
    have hz := bs hB; obtain ⟨row, hrow, hB⟩ := hz
    have hz := bs hB; obtain ⟨M', EM, hB⟩ := hz
    unfold slv_row at hrow
    have hz := bs hrow; obtain ⟨y0, Ey0, hrow⟩ := hz
    have hz := bs hrow; obtain ⟨y1, Ey1, hrow⟩ := hz
    have hz := bs hrow; obtain ⟨y2, Ey2, hrow⟩ := hz
    have hz := bs hrow; obtain ⟨tb, Etb, hrow⟩ := hz
    have hz := bs hrow; obtain ⟨ta, Eta, hrow⟩ := hz
    have hz := bs hrow; obtain ⟨te, Ete, hrow⟩ := hz
    have hz := bs hrow; obtain ⟨te2, Ete2, hrow⟩ := hz
    refine wp_skip <| wp_seq <| wp_block <| wp_seq <| rg <| vl rfl rfl (xmva l49) <| vl rfl rfl xas <| nl <| wp_seq <| rg <| vl rfl rfl (xmva l9) <| vl rfl rfl (xadd rfl rfl) <| vl rfl rfl (xmva l10) <| vl rfl rfl (xadd rfl rfl) <| smks (α := Rt) (z0 := ((0, 0) : Rt)) rfl rfl Try.underlying118 ti116 rfl rfl rfl Ey0 fun b13 w7 hx7 o7 => ?_
    refine vl rfl rfl xas <| nl <| wp_seq <| wp_seq <| rg <| vl rfl rfl xmv <| vl rfl rfl (xlen rfl Try.underlying118) <| vl rfl rfl xmv <| nl ?_
    refine ct (fun L w => ∃ v13, L 13 = v13 ∧ Row (α := Rt) 116 w6.heap.size w v13 y1 ∧ L 11 = v ∧ L 12 = .int .i64 k ∧ L 49 = .int .i64 k ∧ L 48 = .int .i64 kinds ∧ L 0 = .pointer (some ⟨b0, 0, none⟩) ∧ L 4 = .pointer (some ⟨b4, 0, none⟩) ∧ L 5 = .pointer (some ⟨b5, 0, none⟩) ∧ L 7 = .pointer (some ⟨b7, 0, none⟩) ∧ L 8 = .pointer (some ⟨b8, 0, none⟩) ∧ L 9 = .int .i64 n ∧ L 10 = .int .i64 kinds ∧ Ext w6 w) ?_ ?_
    · refine wp_block <| lp (I := fun m L w => ∃ y i v13, slv_z (y0.length : Int) m y i = some y1 ∧ L 13 = v13 ∧ Row (α := Rt) 116 w6.heap.size w v13 y ∧ L 59 = .int .i64 i ∧ L 58 = .int .i64 (y0.length : Int) ∧ L 11 = v ∧ L 12 = .int .i64 k ∧ L 49 = .int .i64 k ∧ L 48 = .int .i64 kinds ∧ L 0 = .pointer (some ⟨b0, 0, none⟩) ∧ L 4 = .pointer (some ⟨b4, 0, none⟩) ∧ L 5 = .pointer (some ⟨b5, 0, none⟩) ∧ L 7 = .pointer (some ⟨b7, 0, none⟩) ∧ L 8 = .pointer (some ⟨b8, 0, none⟩) ∧ L 9 = .int .i64 n ∧ L 10 = .int .i64 kinds ∧ Ext w6 w) F
        ⟨_, _, _, Ey1, rfl, o7, rfl, rfl, l11, rfl, l49, l48, l0, l4, l5, l7, l8, l9, l10, hx7⟩ ?_
      rintro m L w8 ⟨y, i, v13, hC, l13, hr, l59, l58, l11, l12, l49, l48, l0, l4, l5, l7, l8, l9, l10, k8⟩
      rcases m with _ | m
      · rw [slv_z] at hC; cases hC
      rw [slv_z] at hC
      refine wp_seq <| rg <| vl rfl rfl (xlss l59 l58) <| nl <| wp_seq <| cnd rfl (fun h => ?_) (fun h => ?_)
      rotate_left
      · have hC := ifn hC h
        cases hC
        exact wp_exit <| lf ⟨_, l13, hr, l11, l12, l49, l48, l0, l4, l5, l7, l8, l9, l10, k8⟩
      have hC := ifp hC h
      have hz := bs hC; obtain ⟨ye, Eye, hC⟩ := hz
      have hz := RV.sl hr.rv; obtain ⟨_, c13, rfl, -, -, -⟩ := hz
      have hz := (RV.els hr.rv).ix Eye; obtain ⟨b14, f14, cs14, rfl, i1, i2, -, -⟩ := hz
      have e8 := (d8.ext k6).ext k8
      refine wp_skip <| wp_seq <| wp_block <| wp_seq <| rg <| vl rfl rfl (xmva l59) <| vl rfl rfl xas <| nl <| rg <| vl rfl rfl (xmva l13) <| vl rfl rfl xmv <| vl rfl rfl (xlda l8 ti116 rfl (Bx.cs e8)) <| vl rfl rfl (xixs rfl rfl Try.underlying118 ti116 i1 i2) <| ?_
      refine sstr (l := y) (i := i) (v := ((0, 1) : Rt)) rfl rfl rfl ti116 hr Eye fun w9 hc9 hr9 => nl ?_
      have k9 : Ext w6 w9 := k8.chg hc9 (hr.lt b14 rfl).1
      refine rg <| vl rfl rfl (xadd l59 rfl) <| vl rfl rfl xmv <| nl ?_
      exact lq m (Nat.lt_succ_self _) ⟨_, _, _, hC, l13, hr9, rfl, l58, l11, l12, l49, l48, l0, l4, l5, l7, l8, l9, l10, k9⟩
    rintro L w8 ⟨v13, l13, hr, l11, l12, l49, l48, l0, l4, l5, l7, l8, l9, l10, k8⟩
    have r5_8 := r5.ext ((kb.tr k6).tr k8)
    have h0_8 := h0.ext ((kb.tr k6).tr k8)
    refine wp_seq <| wp_seq <| rg <| vl rfl rfl (xmva l0) <| vl rfl rfl (xnil rfl) <| vl rfl rfl (xfa rfl fa105_0) <| vl rfl rfl (xfa rfl fa25_1) <| vl rfl rfl (xld rfl ti23 (h0_8.at 1 rfl)) <| vl rfl rfl (xlen rfl Try.underlying23) <| vl rfl rfl xmv <| nl ?_
    refine ct (fun L w => ∃ v13, L 13 = v13 ∧ Row (α := Rt) 116 w6.heap.size w v13 y2 ∧ L 11 = v ∧ L 12 = .int .i64 k ∧ L 49 = .int .i64 k ∧ L 48 = .int .i64 kinds ∧ L 0 = .pointer (some ⟨b0, 0, none⟩) ∧ L 4 = .pointer (some ⟨b4, 0, none⟩) ∧ L 5 = .pointer (some ⟨b5, 0, none⟩) ∧ L 7 = .pointer (some ⟨b7, 0, none⟩) ∧ L 8 = .pointer (some ⟨b8, 0, none⟩) ∧ L 9 = .int .i64 n ∧ L 10 = .int .i64 kinds ∧ Ext w6 w) ?_ ?_
    · refine wp_block <| lp (I := fun m L w => ∃ y i v13, slv_m x0.1 k m y i = some y2 ∧ L 13 = v13 ∧ Row (α := Rt) 116 w6.heap.size w v13 y ∧ L 73 = .int .i64 i ∧ L 72 = .int .i64 (x0.1.2.length : Int) ∧ L 71 = .slice a2 x0.1.2.length cq2 ∧ L 11 = v ∧ L 12 = .int .i64 k ∧ L 49 = .int .i64 k ∧ L 48 = .int .i64 kinds ∧ L 0 = .pointer (some ⟨b0, 0, none⟩) ∧ L 4 = .pointer (some ⟨b4, 0, none⟩) ∧ L 5 = .pointer (some ⟨b5, 0, none⟩) ∧ L 7 = .pointer (some ⟨b7, 0, none⟩) ∧ L 8 = .pointer (some ⟨b8, 0, none⟩) ∧ L 9 = .int .i64 n ∧ L 10 = .int .i64 kinds ∧ Ext w6 w) F
        ⟨_, _, _, Ey2, l13, hr, rfl, rfl, rfl, l11, l12, l49, l48, l0, l4, l5, l7, l8, l9, l10, k8⟩ ?_
      rintro m L w9 ⟨y, i, v13, hC, l13, hr, l73, l72, l71, l11, l12, l49, l48, l0, l4, l5, l7, l8, l9, l10, k9⟩
      rcases m with _ | m
      · rw [slv_m] at hC; cases hC
      rw [slv_m] at hC
      refine wp_seq <| rg <| vl rfl rfl (xlss l73 l72) <| nl <| wp_seq <| cnd rfl (fun h => ?_) (fun h => ?_)
      rotate_left
      · have hC := ifn hC h
        cases hC
        exact wp_exit <| lf ⟨_, l13, hr, l11, l12, l49, l48, l0, l4, l5, l7, l8, l9, l10, k9⟩
      have hC := ifp hC h
      have hz := bs hC; obtain ⟨mv, Emv, hC⟩ := hz
      have hz := bs hC; obtain ⟨g, Eg, hC⟩ := hz
      have hz := bs hC; obtain ⟨t, Et, hC⟩ := hz
      have hz := bs hC; obtain ⟨e, Ee, hC⟩ := hz
      have kk9 := (kb.tr k6).tr k9
      have r5_9 := r5.ext kk9
      have hz := (RV.els r5_9).ix Emv; obtain ⟨bm, fm, csm, em, i1, i2, qm, hcm⟩ := hz
      obtain ⟨_, _, rfl, ⟨am1, cm1, rfl, pm1, qm1, em1⟩, ⟨am2, cm2, rfl, pm2, qm2, em2⟩⟩ := qm
      have rm1 := RV.of1 pm1 qm1 em1
      have rm2 := RV.of1 pm2 qm2 em2
      refine wp_skip <| wp_seq <| wp_block <| wp_seq <| rg <| vl rfl rfl (xmva l73) <| vl rfl rfl (xixs (l71.trans (by rw [em])) l73 Try.underlying23 ti57 i1 i2) <| vl rfl rfl (xlda rfl ti57 rfl hcm) <| sal ti57 fun b16 w10 hx10 hg10 hb10 => ?_
      refine vl rfl rfl xas <| sst rfl rfl rfl ti57 hb10 rfl rfl (ble rfl) fun w11 hc11 hb11 => nl ?_
      have hb11 : Bx w11 b16 57 [.slice am1 mv.1.length cm1, .slice am2 mv.2.length cm2] := hb11
      have k9_11 : Ext w9 w11 := hx10.chg hc11 hg10
      refine wpl [15] (.pure true 0 (.pure true 1 (.pure true 2 (.pure false 3 (.pure true 4 (.pure true 5 (.pure false 6 (.pure true 7 (.pure false 8 (.pure true 9 (.pure true 10 (.pure false 11 (.pure true 12 (.pure true 13 (.pure true 14 (.eff 15 .fin .stop)))))))))))))))) mixed (by kernel_rfl) (fun w12 hx12 => ?_)
      have k9_12 := k9_11.tr hx12
      have hb12 := hb11.ext hx12
      have rm1' := rm1.ext k9_12
      have rm2' := rm2.ext k9_12
      have hr12 := hr.ext k9_12
      have hz := (RV.els rm2').ix Eg; obtain ⟨bg, fg, _, rfl, j1, j2, rfl, hcg⟩ := hz
      have hz := (RV.els rm1').ix Et; obtain ⟨bt, ft, _, rfl, j3, j4, rfl, hct⟩ := hz
      have hz := RV.sl hr12.rv; obtain ⟨_, c13, rfl, -, -, -⟩ := hz
      have hz := (RV.els hr12.rv).ix Ee; obtain ⟨b13', f13, _, rfl, j5, j6, -, -⟩ := hz
      refine pv rfl rfl rfl (fun _ _ => xmva l13) (.inl rfl) <| pv rfl rfl rfl (fun _ _ => xmv) (.inl rfl) <| pv rfl rfl rfl (fun _ _ => xfa rfl fa57_1) (.inl rfl) <| pv rfl rfl rfl (fun _ hS => xld rfl ti22 ((Bx.cs (hb12.ext (hS.resolve_left nofun))).at 1 rfl)) (.inr (Ext.refl _)) <| pv rfl rfl rfl (fun _ _ => xmva l12) (.inl rfl) <| pv rfl rfl rfl (fun _ _ => xixs rfl rfl Try.underlying22 ti2 j1 j2) (.inl rfl) <| pv rfl rfl rfl (fun _ hS => xld rfl ti2 ((hcg.ext (hS.resolve_left nofun)).at 0 rfl)) (.inr (Ext.refl _)) <| ?_
      refine pv rfl rfl rfl (fun _ _ => xfa rfl fa57_0) (.inl rfl) <| pv rfl rfl rfl (fun _ hS => xld rfl ti22 ((Bx.cs (hb12.ext (hS.resolve_left nofun))).at 0 rfl)) (.inr (Ext.refl _)) <| pv rfl rfl rfl (fun _ _ => xmva l12) (.inl rfl) <| pv rfl rfl rfl (fun _ _ => xixs rfl rfl Try.underlying22 ti2 j3 j4) (.inl rfl) <| pv rfl rfl rfl (fun _ hS => xld rfl ti2 ((hct.ext (hS.resolve_left nofun)).at 0 rfl)) (.inr (Ext.refl _)) <| ?_
      refine pv rfl rfl rfl (fun _ _ => xsub rfl rfl) (.inl rfl) <| pv rfl rfl rfl (fun _ _ => xixs rfl rfl Try.underlying118 ti116 j5 j6) (.inl rfl) <| pv rfl rfl rfl (fun _ _ => xfa rfl fa116_0) (.inl rfl) <| ?_
      refine pe1 rfl <| sstr0 (l := y) (i := i) (v := w64 (g - t)) rfl rfl ti2 hr12 Ee fun w13 hc13 hr13 => nl ⟨fun h => (h (by decide)).elim, ?_⟩
      have k13 : Ext w6 w13 := (k9.tr k9_12).chg hc13 (hr12.lt b13' rfl).1
      refine rg <| vl rfl rfl (xadd l73 rfl) <| vl rfl rfl xmv <| nl ?_
      exact lq m (Nat.lt_succ_self _) ⟨_, _, _, hC, l13, hr13, rfl, l72, l71, l11, l12, l49, l48, l0, l4, l5, l7, l8, l9, l10, k13⟩
    rintro L w9 ⟨v13, l13, hr, l11, l12, l49, l48, l0, l4, l5, l7, l8, l9, l10, k9⟩
    have d4_9 := (d4.ext k6).ext k9
    have d5_9 := (d5.ext k6).ext k9
    have hz := ixar (Bx.cs d5_9) Etb; obtain ⟨j1, j2, hcb⟩ := hz
    have hz := ixar (Bx.cs d4_9) Eta; obtain ⟨j3, j4, hca⟩ := hz
    have hz := RV.sl hr.rv; obtain ⟨_, c13, rfl, -, -, -⟩ := hz
    have hz := (RV.els hr.rv).ix Ete; obtain ⟨b13', f13, _, rfl, j5, j6, -, -⟩ := hz
    refine wp_seq <| wpl [11] (.pure true 0 (.pure true 1 (.pure true 2 (.pure true 3 (.pure false 4 (.pure true 5 (.pure true 6 (.pure false 7 (.pure true 8 (.pure true 9 (.pure true 10 (.eff 11 .fin .stop)))))))))))) mixed (by kernel_rfl) (fun w10 hx10 => ?_)
    have hcb := hcb.ext hx10
    have hca := hca.ext hx10
    have hr10 := hr.ext hx10
    refine pv rfl rfl rfl (fun _ _ => xmva l13) (.inl rfl) <| pv rfl rfl rfl (fun _ _ => xmva l9) (.inl rfl) <| pv rfl rfl rfl (fun _ _ => xmva l12) (.inl rfl) <| pv rfl rfl rfl (fun _ _ => xixa l5 rfl Try.underlying79 ti2 j1 j2) (.inl rfl) <| pv rfl rfl rfl (fun _ hS => xld rfl ti2 ((hcb.ext (hS.resolve_left nofun)).at 0 rfl)) (.inr (Ext.refl _)) <| ?_
    refine pv rfl rfl rfl (fun _ _ => xmva l12) (.inl rfl) <| pv rfl rfl rfl (fun _ _ => xixa l4 rfl Try.underlying79 ti2 j3 j4) (.inl rfl) <| pv rfl rfl rfl (fun _ hS => xld rfl ti2 ((hca.ext (hS.resolve_left nofun)).at 0 rfl)) (.inr (Ext.refl _)) <| pv rfl rfl rfl (fun _ _ => xsub rfl rfl) (.inl rfl) <| ?_
    refine pv rfl rfl rfl (fun _ _ => xixs rfl rfl Try.underlying118 ti116 j5 j6) (.inl rfl) <| pv rfl rfl rfl (fun _ _ => xfa rfl fa116_0) (.inl rfl) <| ?_
    refine pe1 rfl <| sstr0 (l := y2) (i := n) (v := w64 (tb - ta)) rfl rfl ti2 hr10 Ete fun w11 hc11 hr11 => nl ⟨fun h => (h (by decide)).elim, ?_⟩
    have hgb := (hr10.lt b13' rfl).1
    have k11 : Ext w6 w11 := (k9.tr hx10).chg hc11 hgb
    have hz := (RV.els hr11.rv).ix Ete2; obtain ⟨b13'', f13', _, e13, j7, j8, -, -⟩ := hz
    cases e13
    have j8' : w64 (w64 (n + 1) + k) < (y2.length : Int) := by simpa [rset] using j8
    refine wp_seq <| rg <| vl rfl rfl (xmva l13) <| vl rfl rfl (xmva l9) <| vl rfl rfl (xadd rfl rfl) <| vl rfl rfl (xmva l12) <| vl rfl rfl (xadd rfl rfl) <| vl rfl rfl (xixs rfl rfl Try.underlying118 ti116 j7 j8') <| vl rfl rfl (xfa rfl fa116_0) <| ?_
    refine sstr0 (i := w64 (w64 (n + 1) + k)) (v := 1) rfl rfl ti2 hr11 Ete2 fun w12 hc12 hr12 => nl ?_
    have k12 : Ext w6 w12 := k11.chg hc12 hgb
    cases hrow
    obtain ⟨S, hS⟩ := hM
    have hS12 := hS.ext k12
    have hlen12 : y2.length = (rset (rset y2 n (w64 (tb - ta), te.2)) (w64 (w64 (n + 1) + k)) (1, te2.2)).length := by simp [rset]
    generalize hrw : rset (rset y2 n (w64 (tb - ta), te.2)) (w64 (w64 (n + 1) + k)) (1, te2.2) = rw_ at hr12 EM hlen12
    rw [hlen12] at hr12
    refine rg <| vl rfl rfl (xmva l11) <| vl rfl rfl (xmva l13) <| sbsv (cs := [.slice (some ⟨b13', f13, none⟩) rw_.length c13]) Try.underlying117 ti118 rfl (pc (by rw [hlen12]) pn) rfl rfl rfl rfl rfl fun b20 w13 hx13 hg13 hb13 => ?_
    have hS13 := hS12.ext hx13
    have hr13 := hr12.ext hx13
    have os : Row (α := SV) 118 w12.heap.size w13 (.slice (some ⟨b20, 0, none⟩) 1 1) [⟨some ⟨b13', f13, none⟩, rw_.length, c13⟩] := Row.lit hg13 hb13 rfl (ble rfl)
    have hz := app_spec EM; obtain ⟨hbnd, rfl⟩ := hz
    have EM' : app 24 S [(⟨some ⟨b13', f13, none⟩, rw_.length, c13⟩ : SV)] = some (S ++ [⟨some ⟨b13', f13, none⟩, rw_.length, c13⟩]) := by
      unfold app
      rw [if_pos (by simpa [hS.len] using hbnd)]
    refine sapx (l := S) (k := [⟨some ⟨b13', f13, none⟩, rw_.length, c13⟩]) rfl rfl Try.underlying117 ti118 rfl rfl hS13.own (RV.els os.rv) EM' (Nat.le_trans k6.size (Nat.le_trans k12.size hx13.size)) fun v2 w14 o14 hB14 hg14 how14 => ?_
    have hS14 := hS13.snoc (s := ⟨some ⟨b13', f13, none⟩, rw_.length, c13⟩) (r := rw_) (b2 := w6.heap.size) hr13 k6.size (fun j t hj g hg => (hS.lt.2 j t hj g hg).2) (fun g hg => (hS.lt.1 g hg).2) hg14 o14 how14
    refine vl rfl rfl xas <| nl <| rg <| vl rfl rfl (xadd l49 rfl) <| vl rfl rfl xmv <| nl ?_
    exact lq m (Nat.lt_succ_self _) ⟨_, _, _, hB, rfl, ⟨_, hS14⟩, rfl, l48, l0, l4, l5, l7, l8, l9, l10, ((k6.tr k12).tr hx13).grow (Nat.le_refl _) hB14⟩
  rintro L w6 ⟨v, l11, hM, l0, l7, l8, l9, l10, k6⟩
  obtain ⟨S, hS⟩ := hM
  have hT := hS.totop
  clear hS
  have hz := bs hF; obtain ⟨T0, ET0, hF⟩ := hz
  have hz := bs hF; obtain ⟨p, hP, hF⟩ := hz
  refine wp_seq <| rg <| vl rfl rfl (xmva l9) <| smks (α := Int) (z0 := 0) rfl rfl Try.underlying26 ti3 rfl rfl rfl ET0 fun b17 w7 hx7 o7 => ?_
  refine vl rfl rfl xas <| nl <| wp_seq <| rg <| vl rfl rfl xas <| nl <| wp_seq <| wp_seq <| rg <| vl rfl rfl (xmva l9) <| vl rfl rfl xmv <| nl ?_
  have k7 := k6.tr hx7
  refine ct (fun L w => ∃ vt, L 17 = vt ∧ Row (α := Int) 3 w6.heap.size w vt p.2.1 ∧ L 18 = .int .i64 p.2.2 ∧ MatT (α := Rt) 118 116 wb.heap.size w6.heap.size w v p.1 ∧ L 11 = v ∧ L 7 = .pointer (some ⟨b7, 0, none⟩) ∧ L 8 = .pointer (some ⟨b8, 0, none⟩) ∧ L 9 = .int .i64 n ∧ L 10 = .int .i64 kinds ∧ Ext wb w ∧ w6.heap.size ≤ w.heap.size) ?_ ?_
  · refine wp_block <| lp (I := fun m L w => ∃ M T used i vt, slv_main F n kinds m M T used i = some p ∧ L 17 = vt ∧ Row (α := Int) 3 w6.heap.size w vt T ∧ L 18 = .int .i64 used ∧ L 120 = .int .i64 i ∧ L 119 = .int .i64 n ∧ MatT (α := Rt) 118 116 wb.heap.size w6.heap.size w v M ∧ L 11 = v ∧ L 7 = .pointer (some ⟨b7, 0, none⟩) ∧ L 8 = .pointer (some ⟨b8, 0, none⟩) ∧ L 9 = .int .i64 n ∧ L 10 = .int .i64 kinds ∧ Ext wb w ∧ w6.heap.size ≤ w.heap.size) F
      ⟨_, _, _, _, _, hP, rfl, o7, rfl, rfl, rfl, hT.ext hx7, l11, l7, l8, l9, l10, k7, hx7.size⟩ ?_
    rintro m L w8 ⟨M, T, used, i, vt, hB, l17, ot, l18, l120, l119, hM, l11, l7, l8, l9, l10, k8, hs8⟩
    rcases m with _ | m
    · rw [slv_main] at hB; cases hB
    rw [slv_main] at hB
    refine wp_seq <| rg <| vl rfl rfl (xlss l120 l119) <| nl <| wp_seq <| cnd rfl (fun h => ?_) (fun h => ?_)
    rotate_left
    · have hB := ifn hB h
      cases hB
      exact wp_exit <| lf ⟨_, l17, ot, l18, hM, l11, l7, l8, l9, l10, k8, hs8⟩
    have hB := ifp hB h
    have hz := bs hB; obtain ⟨t0, Et0, hB⟩ := hz
    have hz := bs hB; obtain ⟨at_, Eat, hB⟩ := hz
    have hz := RV.sl ot.rv; obtain ⟨_, c17, rfl, -, -, -⟩ := hz
    have hz := (RV.els ot.rv).ix Et0; obtain ⟨bt, ft, _, rfl, i1, i2, -, -⟩ := hz
    have hgt := ot.lt bt rfl
    refine wp_skip <| wp_seq <| ?_
    refine ct (fun L w => ∃ M T used vt, slv_main F n kinds m M T used (w64 (i + 1)) = some p ∧ L 17 = vt ∧ Row (α := Int) 3 w6.heap.size w vt T ∧ L 18 = .int .i64 used ∧ L 120 = .int .i64 i ∧ L 119 = .int .i64 n ∧ MatT (α := Rt) 118 116 wb.heap.size w6.heap.size w v M ∧ L 11 = v ∧ L 7 = .pointer (some ⟨b7, 0, none⟩) ∧ L 8 = .pointer (some ⟨b8, 0, none⟩) ∧ L 9 = .int .i64 n ∧ L 10 = .int .i64 kinds ∧ Ext wb w ∧ w6.heap.size ≤ w.heap.size) ?_ ?_
    rotate_left
    · rintro L w9 ⟨M, T, used, vt, hB, l17, ot, l18, l120, l119, hM, l11, l7, l8, l9, l10, k9, hs9⟩
      refine rg <| vl rfl rfl (xadd l120 rfl) <| vl rfl rfl xmv <| nl ?_
      exact lq m (Nat.lt_succ_self _) ⟨_, _, _, _, _, hB, l17, ot, l18, rfl, l119, hM, l11, l7, l8, l9, l10, k9, hs9⟩
    refine wp_block <| wp_seq <| rg <| vl rfl rfl (xmva l120) <| vl rfl rfl xas <| nl <| wp_scope_straight <| wp_seq <| rg <| vl rfl rfl (xmva l17) <| vl rfl rfl xmv <| vl rfl rfl (xixs rfl rfl Try.underlying26 ti3 i1 i2) <| ?_
    refine sstr (l := T) (i := i) (v := (-1 : Int)) rfl rfl rfl ti3 ot Et0 fun w9 hc9 ot9 => nl ?_
    have hM9 := hM.chgo hc9 (.inr hgt.1)
    have k9 : Ext wb w9 := k8.chg hc9 (Nat.le_trans k6.size hgt.1)
    have hs9 : w6.heap.size ≤ w9.heap.size := Nat.le_trans hs8 (Nat.le_of_eq hc9.size.symm)
    refine wp_seq <| rg <| vl rfl rfl xas <| nl <| wp_seq <| wp_label <| wp_seq <| wp_seq <| rg <| vl rfl rfl (xmva l18) <| vl rfl rfl xas <| nl ?_
    obtain ⟨vt, hvt⟩ : ∃ vt, vt = Value.slice (some ⟨bt, ft, none⟩) T.length c17 := ⟨_, rfl⟩
    rw [← hvt] at l17 ot9
    refine ct (fun L w => L 20 = .int .i64 at_ ∧ MatT (α := Rt) 118 116 wb.heap.size w6.heap.size w v M ∧ L 17 = vt ∧ Row (α := Int) 3 w6.heap.size w vt (rset T i (-1)) ∧ L 18 = .int .i64 used ∧ L 19 = .int .i64 i ∧ L 120 = .int .i64 i ∧ L 119 = .int .i64 n ∧ L 11 = v ∧ L 7 = .pointer (some ⟨b7, 0, none⟩) ∧ L 8 = .pointer (some ⟨b8, 0, none⟩) ∧ L 9 = .int .i64 n ∧ L 10 = .int .i64 kinds ∧ Ext wb w ∧ w6.heap.size ≤ w.heap.size) ?_ ?_
    · refine wp_block <| lp (I := fun m L w => ∃ r, slv_find kinds i M m r = some at_ ∧ L 21 = .int .i64 r ∧ L 20 = .int .i64 (-1) ∧ MatT (α := Rt) 118 116 wb.heap.size w6.heap.size w v M ∧ L 17 = vt ∧ Row (α := Int) 3 w6.heap.size w vt (rset T i (-1)) ∧ L 18 = .int .i64 used ∧ L 19 = .int .i64 i ∧ L 120 = .int .i64 i ∧ L 119 = .int .i64 n ∧ L 11 = v ∧ L 7 = .pointer (some ⟨b7, 0, none⟩) ∧ L 8 = .pointer (some ⟨b8, 0, none⟩) ∧ L 9 = .int .i64 n ∧ L 10 = .int .i64 kinds ∧ Ext wb w ∧ w6.heap.size ≤ w.heap.size) F
        ⟨_, Eat, rfl, rfl, hM9, l17, ot9, l18, rfl, l120, l119, l11, l7, l8, l9, l10, k9, hs9⟩ ?_
      rintro m L w10 ⟨r, hC, l21, l20, hM, l17, ot, l18, l19, l120, l119, l11, l7, l8, l9, l10, k10, hs10⟩
      rcases m with _ | m
      · rw [slv_find] at hC; cases hC
      rw [slv_find] at hC
      refine wp_seq <| wp_seq <| rg <| vl rfl rfl (xmva l21) <| vl rfl rfl (xmva l10) <| vl rfl rfl (xlss rfl rfl) <| nl <| cnd rfl (fun h => ?_) (fun h => ?_)
      rotate_left
      · have hC := ifn hC h
        cases hC
        exact wp_exit <| lf ⟨l20, hM, l17, ot, l18, l19, l120, l119, l11, l7, l8, l9, l10, k10, hs10⟩
      have hC := ifp hC h
      have hz := bs hC; obtain ⟨row, Erow, hC⟩ := hz
      have hz := bs hC; obtain ⟨e, Ee, hC⟩ := hz
      have hz := hM.sl; obtain ⟨am, cm, rfl⟩ := hz
      refine wp_skip <| wp_seq <| wp_block <| wp_seq <| wpl [] (.pure true 0 (.pure true 1 (.pure true 2 (.pure false 3 (.pure true 4 (.pure true 5 (.pure false 6 (.pure false 7 (.pure true 8 .fin))))))))) mixed (by kernel_rfl) (fun w11 hx11 => ?_)
      have hM11 := hM.ext hx11
      have d8_11 := (d8.ext k10).ext hx11
      have hz := hM11.el Erow Ee; obtain ⟨bo, fo, br, fr, cr, rfl, j1, j2, hco, j3, j4, hce, j5, j6, hro, hset⟩ := hz
      refine pv rfl rfl rfl (fun _ _ => xmva l11) (.inl rfl) <| pv rfl rfl rfl (fun _ _ => xmva l21) (.inl rfl) <| pv rfl rfl rfl (fun _ _ => xixs rfl rfl Try.underlying117 ti118 j1 j2) (.inl rfl) <| pv rfl rfl rfl (fun _ hS => xld rfl ti118 ((hco.ext (hS.resolve_left nofun)).at 0 rfl)) (.inr (Ext.refl _)) <| ?_
      refine pv rfl rfl rfl (fun _ _ => xmva l19) (.inl rfl) <| pv rfl rfl rfl (fun _ _ => xixs rfl rfl Try.underlying118 ti116 j3 j4) (.inl rfl) <| pv rfl rfl rfl (fun _ hS => xlda rfl ti116 rfl (hce.ext (hS.resolve_left nofun))) (.inr (Ext.refl _)) <| ?_
      refine pv rfl rfl rfl (fun _ hS => xlda l8 ti116 rfl (Bx.cs (d8_11.ext (hS.resolve_left nofun)))) (.inr (Ext.refl _)) <| pv rfl rfl rfl (fun _ _ => xagn rfl eg116 eq116 rfl rfl rfl rfl rfl) (.inl rfl) <| ?_
      refine cnd rfl (fun h2 => ?_) (fun h2 => ?_)
      · have hC := ifp hC h2
        cases hC
        refine wp_seq <| rg <| vl rfl rfl (xmva l21) <| vl rfl rfl xas <| nl <| wp_exit <| lf ?_
        exact ⟨rfl, hM11, l17, ot.ext hx11, l18, l19, l120, l119, l11, l7, l8, l9, l10, k10.tr hx11, Nat.le_trans hs10 hx11.size⟩
      · have hC := ifn hC h2
        refine wp_skip <| rg <| vl rfl rfl (xmva l21) <| vl rfl rfl (xadd rfl rfl) <| vl rfl rfl xas <| nl ?_
        exact lq m (Nat.lt_succ_self _) ⟨_, hC, rfl, l20, hM11, l17, ot.ext hx11, l18, l19, l120, l119, l11, l7, l8, l9, l10, k10.tr hx11, Nat.le_trans hs10 hx11.size⟩
    clear hM hM9 ot ot9 l17 l18 l120 l119 l11 l7 l8 l9 l10 hc9 k9 hs9
    rintro L w9 ⟨l20, hM, l17, ot, l18, l19, l120, l119, l11, l7, l8, l9, l10, k9, hs9⟩
    refine wp_seq <| wp_seq <| rg <| vl rfl rfl (xmva l20) <| vl rfl rfl (xlss rfl rfl) <| nl <| cnd rfl (fun h2 => ?_) (fun h2 => ?_)
    · have hB := ifp hB h2
      exact wp_exit <| lf ⟨_, _, _, _, hB, l17, ot, l18, l120, l119, hM, l11, l7, l8, l9, l10, k9, hs9⟩
    have hB := ifn hB h2
    have hz := bs hB; obtain ⟨pr, Epr, hB⟩ := hz
    have hz := bs hB; obtain ⟨qr, Eqr, hB⟩ := hz
    have hz := bs hB; obtain ⟨lead, Elead, hB⟩ := hz
    have hz := bs hB; obtain ⟨M2, EM2, hB⟩ := hz
    have hz := bs hB; obtain ⟨M3, EM3, hB⟩ := hz
    obtain ⟨v', hv'⟩ : ∃ v', v' = v := ⟨v, rfl⟩
    have hz := hM.sl; obtain ⟨am, cm, rfl⟩ := hz
    refine wp_skip <| wp_seq <| wpl [13, 15] (.pure true 0 (.pure true 1 (.pure true 2 (.pure true 3 (.pure true 4 (.pure true 5 (.pure true 6 (.pure false 7 (.pure true 8 (.pure true 9 (.pure true 10 (.pure false 11 (.pure true 12 (.eff 13 (.pure true 14 (.eff 15 .fin .stop)) .stop)))))))))))))) mixed (by kernel_rfl) (fun w10 hx10 => ?_)
    have hM10 := hM.ext hx10
    have hz := hM10.swap Epr Eqr; obtain ⟨bo, fo, S, sp, sq, rfl, j1, j2, j3, j4, hcp, hcq, espv, esqv, hb1, hb2, hrs, hsp, hsq, hset⟩ := hz
    refine pv rfl rfl rfl (fun _ _ => xmva l11) (.inl rfl) <| pv rfl rfl rfl (fun _ _ => xmva l18) (.inl rfl) <| pv rfl rfl rfl (fun _ _ => xmva l11) (.inl rfl) <| pv rfl rfl rfl (fun _ _ => xmva l20) (.inl rfl) <| ?_
    refine pv rfl rfl rfl (fun _ _ => xmva l11) (.inl rfl) <| pv rfl rfl rfl (fun _ _ => xmva l20) (.inl rfl) <| pv rfl rfl rfl (fun _ _ => xixs rfl rfl Try.underlying117 ti118 j3 j4) (.inl rfl) <| pv rfl rfl rfl (fun _ hS => xld rfl ti118 ((hcq.ext (hS.resolve_left nofun)).at 0 rfl)) (.inr (Ext.refl _)) <| ?_
    refine pv rfl rfl rfl (fun _ _ => xmva l11) (.inl rfl) <| pv rfl rfl rfl (fun _ _ => xmva l18) (.inl rfl) <| pv rfl rfl rfl (fun _ _ => xixs rfl rfl Try.underlying117 ti118 j1 j2) (.inl rfl) <| pv rfl rfl rfl (fun _ hS => xld rfl ti118 ((hcp.ext (hS.resolve_left nofun)).at 0 rfl)) (.inr (Ext.refl _)) <| ?_
    refine pv rfl rfl rfl (fun _ _ => xixs rfl rfl Try.underlying117 ti118 j1 j2) (.inl rfl) <| ?_
    refine pe1 rfl <| sstr (α := SV) (l := S) (i := used) (v := sq) rfl rfl (by rw [← esqv]; rfl) ti118 hrs hsp fun w11 hc11 hrs11 => nl ⟨fun h => (h (by decide)).elim, ?_⟩
    have hz := ix_rset2 (a := sq) (i := used) hsq; obtain ⟨_, hsq'⟩ := hz
    refine pv rfl rfl rfl (fun _ _ => xixs rfl rfl Try.underlying117 ti118 j3 j4) (.inl rfl) <| ?_
    refine pe1 rfl <| sstr (α := SV) (l := rset S used sq) (i := at_) (v := sp) rfl rfl (by rw [← espv]; rfl) ti118 hrs11 hsq' fun w12 hc12 hrs12 => nl ⟨fun h => (h (by decide)).elim, ?_⟩
    have hM12 := hset _ _ _ (Ext.refl _) hc11 hc12 hrs12
    have k12 : Ext wb w12 := ((k9.tr hx10).chg hc11 hb1).chg hc12 hb1
    have hs12 : w6.heap.size ≤ w12.heap.size := by rw [hc12.size, hc11.size]; exact Nat.le_trans hs9 hx10.size
    have ot12 : Row (α := Int) 3 w6.heap.size w12 vt (rset T i (-1)) := ((ot.ext hx10).chg hc11 hb2).chg hc12 hb2
    have Eu := ix_swap Epr Eqr
    rw [← hv'] at l11 hM12
    generalize hMs : rset (rset M used qr) at_ pr = Ms at hM12 EM2 Eu
    clear hM hM10 hset hrs hrs11 hrs12 hcp hcq hc11 hc12 hx10 ot k9 hs9 hMs hsp hsq hsq' Epr Eqr
    have hz := hM12.sl; obtain ⟨am2, cm2, ev2⟩ := hz
    have hMv := hM12
    rw [ev2] at hMv
    have lv := l11.trans ev2
    have hz := hMv.el Eu Elead; obtain ⟨bo2, fo2, br, fr, cr, ea2, i5, i6, hco, i7, i8, hce, -, -, -, -⟩ := hz
    rw [ea2] at lv
    refine wp_seq <| rg <| vl rfl rfl (xmva lv) <| vl rfl rfl (xmva l18) <| vl rfl rfl (xixs rfl rfl Try.underlying117 ti118 i5 i6) <| vl rfl rfl (xld rfl ti118 (hco.at 0 rfl)) <| vl rfl rfl (xmva l19) <| vl rfl rfl (xixs rfl rfl Try.underlying118 ti116 i7 i8) <| vl rfl rfl (xlda rfl ti116 rfl hce) <| ?_
    refine sal ti116 fun b22 w13 hx13 hg13 hb13 => sstf (u := lead) rfl rfl ti116 rfl hb13 rfl fun w14 hc14 hb14 => nl ?_
    have kx14 : Ext w12 w14 := hx13.chg hc14 hg13
    have hg22 : w6.heap.size ≤ b22 := Nat.le_trans hs12 hg13
    refine wp_seq <| wp_seq <| rg <| vl rfl rfl (xmva lv) <| vl rfl rfl (xmva l18) <| vl rfl rfl (xixs rfl rfl Try.underlying117 ti118 i5 i6) <| vl rfl rfl (xld rfl ti118 ((hco.ext kx14).at 0 rfl)) <| vl rfl rfl (xlen rfl Try.underlying118) <| vl rfl rfl xmv <| nl ?_
    refine ct (fun L w => MatT (α := Rt) 118 116 wb.heap.size w6.heap.size w v' M2 ∧ L 17 = vt ∧ Row (α := Int) 3 w6.heap.size w vt (rset T i (-1)) ∧ L 18 = .int .i64 used ∧ L 19 = .int .i64 i ∧ L 120 = .int .i64 i ∧ L 119 = .int .i64 n ∧ L 11 = v' ∧ L 7 = .pointer (some ⟨b7, 0, none⟩) ∧ L 8 = .pointer (some ⟨b8, 0, none⟩) ∧ L 9 = .int .i64 n ∧ L 10 = .int .i64 kinds ∧ Ext wb w ∧ w6.heap.size ≤ w.heap.size) ?_ ?_
    · refine wp_block <| lp (I := fun m L w => ∃ M c, slv_over F used lead (qr.length : Int) m M c = some M2 ∧ L 170 = .int .i64 c ∧ L 169 = .int .i64 (qr.length : Int) ∧ L 22 = .pointer (some ⟨b22, 0, none⟩) ∧ Bx w b22 116 (Flat.enc lead) ∧ MatT (α := Rt) 118 116 wb.heap.size w6.heap.size w v' M ∧ L 17 = vt ∧ Row (α := Int) 3 w6.heap.size w vt (rset T i (-1)) ∧ L 18 = .int .i64 used ∧ L 19 = .int .i64 i ∧ L 120 = .int .i64 i ∧ L 119 = .int .i64 n ∧ L 11 = v' ∧ L 7 = .pointer (some ⟨b7, 0, none⟩) ∧ L 8 = .pointer (some ⟨b8, 0, none⟩) ∧ L 9 = .int .i64 n ∧ L 10 = .int .i64 kinds ∧ Ext wb w ∧ w6.heap.size ≤ w.heap.size) F
        ⟨_, _, EM2, rfl, rfl, rfl, hb14, hM12.ext kx14, l17, ot12.ext kx14, l18, l19, l120, l119, l11, l7, l8, l9, l10, k12.tr kx14, Nat.le_trans hs12 kx14.size⟩ ?_
      rintro m L w15 ⟨M, c, hC, l170, l169, l22, hbl, hM, l17, ot, l18, l19, l120, l119, l11, l7, l8, l9, l10, k15, hs15⟩
      rcases m with _ | m
      · rw [slv_over] at hC; cases hC
      rw [slv_over] at hC
      refine wp_seq <| rg <| vl rfl rfl (xlss l170 l169) <| nl <| wp_seq <| cnd rfl (fun h => ?_) (fun h => ?_)
      rotate_left
      · have hC := ifn hC h
        cases hC
        exact wp_exit <| lf ⟨hM, l17, ot, l18, l19, l120, l119, l11, l7, l8, l9, l10, k15, hs15⟩
      have hC := ifp hC h
      have hz := bs hC; obtain ⟨row, Erow, hC⟩ := hz
      have hz := bs hC; obtain ⟨e, Ee, hC⟩ := hz
      have hz := bs hC; obtain ⟨e', Ee', hC⟩ := hz
      have hz := hM.sl; obtain ⟨am3, cm3, ev3⟩ := hz
      refine wp_skip <| wp_seq <| wp_block <| wp_seq <| rg <| vl rfl rfl (xmva l170) <| vl rfl rfl xas <| nl <| wpl [15] (.pure true 0 (.pure true 1 (.pure true 2 (.pure false 3 (.pure true 4 (.pure true 5 (.pure true 6 (.pure true 7 (.pure false 8 (.pure true 9 (.pure true 10 (.pure false 11 (.pure false 12 (.eff 13 (.pure true 14 (.eff 15 .fin .stop)) .stop)))))))))))))) mixed (by kernel_rfl) (fun w16 hx16 => ?_)
      have hM16 := hM.ext hx16
      rw [ev3] at hM16
      have lv := l11.trans ev3
      have hz := hM16.el Erow Ee; obtain ⟨bo3, fo3, br3, fr3, cr3, ea3, j1, j2, hco3, j3, j4, hce3, j5, j6, hro3, hset⟩ := hz
      rw [ea3] at lv
      have hbl16 := hbl.ext hx16
      refine pv rfl rfl rfl (fun _ _ => xmva lv) (.inl rfl) <| pv rfl rfl rfl (fun _ _ => xmva l18) (.inl rfl) <| pv rfl rfl rfl (fun _ _ => xixs rfl rfl Try.underlying117 ti118 j1 j2) (.inl rfl) <| pv rfl rfl rfl (fun _ hS => xld rfl ti118 ((hco3.ext (hS.resolve_left nofun)).at 0 rfl)) (.inr (Ext.refl _)) <| pv rfl rfl rfl (fun _ _ => xmv) (.inl rfl) <| ?_
      refine pv rfl rfl rfl (fun _ _ => xmva lv) (.inl rfl) <| pv rfl rfl rfl (fun _ _ => xmva l18) (.inl rfl) <| pv rfl rfl rfl (fun _ _ => xixs rfl rfl Try.underlying117 ti118 j1 j2) (.inl rfl) <| pv rfl rfl rfl (fun _ hS => xld rfl ti118 ((hco3.ext (hS.resolve_left nofun)).at 0 rfl)) (.inr (Ext.refl _)) <| pv rfl rfl rfl (fun _ _ => xmv) (.inl rfl) <| ?_
      refine pv rfl rfl rfl (fun _ _ => xixs rfl rfl Try.underlying118 ti116 j3 j4) (.inl rfl) <| pv rfl rfl rfl (fun _ hS => xlda rfl ti116 rfl (hce3.ext (hS.resolve_left nofun))) (.inr (Ext.refl _)) <| pv rfl rfl rfl (fun _ hS => xlda l22 ti116 rfl (Bx.cs (hbl16.ext (hS.resolve_left nofun)))) (.inr (Ext.refl _)) <| ?_
      refine pe1 rfl <| cl rfl rfl (xc cb76 (mc rfl (mc rfl mn))) (c76 (rvflat (x := e)) (rvflat (x := lead)) Ee') ?_
      rintro _ w17 ⟨u17, rfl, ru, hx17⟩
      refine nl ⟨fun _ _ => hx17, ?_⟩
      obtain ⟨_, rfl, qu⟩ := ru
      obtain rfl := Flat.iff.1 qu
      refine pv rfl rfl rfl (fun _ _ => xixs rfl rfl Try.underlying118 ti116 j3 j4) (.inl rfl) <| pe1 rfl <| sstr (l := row) (i := c) (v := e') rfl rfl rfl ti116 (hro3.ext hx17) Ee fun w18 hc18 hr18 => nl ⟨fun h => (h (by decide)).elim, ?_⟩
      have hM18 := hset _ _ _ hx17 hc18 hr18
      rw [← ev3] at hM18
      have kx17 := hx16.tr hx17
      have k18 : Ext wb w18 := (k15.tr kx17).chg hc18 j5
      have hs18 : w6.heap.size ≤ w18.heap.size := by rw [hc18.size]; exact Nat.le_trans hs15 kx17.size
      have ot18 := (ot.ext kx17).chg hc18 j6
      have hb18 := (hbl.ext kx17).chg hc18 (by omega)
      refine rg <| vl rfl rfl (xadd l170 rfl) <| vl rfl rfl xmv <| nl ?_
      exact lq m (Nat.lt_succ_self _) ⟨_, _, hC, rfl, l169, l22, hb18, hM18, l17, ot18, l18, l19, l120, l119, l11, l7, l8, l9, l10, k18, hs18⟩
    clear hM12 hMv lv hco hce hx13 hb13 hc14 hb14 kx14 l17 ot12 l18 l19 l120 l119 l11 l7 l8 l9 l10 k12 hs12 ev2 ea2
    rintro L w12 ⟨hM, l17, ot, l18, l19, l120, l119, l11, l7, l8, l9, l10, k12, hs12⟩
    have hz := hM.sl; obtain ⟨am2, cm2, ev2⟩ := hz
    refine wp_seq <| wp_seq <| rg <| vl rfl rfl (xmva l11) <| vl rfl rfl (xlen ev2 Try.underlying117) <| vl rfl rfl xmv <| nl ?_
    refine ct (fun L w => MatT (α := Rt) 118 116 wb.heap.size w6.heap.size w v' M3 ∧ L 17 = vt ∧ Row (α := Int) 3 w6.heap.size w vt (rset T i (-1)) ∧ L 18 = .int .i64 used ∧ L 19 = .int .i64 i ∧ L 120 = .int .i64 i ∧ L 119 = .int .i64 n ∧ L 11 = v' ∧ L 7 = .pointer (some ⟨b7, 0, none⟩) ∧ L 8 = .pointer (some ⟨b8, 0, none⟩) ∧ L 9 = .int .i64 n ∧ L 10 = .int .i64 kinds ∧ Ext wb w ∧ w6.heap.size ≤ w.heap.size) ?_ ?_
    · refine wp_block <| lp (I := fun m L w => ∃ M r, slv_elim F i used (M2.length : Int) m M r = some M3 ∧ L 191 = .int .i64 r ∧ L 190 = .int .i64 (M2.length : Int) ∧ MatT (α := Rt) 118 116 wb.heap.size w6.heap.size w v' M ∧ L 17 = vt ∧ Row (α := Int) 3 w6.heap.size w vt (rset T i (-1)) ∧ L 18 = .int .i64 used ∧ L 19 = .int .i64 i ∧ L 120 = .int .i64 i ∧ L 119 = .int .i64 n ∧ L 11 = v' ∧ L 7 = .pointer (some ⟨b7, 0, none⟩) ∧ L 8 = .pointer (some ⟨b8, 0, none⟩) ∧ L 9 = .int .i64 n ∧ L 10 = .int .i64 kinds ∧ Ext wb w ∧ w6.heap.size ≤ w.heap.size) F
        ⟨_, _, EM3, rfl, rfl, hM, l17, ot, l18, l19, l120, l119, l11, l7, l8, l9, l10, k12, hs12⟩ ?_
      clear hM l17 ot l18 l19 l120 l119 l11 l7 l8 l9 l10 k12 hs12
      rintro m L w13 ⟨M, r, hC, l191, l190, hM, l17, ot, l18, l19, l120, l119, l11, l7, l8, l9, l10, k13, hs13⟩
      rcases m with _ | m
      · rw [slv_elim] at hC; cases hC
      rw [slv_elim] at hC
      refine wp_seq <| rg <| vl rfl rfl (xlss l191 l190) <| nl <| wp_seq <| cnd rfl (fun h => ?_) (fun h => ?_)
      rotate_left
      · have hC := ifn hC h
        cases hC
        exact wp_exit <| lf ⟨hM, l17, ot, l18, l19, l120, l119, l11, l7, l8, l9, l10, k13, hs13⟩
      have hC := ifp hC h
      have hz := bs hC; obtain ⟨row, Erow, hC⟩ := hz
      have hz := bs hC; obtain ⟨f, Ef, hC⟩ := hz
      refine wp_skip <| wp_seq <| ?_
      refine ct (fun L w => ∃ M, slv_elim F i used (M2.length : Int) m M (w64 (r + 1)) = some M3 ∧ L 191 = .int .i64 r ∧ L 190 = .int .i64 (M2.length : Int) ∧ MatT (α := Rt) 118 116 wb.heap.size w6.heap.size w v' M ∧ L 17 = vt ∧ Row (α := Int) 3 w6.heap.size w vt (rset T i (-1)) ∧ L 18 = .int .i64 used ∧ L 19 = .int .i64 i ∧ L 120 = .int .i64 i ∧ L 119 = .int .i64 n ∧ L 11 = v' ∧ L 7 = .pointer (some ⟨b7, 0, none⟩) ∧ L 8 = .pointer (some ⟨b8, 0, none⟩) ∧ L 9 = .int .i64 n ∧ L 10 = .int .i64 kinds ∧ Ext wb w ∧ w6.heap.size ≤ w.heap.size) ?_ ?_
      rotate_left
      · rintro L w14 ⟨M, hC, l191, l190, hM, l17, ot, l18, l19, l120, l119, l11, l7, l8, l9, l10, k14, hs14⟩
        refine rg <| vl rfl rfl (xadd l191 rfl) <| vl rfl rfl xmv <| nl ?_
        exact lq m (Nat.lt_succ_self _) ⟨_, _, hC, rfl, l190, hM, l17, ot, l18, l19, l120, l119, l11, l7, l8, l9, l10, k14, hs14⟩
      have hz := hM.sl; obtain ⟨am3, cm3, ev3⟩ := hz
      have hMv := hM
      rw [ev3] at hMv
      have lv := l11.trans ev3
      have hz := hMv.el Erow Ef; obtain ⟨bo3, fo3, br3, fr3, cr3, ea3, j1, j2, hco3, j3, j4, hce3, -, -, -, -⟩ := hz
      rw [ea3] at lv
      refine wp_block <| wp_seq <| rg <| vl rfl rfl (xmva l191) <| vl rfl rfl xas <| nl <| wp_seq <| rg <| vl rfl rfl (xmva lv) <| vl rfl rfl xmv <| vl rfl rfl (xixs rfl rfl Try.underlying117 ti118 j1 j2) <| vl rfl rfl (xld rfl ti118 (hco3.at 0 rfl)) <| vl rfl rfl (xmva l19) <| vl rfl rfl (xixs rfl rfl Try.underlying118 ti116 j3 j4) <| vl rfl rfl (xlda rfl ti116 rfl hce3) <| ?_
      refine sal ti116 fun b25 w14 hx14 hg14 hb14 => sstf (u := f) rfl rfl ti116 rfl hb14 rfl fun w15 hc15 hb15 => nl ?_
      have kx15 : Ext w13 w15 := hx14.chg hc15 hg14
      have hg25 : w6.heap.size ≤ b25 := Nat.le_trans hs13 hg14
      have d8_15 := (d8.ext k13).ext kx15
      refine wp_seq <| wp_seq <| rg <| vl rfl rfl xmv <| vl rfl rfl (xmva l18) <| vl rfl rfl (xeql rfl rfl) <| vl rfl rfl xmv <| gv rfl rfl rfl rfl (gw0 rfl) rfl (fun hc => xlda rfl ti116 rfl (Bx.cs hb15)) <| gv rfl rfl rfl rfl (gw0 rfl) rfl (fun hc => xlda l8 ti116 rfl (Bx.cs d8_15)) <| gv rfl rfl rfl rfl (gw0 rfl) rfl (fun hc => xage (a := f) (b := ((0, 1) : Rt)) rfl eg116 eq116 rfl (mv hc rfl) (mv hc rfl) rfl rfl) <| vl rfl rfl (xpo rfl rfl rfl) <| nl <| cnd rfl (fun h2 => ?_) (fun h2 => ?_)
      · have hC := ifp hC h2
        exact wp_exit <| lf ⟨_, hC, l191, l190, hM.ext kx15, l17, ot.ext kx15, l18, l19, l120, l119, l11, l7, l8, l9, l10, k13.tr kx15, Nat.le_trans hs13 kx15.size⟩
      have hC := ifn hC h2
      have hz := bs hC; obtain ⟨M4, EM4, hC⟩ := hz
      refine wp_skip <| wp_seq <| rg <| vl rfl rfl (xmva lv) <| vl rfl rfl xmv <| vl rfl rfl (xixs rfl rfl Try.underlying117 ti118 j1 j2) <| vl rfl rfl (xld rfl ti118 ((hco3.ext kx15).at 0 rfl)) <| vl rfl rfl (xlen rfl Try.underlying118) <| vl rfl rfl xmv <| nl ?_
      refine wp_block <| lp (I := fun m' L w => ∃ M c, slv_less F r used f (row.length : Int) m' M c = some M4 ∧ L 214 = .int .i64 c ∧ L 213 = .int .i64 (row.length : Int) ∧ L 25 = .pointer (some ⟨b25, 0, none⟩) ∧ Bx w b25 116 (Flat.enc f) ∧ L 24 = .int .i64 r ∧ L 191 = .int .i64 r ∧ L 190 = .int .i64 (M2.length : Int) ∧ MatT (α := Rt) 118 116 wb.heap.size w6.heap.size w v' M ∧ L 17 = vt ∧ Row (α := Int) 3 w6.heap.size w vt (rset T i (-1)) ∧ L 18 = .int .i64 used ∧ L 19 = .int .i64 i ∧ L 120 = .int .i64 i ∧ L 119 = .int .i64 n ∧ L 11 = v' ∧ L 7 = .pointer (some ⟨b7, 0, none⟩) ∧ L 8 = .pointer (some ⟨b8, 0, none⟩) ∧ L 9 = .int .i64 n ∧ L 10 = .int .i64 kinds ∧ Ext wb w ∧ w6.heap.size ≤ w.heap.size) F
        ⟨_, _, EM4, rfl, rfl, rfl, hb15, rfl, l191, l190, hM.ext kx15, l17, ot.ext kx15, l18, l19, l120, l119, l11, l7, l8, l9, l10, k13.tr kx15, Nat.le_trans hs13 kx15.size⟩ ?_
      clear hM hMv lv hco3 hce3 hx14 hb14 hc15 hb15 kx15 d8_15 l17 ot l18 l19 l120 l119 l11 l7 l8 l9 l10 l190 l191 k13 hs13 ev3 ea3 Erow Ef
      rintro m' L w15 ⟨M, c, hE, l214, l213, l25, hbf, l24, l191, l190, hM, l17, ot, l18, l19, l120, l119, l11, l7, l8, l9, l10, k15, hs15⟩
      rcases m' with _ | m'
      · rw [slv_less] at hE; cases hE
      rw [slv_less] at hE
      refine wp_seq <| rg <| vl rfl rfl (xlss l214 l213) <| nl <| wp_seq <| cnd rfl (fun h => ?_) (fun h => ?_)
      rotate_left
      · have hE := ifn hE h
        cases hE
        exact wp_exit <| lf ⟨_, hC, l191, l190, hM, l17, ot, l18, l19, l120, l119, l11, l7, l8, l9, l10, k15, hs15⟩
      have hE := ifp hE h
      have hz := bs hE; obtain ⟨row', Erow, hE⟩ := hz
      have hz := bs hE; obtain ⟨e, Ee, hE⟩ := hz
      have hz := bs hE; obtain ⟨lrow, Elrow, hE⟩ := hz
      have hz := bs hE; obtain ⟨g, Eg, hE⟩ := hz
      have hz := bs hE; obtain ⟨e', Ee', hE⟩ := hz
      have hz := hM.sl; obtain ⟨am3, cm3, ev3⟩ := hz
      refine wp_skip <| wp_seq <| wp_block <| wp_seq <| rg <| vl rfl rfl (xmva l214) <| vl rfl rfl xas <| nl <| wpl [22] (.pure true 0 (.pure true 1 (.pure true 2 (.pure false 3 (.pure true 4 (.pure true 5 (.pure true 6 (.pure true 7 (.pure false 8 (.pure true 9 (.pure true 10 (.pure false 11 (.pure false 12 (.pure true 13 (.pure true 14 (.pure true 15 (.pure false 16 (.pure true 17 (.pure true 18 (.pure false 19 (.eff 20 (.pure true 21 (.eff 22 .fin .stop)) .stop))))))))))))))))))))) mixed (by kernel_rfl) (fun w16 hx16 => ?_)
      have hM16 := hM.ext hx16
      rw [ev3] at hM16
      have lv := l11.trans ev3
      have hz := hM16.el Erow Ee; obtain ⟨bo3, fo3, br3, fr3, cr3, ea3, j1, j2, hco3, j3, j4, hce3, j5, j6, hro3, hset⟩ := hz
      have hz := hM16.el Elrow Eg; obtain ⟨bo4, fo4, br4, fr4, cr4, ea4, j7, j8, hco4, j9, j10, hce4, -, -, -, -⟩ := hz
      rw [ea3] at lv ea4
      cases ea4
      have hbf16 := hbf.ext hx16
      refine pv rfl rfl rfl (fun _ _ => xmva lv) (.inl rfl) <| pv rfl rfl rfl (fun _ _ => xmva l24) (.inl rfl) <| pv rfl rfl rfl (fun _ _ => xixs rfl rfl Try.underlying117 ti118 j1 j2) (.inl rfl) <| pv rfl rfl rfl (fun _ hS => xld rfl ti118 ((hco3.ext (hS.resolve_left nofun)).at 0 rfl)) (.inr (Ext.refl _)) <| pv rfl rfl rfl (fun _ _ => xmv) (.inl rfl) <| ?_
      refine pv rfl rfl rfl (fun _ _ => xmva lv) (.inl rfl) <| pv rfl rfl rfl (fun _ _ => xmva l24) (.inl rfl) <| pv rfl rfl rfl (fun _ _ => xixs rfl rfl Try.underlying117 ti118 j1 j2) (.inl rfl) <| pv rfl rfl rfl (fun _ hS => xld rfl ti118 ((hco3.ext (hS.resolve_left nofun)).at 0 rfl)) (.inr (Ext.refl _)) <| pv rfl rfl rfl (fun _ _ => xmv) (.inl rfl) <| ?_
      refine pv rfl rfl rfl (fun _ _ => xixs rfl rfl Try.underlying118 ti116 j3 j4) (.inl rfl) <| pv rfl rfl rfl (fun _ hS => xlda rfl ti116 rfl (hce3.ext (hS.resolve_left nofun))) (.inr (Ext.refl _)) <| pv rfl rfl rfl (fun _ hS => xlda l25 ti116 rfl (Bx.cs (hbf16.ext (hS.resolve_left nofun)))) (.inr (Ext.refl _)) <| ?_
      refine pv rfl rfl rfl (fun _ _ => xmva lv) (.inl rfl) <| pv rfl rfl rfl (fun _ _ => xmva l18) (.inl rfl) <| pv rfl rfl rfl (fun _ _ => xixs rfl rfl Try.underlying117 ti118 j7 j8) (.inl rfl) <| pv rfl rfl rfl (fun _ hS => xld rfl ti118 ((hco4.ext (hS.resolve_left nofun)).at 0 rfl)) (.inr (Ext.refl _)) <| pv rfl rfl rfl (fun _ _ => xmv) (.inl rfl) <| ?_
      refine pv rfl rfl rfl (fun _ _ => xixs rfl rfl Try.underlying118 ti116 j9 j10) (.inl rfl) <| pv rfl rfl rfl (fun _ hS => xlda rfl ti116 rfl (hce4.ext (hS.resolve_left nofun))) (.inr (Ext.refl _)) <| ?_
      refine pe1 rfl <| cl rfl rfl (xc cb77 (mc rfl (mc rfl (mc rfl mn)))) (c77 (rvflat (x := e)) (rvflat (x := f)) (rvflat (x := g)) Ee') ?_
      rintro _ w17 ⟨u17, rfl, ru, hx17⟩
      refine nl ⟨fun _ _ => hx17, ?_⟩
      obtain ⟨_, rfl, qu⟩ := ru
      obtain rfl := Flat.iff.1 qu
      refine pv rfl rfl rfl (fun _ _ => xixs rfl rfl Try.underlying118 ti116 j3 j4) (.inl rfl) <| pe1 rfl <| sstr (l := row') (i := c) (v := e') rfl rfl rfl ti116 (hro3.ext hx17) Ee fun w18 hc18 hr18 => nl ⟨fun h => (h (by decide)).elim, ?_⟩
      have hM18 := hset _ _ _ hx17 hc18 hr18
      rw [← ev3] at hM18
      have kx17 := hx16.tr hx17
      have k18 : Ext wb w18 := (k15.tr kx17).chg hc18 j5
      have hs18 : w6.heap.size ≤ w18.heap.size := by rw [hc18.size]; exact Nat.le_trans hs15 kx17.size
      have ot18 := (ot.ext kx17).chg hc18 j6
      have hb18 := (hbf.ext kx17).chg hc18 (by omega)
      refine rg <| vl rfl rfl (xadd l214 rfl) <| vl rfl rfl xmv <| nl ?_
      exact lq m' (Nat.lt_succ_self _) ⟨_, _, hE, rfl, l213, l25, hb18, l24, l191, l190, hM18, l17, ot18, l18, l19, l120, l119, l11, l7, l8, l9, l10, k18, hs18⟩
    clear hM l17 ot l18 l19 l120 l119 l11 l7 l8 l9 l10 k12 hs12 ev2
    rintro L w13 ⟨hM, l17, ot, l18, l19, l120, l119, l11, l7, l8, l9, l10, k13, hs13⟩
    have hz := ix_rset2 (a := (-1 : Int)) (i := i) Et0; obtain ⟨t1, Et1⟩ := hz
    have hz := RV.sl ot.rv; obtain ⟨a17, c17', ev17, -, -, -⟩ := hz
    have otv := ot
    rw [ev17] at otv
    have lv := l17.trans ev17
    have hz := (RV.els otv.rv).ix Et1; obtain ⟨bt', ft', _, rfl, i1', i2', -, -⟩ := hz
    have hgt' := otv.lt bt' rfl
    refine wp_seq <| rg <| vl rfl rfl (xmva lv) <| vl rfl rfl (xmva l19) <| vl rfl rfl (xmva l18) <| vl rfl rfl (xixs rfl rfl Try.underlying26 ti3 i1' i2') <| ?_
    refine sstr (l := rset T i (-1)) (i := i) (v := used) rfl rfl rfl ti3 otv Et1 fun w14 hc14 ot14 => nl ?_
    rw [← ev17] at ot14
    have k14 : Ext wb w14 := k13.chg hc14 (Nat.le_trans k6.size hgt'.1)
    have hs14 : w6.heap.size ≤ w14.heap.size := Nat.le_trans hs13 (Nat.le_of_eq hc14.size.symm)
    have hM14 := hM.chgo hc14 (.inr hgt'.1)
    refine rg <| vl rfl rfl (xmva l18) <| vl rfl rfl (xadd rfl rfl) <| vl rfl rfl xas <| nl <| lf ?_
    rw [hv'] at l11 hM14
    exact ⟨_, _, _, _, hB, l17, ot14, rfl, l120, l119, hM14, l11, l7, l8, l9, l10, k14, hs14⟩
  rintro L w7 ⟨vt, l17, ot, l18, hM, l11, l7, l8, l9, l10, k7, hs7⟩
  have hz := bs hF; obtain ⟨o, Eo, hF⟩ := hz
  refine wp_seq <| wp_seq <| rg <| vl rfl rfl (xmva l18) <| vl rfl rfl xas <| nl ?_
  refine ct (fun L w => (∃ m r, slv_last F n kinds p.1 m r = some o ∧ o = .inr ()) ∧ L 17 = vt ∧ Row (α := Int) 3 w6.heap.size w vt p.2.1 ∧ MatT (α := Rt) 118 116 wb.heap.size w6.heap.size w v p.1 ∧ L 11 = v ∧ L 7 = .pointer (some ⟨b7, 0, none⟩) ∧ L 8 = .pointer (some ⟨b8, 0, none⟩) ∧ L 9 = .int .i64 n ∧ L 10 = .int .i64 kinds ∧ Ext wb w ∧ w6.heap.size ≤ w.heap.size) ?_ ?_
  · refine wp_block <| lp (I := fun m L w => ∃ r, slv_last F n kinds p.1 m r = some o ∧ L 27 = .int .i64 r ∧ L 17 = vt ∧ Row (α := Int) 3 w6.heap.size w vt p.2.1 ∧ MatT (α := Rt) 118 116 wb.heap.size w6.heap.size w v p.1 ∧ L 11 = v ∧ L 7 = .pointer (some ⟨b7, 0, none⟩) ∧ L 8 = .pointer (some ⟨b8, 0, none⟩) ∧ L 9 = .int .i64 n ∧ L 10 = .int .i64 kinds ∧ Ext wb w ∧ w6.heap.size ≤ w.heap.size) F
      ⟨_, Eo, rfl, l17, ot, hM, l11, l7, l8, l9, l10, k7, hs7⟩ ?_
    clear l17 ot l18 hM l11 l7 l8 l9 l10 k7 hs7
    rintro m L w8 ⟨r8, hC, l27, l17, ot, hM, l11, l7, l8, l9, l10, k8, hs8⟩
    rcases m with _ | m
    · rw [slv_last] at hC; cases hC
    rw [slv_last] at hC
    refine wp_seq <| wp_seq <| rg <| vl rfl rfl (xmva l27) <| vl rfl rfl (xmva l10) <| vl rfl rfl (xlss rfl rfl) <| nl <| cnd rfl (fun h => ?_) (fun h => ?_)
    rotate_left
    · have hC := ifn hC h
      cases hC
      exact wp_exit <| lf ⟨⟨_, _, Eo, rfl⟩, l17, ot, hM, l11, l7, l8, l9, l10, k8, hs8⟩
    have hC := ifp hC h
    have hz := bs hC; obtain ⟨row, Erow, hC⟩ := hz
    have hz := bs hC; obtain ⟨e, Ee, hC⟩ := hz
    have hz := hM.sl; obtain ⟨am3, cm3, ev3⟩ := hz
    refine wp_skip <| wp_seq <| wp_block <| wp_seq <| wpl [] (.pure true 0 (.pure true 1 (.pure true 2 (.pure false 3 (.pure true 4 (.pure true 5 (.pure false 6 (.pure false 7 (.pure true 8 .fin))))))))) mixed (by kernel_rfl) (fun w9 hx9 => ?_)
    have hM9 := hM.ext hx9
    rw [ev3] at hM9
    have lv := l11.trans ev3
    have hz := hM9.el Erow Ee; obtain ⟨bo3, fo3, br3, fr3, cr3, ea3, j1, j2, hco3, j3, j4, hce3, j5, j6, hro3, -⟩ := hz
    rw [ea3] at lv
    have d8_9 := (d8.ext k8).ext hx9
    refine pv rfl rfl rfl (fun _ _ => xmva lv) (.inl rfl) <| pv rfl rfl rfl (fun _ _ => xmva l27) (.inl rfl) <| pv rfl rfl rfl (fun _ _ => xixs rfl rfl Try.underlying117 ti118 j1 j2) (.inl rfl) <| pv rfl rfl rfl (fun _ hS => xld rfl ti118 ((hco3.ext (hS.resolve_left nofun)).at 0 rfl)) (.inr (Ext.refl _)) <| ?_
    refine pv rfl rfl rfl (fun _ _ => xmva l9) (.inl rfl) <| pv rfl rfl rfl (fun _ _ => xixs rfl rfl Try.underlying118 ti116 j3 j4) (.inl rfl) <| pv rfl rfl rfl (fun _ hS => xlda rfl ti116 rfl (hce3.ext (hS.resolve_left nofun))) (.inr (Ext.refl _)) <| ?_
    refine pv rfl rfl rfl (fun _ hS => xlda l8 ti116 rfl (Bx.cs (d8_9.ext (hS.resolve_left nofun)))) (.inr (Ext.refl _)) <| pv rfl rfl rfl (fun _ _ => xagn rfl eg116 eq116 rfl rfl rfl rfl rfl) (.inl rfl) <| ?_
    refine cnd rfl (fun h2 => ?_) (fun h2 => ?_)
    rotate_left
    · have hC := ifn hC h2
      refine wp_skip <| rg <| vl rfl rfl (xmva l27) <| vl rfl rfl (xadd rfl rfl) <| vl rfl rfl xas <| nl ?_
      exact lq m (Nat.lt_succ_self _) ⟨_, hC, rfl, l17, ot.ext hx9, hM.ext hx9, l11, l7, l8, l9, l10, k8.tr hx9, Nat.le_trans hs8 hx9.size⟩
    have hC := ifp hC h2
    have hz := bs hC; obtain ⟨d, Ed, hC⟩ := hz
    have hz := bs hC; obtain ⟨wl, Ewl, hC⟩ := hz
    cases hC
    cases hF
    have hz := slo hro3.rv Ed Try.underlying118 ti116; obtain ⟨a', c', rd, hslo⟩ := hz
    refine wp_seq <| rg <| vl rfl rfl (xmva lv) <| vl rfl rfl (xmva l27) <| vl rfl rfl (xixs rfl rfl Try.underlying117 ti118 j1 j2) <| vl rfl rfl (xld rfl ti118 (hco3.at 0 rfl)) <| vl rfl rfl (xmva l9) <| vl rfl rfl (xadd rfl rfl) <| vl rfl rfl (hslo _ _ _ _ _ _ _ _ _ _ rfl rfl) <| ?_
    refine cl rfl rfl (xc cb78 (mc rfl mn)) (c78 rd Ewl) ?_
    rintro _ w10 ⟨u10, rfl, ru, hx10⟩
    have d7_10 := ((d7.ext k8).ext hx9).ext hx10
    have hz := RV.sl ru.rv; obtain ⟨au, cu, rfl, -, -, -⟩ := hz
    refine vl rfl rfl xmv <| vl rfl rfl (xext rfl rfl) <| vl rfl rfl (xext rfl rfl) <| vl rfl rfl xas <| vl rfl rfl xas <| nl <| wp_seq <| rg <| vl rfl rfl xmv <| vl rfl rfl (xbdv (r := [.slice none 0 0, .int .i64 0]) ti62 sp62 pn rfl) <| vl rfl rfl xas <| sst l7 rfl rfl ti62 d7_10 rfl rfl (ble rfl) fun w11 hc11 hb11 => nl ?_
    have hb11' : Bx w11 b7 62 [.slice none 0 0, .int .i64 0] := hb11
    have h7l := d7.lt
    have hne : b7 < wb.heap.size := h7l
    have hk7 : w0.heap.size ≤ b7 := Nat.le_trans ((hx1.tr hx2)).size hg3
    have k11 : Ext w0 w11 := (((kb.tr k8).tr hx9).tr hx10).chg hc11 hk7
    have ru11 : Row (α := Int) 2 w0.heap.size w11 (.slice au wl.1.length cu) wl.1 := (ru.chg hc11 (by have := k8.size; have := hx9.size; omega)).bnd (Nat.le_trans kb.size (Nat.le_trans k8.size hx9.size))
    exact wp_ret <| rt rfl (.tmp rfl rfl (.cell l7 rfl ti62 rfl (Bx.cs hb11') .nil)) ⟨_, _, rfl, ru11, Row.nil, k11⟩
  clear l17 ot l18 hM l11 l7 l8 l9 l10 k7 hs7
  rintro L w8 ⟨⟨_, _, _, rfl⟩, l17, ot, hM, l11, l7, l8, l9, l10, k8, hs8⟩
  have hz := bs hF; obtain ⟨t0, Et0, hF⟩ := hz
  have hz := bs hF; obtain ⟨t, Et, hF⟩ := hz
  have hz := bs hF; obtain ⟨q, Eq, hF⟩ := hz
  cases hF
  refine wp_seq <| rg <| vl rfl rfl (xmva l9) <| smks (α := Rt) (z0 := ((0, 0) : Rt)) rfl rfl Try.underlying118 ti116 rfl rfl rfl Et0 fun b30 w9 hx9 o9 => ?_
  have hz := RV.sl ot.rv; obtain ⟨a17, c17, ev17, -, -, -⟩ := hz
  refine vl rfl rfl xas <| nl <| wp_seq <| wp_seq <| rg <| vl rfl rfl (xmva l17) <| vl rfl rfl (xlen ev17 Try.underlying26) <| vl rfl rfl xmv <| nl ?_
  refine ct (fun L w => ∃ vr, Row (α := Rt) 116 w8.heap.size w vr t ∧ L 30 = vr ∧ L 17 = vt ∧ L 11 = v ∧ L 7 = .pointer (some ⟨b7, 0, none⟩) ∧ L 8 = .pointer (some ⟨b8, 0, none⟩) ∧ L 9 = .int .i64 n ∧ Ext w8 w) ?_ ?_
  · refine wp_block <| lp (I := fun m L w => ∃ y i vr, slv_times n p.1 p.2.1 m y i = some t ∧ Row (α := Rt) 116 w8.heap.size w vr y ∧ L 280 = .int .i64 i ∧ L 279 = .int .i64 (p.2.1.length : Int) ∧ L 278 = vt ∧ L 30 = vr ∧ L 17 = vt ∧ L 11 = v ∧ L 7 = .pointer (some ⟨b7, 0, none⟩) ∧ L 8 = .pointer (some ⟨b8, 0, none⟩) ∧ L 9 = .int .i64 n ∧ Ext w8 w) F
      ⟨_, _, _, Et, o9, rfl, rfl, rfl, rfl, l17, l11, l7, l8, l9, hx9⟩ ?_
    clear l17 l11 l7 l8 l9
    rintro m L w10 ⟨y, i, vr, hC, hr, l280, l279, l278, l30, l17, l11, l7, l8, l9, k10⟩
    rcases m with _ | m
    · rw [slv_times] at hC; cases hC
    rw [slv_times] at hC
    refine wp_seq <| rg <| vl rfl rfl (xlss l280 l279) <| nl <| wp_seq <| cnd rfl (fun h => ?_) (fun h => ?_)
    rotate_left
    · have hC := ifn hC h
      cases hC
      exact wp_exit <| lf ⟨_, hr, l30, l17, l11, l7, l8, l9, k10⟩
    have hC := ifp hC h
    have hz := bs hC; obtain ⟨rr, Err, hC⟩ := hz
    have hz := bs hC; obtain ⟨ye, Eye, hC⟩ := hz
    have ot10 := ot.ext k10
    rw [ev17] at ot10
    have hz := (RV.els ot10.rv).ix Err; obtain ⟨bt, ft, _, rfl, j1, j2, rfl, hct⟩ := hz
    have hz := RV.sl hr.rv; obtain ⟨ar, cr, evr, -, -, -⟩ := hz
    have hrv := hr
    rw [evr] at hrv
    have lvr := l30.trans evr
    have hz := (RV.els hrv.rv).ix Eye; obtain ⟨b31, f31, _, rfl, j3, j4, -, -⟩ := hz
    have d8_10 := (d8.ext k8).ext k10
    have hg31 := (hrv.lt b31 rfl).1
    refine wp_skip <| wp_seq <| wp_block <| wp_seq <| rg <| vl rfl rfl (xmva l280) <| vl rfl rfl (xixs (l278.trans ev17) l280 Try.underlying26 ti3 j1 j2) <| vl rfl rfl (xld rfl ti3 (hct.at 0 rfl)) <| vl rfl rfl xas <| vl rfl rfl xas <| nl <| wp_seq <| rg <| vl rfl rfl (xmva lvr) <| vl rfl rfl xmv <| vl rfl rfl (xlda l8 ti116 rfl (Bx.cs d8_10)) <| vl rfl rfl (xixs rfl rfl Try.underlying118 ti116 j3 j4) <| ?_
    refine sstr (l := y) (i := i) (v := ((0, 1) : Rt)) rfl rfl rfl ti116 hrv Eye fun w11 hc11 hr11 => nl ?_
    have k11 : Ext w8 w11 := k10.chg hc11 hg31
    refine wp_seq <| rg <| vl rfl rfl xmv <| vl rfl rfl (xgeq rfl rfl) <| nl <| cnd rfl (fun h2 => ?_) (fun h2 => ?_)
    · have hC := ifp hC h2
      have hz := bs hC; obtain ⟨row, Erow, hC⟩ := hz
      have hz := bs hC; obtain ⟨e, Ee, hC⟩ := hz
      have hz := ix_rset2 (a := ((0, 1) : Rt)) (i := i) Eye; obtain ⟨ye', Eye'⟩ := hz
      have hz := hM.sl; obtain ⟨am3, cm3, ev3⟩ := hz
      have hM11 := hM.ext k11
      rw [ev3] at hM11
      have lv := l11.trans ev3
      have hz := hM11.el Erow Ee; obtain ⟨bo3, fo3, br3, fr3, cr3, ea3, j5, j6, hco3, j7, j8, hce3, -, -, -, -⟩ := hz
      rw [ea3] at lv
      refine rg <| vl rfl rfl (xmva lvr) <| vl rfl rfl xmv <| vl rfl rfl (xmva lv) <| vl rfl rfl xmv <| vl rfl rfl (xixs rfl rfl Try.underlying117 ti118 j5 j6) <| vl rfl rfl (xld rfl ti118 (hco3.at 0 rfl)) <| vl rfl rfl (xmva l9) <| vl rfl rfl (xixs rfl rfl Try.underlying118 ti116 j7 j8) <| vl rfl rfl (xlda rfl ti116 rfl hce3) <| vl rfl rfl (xixs rfl rfl Try.underlying118 ti116 j3 j4) <| ?_
      refine sstr (i := i) (v := e) rfl rfl rfl ti116 hr11 Eye' fun w12 hc12 hr12 => nl ?_
      refine rg <| vl rfl rfl (xadd l280 rfl) <| vl rfl rfl xmv <| nl ?_
      rw [← evr] at hr12
      exact lq m (Nat.lt_succ_self _) ⟨_, _, _, hC, by simpa [rset] using hr12, rfl, l279, l278, l30, l17, l11, l7, l8, l9, k11.chg hc12 hg31⟩
    · have hC := ifn hC h2
      refine wp_skip <| rg <| vl rfl rfl (xadd l280 rfl) <| vl rfl rfl xmv <| nl ?_
      rw [← evr] at hr11
      exact lq m (Nat.lt_succ_self _) ⟨_, _, _, hC, hr11, rfl, l279, l278, l30, l17, l11, l7, l8, l9, k11⟩
  clear l17 l11 l7 l8 l9
  rintro L w10 ⟨vr, hr, l30, l17, l11, l7, l8, l9, k10⟩
  refine wp_seq <| rg <| vl rfl rfl (xmva l30) <| cl rfl rfl (xc cb78 (mc rfl mn)) (c78 hr.rv Eq) ?_
  rintro _ w11 ⟨u11, rfl, ru, hx11⟩
  have d7_11 := ((d7.ext k8).ext k10).ext hx11
  have hz := RV.sl ru.rv; obtain ⟨au, cu, rfl, -, -, -⟩ := hz
  refine vl rfl rfl xmv <| vl rfl rfl (xext rfl rfl) <| vl rfl rfl (xext rfl rfl) <| vl rfl rfl xas <| vl rfl rfl xas <| nl <| wp_seq <| rg <| vl rfl rfl xmv <| vl rfl rfl xmv <| vl rfl rfl (xbdv (r := [.slice au q.1.length cu, .int .i64 q.2]) ti62 sp62 (pc rfl (pc rfl pn)) rfl) <| vl rfl rfl xas <| sst l7 rfl rfl ti62 d7_11 rfl rfl (ble rfl) fun w12 hc12 hb12 => nl ?_
  have hb12' : Bx w12 b7 62 [.slice au q.1.length cu, .int .i64 q.2] := hb12
  have h7l := d7.lt
  have hne : b7 < wb.heap.size := h7l
  have hk7 : w0.heap.size ≤ b7 := Nat.le_trans ((hx1.tr hx2)).size hg3
  have k12 : Ext w0 w12 := (((kb.tr k8).tr k10).tr hx11).chg hc12 hk7
  have ru12 : Row (α := Int) 2 w0.heap.size w12 (.slice au q.1.length cu) q.1 := (ru.chg hc12 (by have := k8.size; have := k10.size; omega)).bnd (Nat.le_trans kb.size (Nat.le_trans k8.size k10.size))
  exact wp_ret <| rt rfl (.tmp rfl rfl (.cell l7 rfl ti62 rfl (Bx.cs hb12') .nil)) ⟨_, _, rfl, Row.nil, ru12, k12⟩
end Go.Proofs.Ytboefnpnoojfpaa
