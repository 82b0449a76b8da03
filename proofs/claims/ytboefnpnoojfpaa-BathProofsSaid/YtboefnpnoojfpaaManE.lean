/-
  The most things of a kind. Condition: the pure function computes something.
-/
import Derived.Test.YtboefnpnoojfpaaManD
namespace Go.Proofs.Ytboefnpnoojfpaa
open Go Go.Md Go.RowKit
attribute [local irreducible] Go.wpList Go.Code.wp Go.Calls Go.Md.Rnd Go.Md.Mt Go.Md.MtM Go.Md.RndM Go.Code.wpIn

def mostIn (kind : Int) : List St → St → Option St
  | [], b => some b
  | x :: l, b => (ix x.l kind) >>= fun a => (ix b.l kind) >>= fun c => mostIn kind l (if (decide (c < a)) = true then x else b)
def bath_Most (F : Nat) (x0 : Spec) (x1 : List Int) (x2 : Int) : Option (Int × List Int × Int) :=
  (bath_open F x0 ([x1] : List (List Int))) >>= fun x4 =>
  if (!decide (x4.2.2 = 0)) = true then some (0, [], x4.2.2) else
  if (decide (x2 < 0) || decide ((x1.length : Int) ≤ x2)) = true then some (0, [], 2) else
  (x4.1.v) >>= fun _ => (ix x4.2.1 0) >>= fun f => (bath_reached F x0 f) >>= fun r =>
  (mostIn x2 (r.1.map (·.1)) f) >>= fun b => (ix b.l x2) >>= fun y => (bath_shop_way F r.2 b) >>= fun w => some (y, w, 0)

set_option maxHeartbeats 4000000 in
theorem c24 {w0 : World} {v0 : Value} {x0 : Spec} (r0 : RV w0 v0 x0) {v1 : Value} {x1 : List Int} (r1 : RV w0 v1 x1) {x2 : Int} {F : Nat} {r : Int × List Int × Int} (hF : bath_Most F x0 x1 x2 = some r) :
    Calls Try.prog 24 [v0, v1, .int .i64 x2].toArray w0 (Ret fun v w' => ∃ u1 : Value, v = .tuple #[.int .i64 r.1, u1, .int .i64 r.2.2] ∧ RV w' u1 r.2.1 ∧ Ext w0 w') := by
  unfold bath_Most at hF
  have hz := id r0; obtain ⟨_, rfl, ⟨_, _, rfl, ⟨a1, cq1, rfl, p1, q4, e1⟩, ⟨a2, cq2, rfl, p2, q5, e2⟩⟩⟩ := hz
  have r4 := RV.of1 p1 q4 e1
  have r5 := RV.of1 p2 q5 e2
  have hz := r1.sl; obtain ⟨a3, cq3, rfl, -, -, -⟩ := hz
  refine entrM (m := 12) (n := 58) Try.func24 rfl rfl rfl <| wp_seq <| rg <| sbx rfl rfl fun b4 w1 hx1 hg1 hb1 => sbx rfl rfl fun b5 w2 hx2 hg2 hb2 => ?_
  have k1 := hx1.tr hx2
  have hb3 := hb1.ext hx2
  have r10 := r4.ext k1
  have r11 := r5.ext k1
  have r12 := r1.ext k1
  refine vl rfl rfl xas <| vl rfl rfl xas <| vl rfl rfl xas <| nl <| wp_seq <| rg <| vl rfl rfl (xlda rfl ti25 rfl (Bx.cs hb3)) <| vl rfl rfl xmv <| sbsv (cs := [.slice a3 x1.length cq3]) Try.underlying101 ti22 rfl (pc rfl pn) rfl rfl rfl rfl rfl fun b6 w3 hx3 hg3 hb4 => ?_
  have k2 := k1.tr hx3
  have r14 := r12.ext hx3
  have r15 := r10.ext hx3
  have r16 := r11.ext hx3
  have r13 : RV w3 (.slice (some ⟨b6, 0, none⟩) 1 1) ([x1] : List (List Int)) := RV.lit hb4 (css := [[.slice a3 x1.length cq3]]) rfl ⟨r14.rep1, trivial⟩ rfl (ble rfl)
  have hz := bs hF; obtain ⟨x4, Ex4, hF⟩ := hz
  refine cl rfl rfl (xc cb45 (mc rfl (mc rfl mn))) (c45o (show RV (α := Spec) _ (.agg [.slice a1 x0.1.length cq1, .slice a2 x0.2.length cq2].toArray) (x0.1, x0.2) from ⟨_, rfl, ⟨[.slice a1 x0.1.length cq1], [.slice a2 x0.2.length cq2], rfl, r15.rep1, r16.rep1⟩⟩) r13 Ex4) ?_
  rintro _ w4 ⟨u1, u2, rfl, hf, o18, hx4⟩
  have r18 := o18.rv
  have k4 := k2.tr hx4
  have hb6 := (hb2.ext hx3).ext hx4
  have hz := RV.sl r18; obtain ⟨a5, cq4, rfl, -, -, -⟩ := hz
  refine vl rfl rfl xmv <| vl rfl rfl (xext rfl rfl) <| vl rfl rfl (xext rfl rfl) <| vl rfl rfl (xext rfl rfl) <| vl rfl rfl xas <| vl rfl rfl xas <| vl rfl rfl xas <| nl <| wp_seq <| wp_block <| wp_seq <| rg <| vl rfl rfl xmv <| vl rfl rfl (xneq rfl rfl) <| vl rfl rfl xas <| nl <| cnd rfl (fun h4 => ?_) (fun h4 => ?_)
  · have hF := ifp hF h4
    refine wp_seq <| rg <| vl rfl rfl xmv <| vl rfl rfl xas <| vl rfl rfl xas <| vl rfl rfl xas <| nl <| wp_ret <| rtMs rfl (Mks.nil (B := w0.heap.size)) fun w5 hT1 => ?_
    have k7 : Ext w0 w5 := Below.tak k4 hT1 (Nat.le_refl _)
    cases hF
    exact ⟨_, (.tmp rfl rfl (.tmp rfl rfl (.tmp rfl rfl .nil))), ⟨_, rfl, (RVo.nil (Nat.zero_le _)), k7⟩⟩
  have hF := ifn hF h4
  refine wp_seq <| rg <| vl rfl rfl (xld rfl ti3 ((Bx.cs hb6).at 0 rfl)) <| vl rfl rfl (xlss rfl rfl) <| vl rfl rfl xmv <| gv rfl rfl rfl rfl (gw0 rfl) rfl (fun hc => xld rfl ti3 ((Bx.cs hb6).at 0 rfl)) <| gv rfl rfl rfl rfl (gw0 rfl) rfl (fun hc => xmva rfl) <| gv rfl rfl rfl rfl (gw0 rfl) rfl (fun hc => xlen (mv hc rfl) Try.underlying22) <| gv rfl rfl rfl rfl (gw0 rfl) rfl (fun hc => xgeq (mv hc rfl) (mv hc rfl)) <| vl rfl rfl (xpo rfl rfl rfl) <| vl rfl rfl xas <| nl <| cnd rfl (fun h5 => ?_) (fun h5 => ?_)
  · have hF := ifp hF h5
    refine wp_seq <| rg <| vl rfl rfl xas <| vl rfl rfl xas <| vl rfl rfl xas <| nl <| wp_ret <| rtMs rfl (Mks.nil (B := w0.heap.size)) fun w6 hT2 => ?_
    have k8 : Ext w0 w6 := Below.tak k4 hT2 (Nat.le_refl _)
    cases hF
    exact ⟨_, (.tmp rfl rfl (.tmp rfl rfl (.tmp rfl rfl .nil))), ⟨_, rfl, (RVo.nil (Nat.zero_le _)), k8⟩⟩
  have hF := ifn hF h5
  have hz := bs hF; obtain ⟨s5, Ex5, hF⟩ := hz
  have hz := bs hF; obtain ⟨f, Ef, hF⟩ := hz
  have hz := bs hF; obtain ⟨⟨us, bf⟩, Er, hF⟩ := hz
  have hz := bs hF; obtain ⟨bst, Eb, hF⟩ := hz
  have hz := bs hF; obtain ⟨y, Ey, hF⟩ := hz
  have hz := bs hF; obtain ⟨way, Ew, hF⟩ := hz
  cases hF
  have hz := hf.get Ex5; obtain ⟨bo, rfl, hgo, hbo⟩ := hz
  have hbo : Bx w4 bo 105 [.slice a1 x0.1.length cq1, .slice a2 x0.2.length cq2, .map none] := hbo
  have hz := (RV.els r18).ix Ef; obtain ⟨b7, f1, cs4, e3, i1, i2, q6, hc1⟩ := hz
  cases e3
  obtain rfl := q6
  refine wp_skip <| wp_seq <| rg <| vl rfl rfl xmv <| vl rfl rfl (xixs rfl rfl Try.underlying73 ti79 i1 i2) <| vl rfl rfl (xlda rfl ti79 (arlen _) hc1) <| sal ti79 fun b8 w7 hx5 hg4 hb7 => sstf (u := f) rfl rfl ti79 rfl hb7 rfl fun w8 hch1 hb8 => ?_
  have k48 : Ext w4 w8 := hx5.chg hch1 hg4
  have hc3 := hc1.ext k48
  refine nl <| wp_seq <| wp_seq <| rg <| vl rfl rfl xmv <| vl rfl rfl xmv <| vl rfl rfl (xixs rfl rfl Try.underlying73 ti79 i1 i2) <| vl rfl rfl (xlda rfl ti79 (arlen _) hc3) <| ?_
  refine cl rfl rfl (xc cb58 (mc rfl (mc rfl mn))) (c58 (bo := bo) (x := f)) fun v w9 hv => ?_
  obtain ⟨bx1, bx2, rfl, h1, h2, hgx1, hgx2, -, hx9⟩ := hv
  have k09 : Ext w0 w9 := (k4.tr k48).tr hx9
  have hs03 := k2.size
  have hs4 := hx4.size
  have hs48 := k48.size
  have hs9 := hx9.size
  have hbol := hbo.lt
  have hb8l := hb8.lt
  have hb5l := hb2.lt
  have hs23 := hx3.size
  refine nl <| wp_block <| rangeMB (α := St) (xs := us.map (·.1)) (m := 12) (bs := bo) (St := StB bo w9.heap.size _ _ us bf) (Kp := Kp2 w4.heap.size w8.heap.size w9.heap.size) (by decide) (by omega) (KpOk.beli.and KpOk.keepc) rfl cb74
    (st74 k09 r4 r5 h1 h2 ((hbo.ext k48).ext hx9) (by omega) hbol hs48 hs9 hgx1 hgx2 Er) rfl rfl rfl ti79 rfl
    (fun k W => ∃ best, mostIn x2 (List.drop k (us.map (·.1))) best = some bst ∧ Bx W b8 79 (Flat.enc best) ∧ Bx W b5 3 [.int .i64 x2] ∧ Ext w0 W ∧ w9.heap.size ≤ W.heap.size) (fun _ _ => False) (fun k => Okb.ex fun _ => Okb.and Okb.pure (Okb.and Okb.bx (Okb.and Okb.bx (Okb.and (Okb.extw k09.size) Okb.size))))
    (fun k A C ⟨best, h0, h1, h2, h3, h4⟩ e => ⟨best, h0, h1.belx e (by omega) (by omega) (by omega), h2.belx e (by omega) (by omega) (by omega), h3.belx e k09.size (by omega) (by omega), Nat.le_trans h4 e.size⟩) (fun k A C => StB.ext k A C) (fun k A C l r => StB.loop k A C l r) (fun _ => Okb.pure)
    ⟨f, Eb, hb8.ext hx9, (hb6.ext k48).ext hx9, k09, Nat.le_refl _⟩ (fun k A ⟨_, _, _, _, _, h⟩ => h) ?round ?done ?stop
  case round =>
    rintro l k x W b hx ⟨best, hB, hbb, hbk, hk, hs⟩ - hgb hbx
    rw [drop_at hx, mostIn] at hB
    have hz := bs hB; obtain ⟨p, Ep, hB⟩ := hz
    have hz := bs hB; obtain ⟨q, Eq, hB⟩ := hz
    refine wpIn_block <| wpIn_seq <| wplR [] (.pure false 0 (.pure true 1 (.pure false 2 (.pure false 3 (.pure true 4 (.pure false 5 (.pure true 6 .fin))))))) mixed (by kernel_rfl) (fun wd hxd => ?_)
    have dbb := hbb.ext hxd
    have dbk := hbk.ext hxd
    have dbx := hbx.ext hxd
    have hz := ixar (Bx.cs dbx) Ep; obtain ⟨j1, j2, hcp⟩ := hz
    have hz := ixar (Bx.cs dbb) Eq; obtain ⟨j3, j4, hcq⟩ := hz
    refine pv rfl rfl rfl (fun _ hS => xld rfl ti3 ((Bx.cs (dbk.ext (hS.resolve_left nofun))).at 0 rfl)) (.inr (Ext.refl _)) <| pv rfl rfl rfl (fun _ _ => xixa rfl rfl Try.underlying79 ti2 j1 j2) (.inl rfl) <| pv rfl rfl rfl (fun _ hS => xld rfl ti2 ((hcp.ext (hS.resolve_left nofun)).at 0 rfl)) (.inr (Ext.refl _)) <| ?_
    refine pv rfl rfl rfl (fun _ hS => xld rfl ti3 ((Bx.cs (dbk.ext (hS.resolve_left nofun))).at 0 rfl)) (.inr (Ext.refl _)) <| pv rfl rfl rfl (fun _ _ => xixa rfl rfl Try.underlying79 ti2 j3 j4) (.inl rfl) <| pv rfl rfl rfl (fun _ hS => xld rfl ti2 ((hcq.ext (hS.resolve_left nofun)).at 0 rfl)) (.inr (Ext.refl _)) <| pv rfl rfl rfl (fun _ _ => xgtr rfl rfl) (.inl rfl) <| ?_
    refine cndR rfl (fun h => ?_) (fun h => wpIn_skip ?_)
    · rw [if_pos h] at hB
      refine rgR rfl <| vl rfl rfl (xlda rfl ti79 (arlen _) (Bx.cs dbx)) <| sstf (u := x) rfl rfl ti79 rfl dbb (Flat.len best) fun W2 hc hb2 => nl ⟨hxd.kf.trans (hc.kf dbb), ⟨(BelI.of hxd hs).chg hc (.inl ⟨hg4, hb8l⟩), (KeepC.of hxd).chg hc (.inl ⟨hg4, hb8l⟩)⟩, x, hB, hb2, dbk.chg hc (by omega), (hk.tr hxd).chg hc (by omega), by rw [hc.size]; exact Nat.le_trans hs hxd.size⟩
    · rw [if_neg (by rw [h]; decide)] at hB
      exact ⟨hxd.kf, ⟨BelI.of hxd hs, KeepC.of hxd⟩, best, hB, dbb, dbk, hk.tr hxd, Nat.le_trans hs hxd.size⟩
  case done =>
    rintro D W hD ⟨best, hB, hbb, hbk, hk, hs⟩ hst hK
    rw [List.drop_length, mostIn] at hB
    cases hB
    obtain ⟨mb, hmb, hbo9, hm9⟩ := hst
    rw [List.length_map, byat_end] at hm9
    refine wp_seq <| wpl (D := [{ target := .collected D, args := #[] }]) [] (.pure false 0 (.pure true 1 (.pure false 2 (.pure true 3 (.pure false 4 (.eff 5 (.pure true 6 (.pure true 7 (.pure true 8 .fin))) .stop)))))) mixed (by kernel_rfl) (fun wd hxd => ?_)
    have dbb := hbb.ext hxd
    have dbk := hbk.ext hxd
    have hz := ixar (Bx.cs dbb) Ey; obtain ⟨j1, j2, hcp⟩ := hz
    refine pv rfl rfl rfl (fun _ hS => xld rfl ti3 ((Bx.cs (dbk.ext (hS.resolve_left nofun))).at 0 rfl)) (.inr (Ext.refl _)) <| pv rfl rfl rfl (fun _ _ => xixa rfl rfl Try.underlying79 ti2 j1 j2) (.inl rfl) <| pv rfl rfl rfl (fun _ hS => xld rfl ti2 ((hcp.ext (hS.resolve_left nofun)).at 0 rfl)) (.inr (Ext.refl _)) <| pv rfl rfl rfl (fun _ _ => xmva rfl) (.inl rfl) <| pv rfl rfl rfl (fun _ hS => xlda rfl ti79 (arlen _) (Bx.cs (dbb.ext (hS.resolve_left nofun)))) (.inr (Ext.refl _)) <| ?_
    refine pe1 rfl <| cl rfl rfl (xc cb59 (mc rfl (mc rfl mn))) (c59 (Bx.cs (hbo9.ext hxd)) (hm9.ext hxd) Ew) fun v w' hv => nl ⟨fun _ _ => hv.2, ?_⟩
    obtain ⟨ov, hxv⟩ := hv
    refine pv rfl rfl rfl (fun _ _ => xas) (.inl rfl) <| pv rfl rfl rfl (fun _ _ => xas) (.inl rfl) <| pv rfl rfl rfl (fun _ _ => xas) (.inl rfl) <| ?_
    have kk := hxd.tr hxv
    have hKd := (kk.block D (Array.getElem?_eq_some_iff.1 hK).1).trans hK
    have hput := chg_put (o' := .deferred none) hKd
    exact wp_ret <| rtM rfl hKd (.tmp rfl rfl (.tmp rfl rfl (.tmp rfl rfl .nil))) ⟨_, rfl, (ov.putne hKd rfl hput).rv, (hk.tr kk).chg hput (by omega)⟩
  case stop =>
    rintro D c W _ h _
    exact h.elim
end Go.Proofs.Ytboefnpnoojfpaa
