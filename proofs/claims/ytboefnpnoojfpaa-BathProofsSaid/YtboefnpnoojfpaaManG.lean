/-
  A stock without a move. Condition: the pure function computes something.
-/
import Derived.Test.YtboefnpnoojfpaaManF
namespace Go.Proofs.Ytboefnpnoojfpaa
open Go Go.Md Go.RowKit
attribute [local irreducible] Go.wpList Go.Code.wp Go.Calls Go.Md.Rnd Go.Md.Mt Go.Md.MtM Go.Md.RndM Go.Code.wpIn

def stuckIn (F : Nat) (x0 : Spec) : List (St × By) → Option (List Int × Int)
  | [] => some ([], 5)
  | p :: l => (bath_shop_still F (x0, Opq.mk) p.1) >>= fun b => if b = true then (bath_shop_way F p.2 p.1) >>= fun w => some (w, 0) else stuckIn F x0 l
def bath_Stuck (F : Nat) (x0 : Spec) (x1 : List Int) : Option (List Int × Int) :=
  (bath_open F x0 ([x1] : List (List Int))) >>= fun x4 =>
  if (!decide (x4.2.2 = 0)) = true then some ([], x4.2.2) else
  (x4.1.v) >>= fun _ => (ix x4.2.1 0) >>= fun f => (bath_reached F x0 f) >>= fun r => stuckIn F x0 r.1

set_option maxHeartbeats 8000000 in
theorem c26 {w0 : World} {v0 : Value} {x0 : Spec} (r0 : RV w0 v0 x0) {v1 : Value} {x1 : List Int} (r1 : RV w0 v1 x1) {F : Nat} {r : List Int × Int} (hF : bath_Stuck F x0 x1 = some r) :
    Calls Try.prog 26 [v0, v1].toArray w0 (Ret fun v w' => ∃ u0 : Value, v = .tuple #[u0, .int .i64 r.2] ∧ RV w' u0 r.1 ∧ Ext w0 w') := by
  unfold bath_Stuck at hF
  have hz := id r0; obtain ⟨_, rfl, ⟨_, _, rfl, ⟨a1, cq1, rfl, p1, q4, e1⟩, ⟨a2, cq2, rfl, p2, q5, e2⟩⟩⟩ := hz
  have r4 := RV.of1 p1 q4 e1
  have r5 := RV.of1 p2 q5 e2
  have hz := r1.sl; obtain ⟨a3, cq3, rfl, -, -, -⟩ := hz
  refine entrM (m := 12) (n := 36) Try.func26 rfl rfl rfl <| wp_seq <| rg <| sbx rfl rfl fun b4 w1 hx1 hg1 hb1 => sal ti26 fun b5 w2 hx2 hg2 hb2 => sal ti29 fun b6 w3 hx3 hg3 hb4 => ?_
  have k2 := (hx1.tr hx2).tr hx3
  have hb5 := (hb1.ext hx2).ext hx3
  have hb6 := hb2.ext hx3
  refine nl <| wp_seq <| rg <| vl rfl rfl (xlda rfl ti25 rfl (Bx.cs hb5)) <| vl rfl rfl xmv <| sbsv (cs := [.slice a3 x1.length cq3]) Try.underlying101 ti22 rfl (pc rfl pn) rfl rfl rfl rfl rfl fun b7 w4 hx4 hg4 hb7 => ?_
  have k4 := k2.tr hx4
  have r20 := r4.ext k4
  have r21 := r5.ext k4
  have r22 := r1.ext k4
  have r19 : RV w4 (.slice (some ⟨b7, 0, none⟩) 1 1) ([x1] : List (List Int)) := RV.lit hb7 (css := [[.slice a3 x1.length cq3]]) rfl ⟨r22.rep1, trivial⟩ rfl (ble rfl)
  have hz := bs hF; obtain ⟨x4, Ex4, hF⟩ := hz
  refine cl rfl rfl (xc cb45 (mc rfl (mc rfl mn))) (c45o (show RV (α := Spec) _ (.agg [.slice a1 x0.1.length cq1, .slice a2 x0.2.length cq2].toArray) (x0.1, x0.2) from ⟨_, rfl, ⟨[.slice a1 x0.1.length cq1], [.slice a2 x0.2.length cq2], rfl, r20.rep1, r21.rep1⟩⟩) r19 Ex4) ?_
  rintro _ w5 ⟨u1, u2, rfl, hf, o25, hx5⟩
  have k5 := k4.tr hx5
  have hb10 := (hb6.ext hx4).ext hx5
  have hb11 := (hb4.ext hx4).ext hx5
  have hz := fbm_ptr hf; obtain ⟨aa, rfl⟩ := hz
  have hz := RV.sl o25.rv; obtain ⟨a6, cq5, rfl, -, -, -⟩ := hz
  refine vl rfl rfl xmv <| vl rfl rfl (xext rfl rfl) <| vl rfl rfl (xext rfl rfl) <| vl rfl rfl (xext rfl rfl) <| sal ti72 fun b8 w6 hx6 hg5 hb12 => sst rfl rfl rfl ti72 hb12 rfl rfl (ble rfl) fun w7 hch1 hb15 => ?_
  have hb18 : Bx w7 b8 72 [.pointer aa] := hb15
  have k57 : Ext w5 w7 := hx6.chg hch1 hg5
  have k7 := k5.tr k57
  have hb25 := hb10.ext k57
  have hb26 := hb11.ext k57
  have o27 := o25.ext k57
  have h2l := hb2.lt
  have h4l := hb4.lt
  have hs1 := hx1.size
  have hs2 := hx2.size
  have hs3 := hx3.size
  have hs4 := hx4.size
  have hs5 := hx5.size
  have hs57 := k57.size
  have hne56 : b5 ≠ b6 := by omega
  refine vl rfl rfl xas <| vl rfl rfl xas <| nl <| wp_seq <| wp_seq <| rg <| vl rfl rfl xmv <| vl rfl rfl (xneq rfl rfl) <| nl <| cnd rfl (fun h4 => ?_) (fun h4 => ?_)
  · have hF := ifp hF h4
    refine wp_seq <| rg <| vl rfl rfl xmv <| sst rfl rfl rfl ti26 hb25 rfl rfl (ble rfl) fun w10 hch3 hb29 => sst rfl rfl rfl ti29 (hb26.chg hch3 (Ne.symm hne56)) rfl rfl (ble rfl) fun w11 hch4 hb32 => ?_
    have hb31 : Bx w10 b5 26 [.slice none 0 0] := hb29
    have hb33 := hb31.chg hch4 hne56
    have hb34 : Bx w11 b6 29 [.int .i64 x4.2.2] := hb32
    have k32 : Ext w0 w11 := (k7.chg hch3 (by omega)).chg hch4 (by omega)
    refine nl <| wp_ret <| rtMs rfl (Mks.nil (B := w0.heap.size)) fun w12 hT1 => ?_
    have k34 : Ext w0 w12 := Below.tak k32 hT1 (Nat.le_refl _)
    have hb35 := hb33.tak hT1
    have hb36 := hb34.tak hT1
    cases hF
    exact ⟨_, (.cell1 rfl rfl ti26 ((Bx.cs hb35).at 0 rfl) (.cell1 rfl rfl ti29 ((Bx.cs hb36).at 0 rfl) .nil)), ⟨_, rfl, (RVo.nil (Nat.zero_le _)), k34⟩⟩
  have hF := ifn hF h4
  have hz := bs hF; obtain ⟨s5, Es5, hF⟩ := hz
  have hz := bs hF; obtain ⟨f, Ef, hF⟩ := hz
  have hz := bs hF; obtain ⟨⟨us, bf⟩, Er, hF⟩ := hz
  have hF : stuckIn F x0 us = some r := hF
  have hz := hf.get Es5; obtain ⟨bo, eb, hgo, hbo⟩ := hz
  cases eb
  have hbo : Bx w5 bo 105 [.slice a1 x0.1.length cq1, .slice a2 x0.2.length cq2, .map none] := hbo
  have hbol := hbo.lt
  refine wp_skip <| wp_seq <| rg <| vl rfl rfl (xld rfl ti72 ((Bx.cs hb18).at 0 rfl)) <| vl rfl rfl (xmf (mc rfl mn) mn) <| sal ti98 fun b9 w8 hx8 hg8 hb27 => sst rfl rfl rfl ti98 hb27 rfl rfl (ble rfl) fun w9 hch9 hb31 => ?_
  have hb35 : Bx w9 b9 98 [.func (.func 63) [.pointer (some ⟨bo, 0, none⟩)].toArray [].toArray] := hb31
  have k79 : Ext w7 w9 := hx8.chg hch9 hg8
  have k59 := k57.tr k79
  have hs79 := k79.size
  have hb35l := hb35.lt
  have h18l := hb18.lt
  refine nl <| wp_seq <| wp_seq <| wpl [] (.pure false 0 (.pure true 1 (.pure true 2 (.pure false 3 (.eff 4 .fin .stop))))) mixed (by kernel_rfl) (fun w13 hx13 => ?_)
  have d8 := (hb18.ext k79).ext hx13
  have d9 := hb35.ext hx13
  have o33 := (o27.ext k79).ext hx13
  have hz := (RV.els o33.rv).ix Ef; obtain ⟨b10, f1, cs4, e3, i1, i2, q6, hc1⟩ := hz
  cases e3
  obtain rfl := q6
  refine pv rfl rfl rfl (fun _ hS => xld rfl ti72 ((Bx.cs (d8.ext (hS.resolve_left nofun))).at 0 rfl)) (.inr (Ext.refl _)) <| pv rfl rfl rfl (fun _ _ => xmv) (.inl rfl) <| pv rfl rfl rfl (fun _ _ => xixs rfl rfl Try.underlying73 ti79 i1 i2) (.inl rfl) <| pv rfl rfl rfl (fun _ hS => xlda rfl ti79 (arlen _) (hc1.ext (hS.resolve_left nofun))) (.inr (Ext.refl _)) <| ?_
  refine pe1 rfl <| cl rfl rfl (xc cb58 (mc rfl (mc rfl mn))) (c58 (bo := bo) (x := f)) fun v w14 hv => nl ⟨fun _ h => ?_, ?_⟩
  · obtain ⟨_, _, _, _, _, _, _, _, hx⟩ := hv; exact h.tr hx
  obtain ⟨bx1, bx2, rfl, h1, h2, hgx1, hgx2, -, hx9⟩ := hv
  have k513 : Ext w5 w13 := k59.tr hx13
  have k014 : Ext w0 w14 := (k5.tr k513).tr hx9
  have hs513 := k513.size
  have hs9 := hx9.size
  have hs13 := hx13.size
  refine wp_block <| rangeMB (α := St) (xs := us.map (·.1)) (m := 12) (bs := bo) (St := StB bo w14.heap.size _ _ us bf) (Kp := Kp2 w5.heap.size w13.heap.size w14.heap.size) (by decide) (by omega) (KpOk.beli.and KpOk.keepc) rfl cb74
    (st74 k014 r4 r5 h1 h2 ((hbo.ext k513).ext hx9) (by omega) hbol hs513 hs9 hgx1 hgx2 Er) rfl rfl rfl ti79 rfl
    (fun k W => stuckIn F x0 (List.drop k us) = some r ∧ Bx W b8 72 [.pointer (some ⟨bo, 0, none⟩)] ∧ Bx W b9 98 [Value.func (Fn.func 63) #[Value.pointer (some (Addr.mk bo 0 none))] #[]] ∧ Bx W b5 26 [.slice none 0 0] ∧ Bx W b6 29 [.int .i64 0] ∧ Ext w0 W ∧ w14.heap.size ≤ W.heap.size)
    (fun c W => ∃ v, c = .ret ∧ Bx W b5 26 [v] ∧ Row 3 w0.heap.size W v r.1 ∧ Bx W b6 29 [.int .i64 r.2] ∧ Ext w0 W)
    (fun k => Okb.and Okb.pure (Okb.and Okb.bx (Okb.and Okb.bx (Okb.and Okb.bx (Okb.and Okb.bx (Okb.and (Okb.extw k014.size) Okb.size))))))
    (fun k A C ⟨h0, h1, h2, h4, h5, h6, h7⟩ e => ⟨h0, h1.belx e (by omega) (by omega) (by omega), h2.belx e (by omega) (by omega) (by omega), h4.belx e (by omega) (by omega) (by omega), h5.belx e (by omega) (by omega) (by omega), h6.belx e k014.size (by omega) (by omega), Nat.le_trans h7 e.size⟩)
    (fun k A C => StB.ext k A C) (fun k A C l r => StB.loop k A C l r) (fun _ => Okb.ex fun _ => Okb.and Okb.pure (Okb.and Okb.bx (Okb.and Okb.row (Okb.and Okb.bx (Okb.extw k014.size)))))
    ⟨hF, d8.ext hx9, d9.ext hx9, ((hb25.ext k79).ext hx13).ext hx9, ((hb26.ext k79).ext hx13).ext hx9, k014, Nat.le_refl _⟩ (fun k A ⟨_, _, _, _, _, _, h⟩ => h) ?round ?done ?stop
  case round =>
    rintro l k x W b hx ⟨hB, g8, g9, g5, g6, hk, hs⟩ ⟨mb, _, hbo9, hm9⟩ hgb hbx
    rw [List.getElem?_map] at hx
    obtain ⟨p, hp, rfl⟩ := Option.map_eq_some_iff.1 hx
    rw [drop_at hp, stuckIn] at hB
    have hz := bs hB; obtain ⟨st, Est, hB⟩ := hz
    have hby : byat us bf k = p.2 := by
      have hk := (List.getElem?_eq_some_iff.1 hp).1
      simp only [byat]
      rw [List.getElem?_append_left (by simpa using hk)]
      simp [hp]
    rw [hby] at hm9
    have s4 := r4.ext hk
    have s5 := r5.ext hk
    refine wpIn_block <| wpIn_seq <| rgR rfl <| vl rfl rfl (xld rfl ti98 ((Bx.cs g9).at 0 rfl)) <| vl rfl rfl (xlda rfl ti79 (arlen _) (Bx.cs hbx)) <| ?_
    refine cl rfl rfl (xcv rfl cb63 (mc rfl mn) rfl) (c63 (x0 := (x0, Opq.mk)) (Bx.cs hbo9) ⟨[.slice a1 x0.1.length cq1] ++ [.slice a2 x0.2.length cq2], [.map (some mb)], rfl, ⟨[.slice a1 x0.1.length cq1], [.slice a2 x0.2.length cq2], rfl, s4.rep1, s5.rep1⟩, ⟨_, rfl, rfl⟩⟩ (show RV (α := St) _ (.agg (List.flatMap Flat.enc p.1.l).toArray) p.1 from ⟨_, rfl, rfl⟩) Est) ?_
    rintro _ wd ⟨rfl, hxd⟩
    have dbx := hbx.ext hxd
    have dg9 := g9.ext hxd
    have hbo' := hbo9.ext hxd
    have hm' := hm9.ext hxd
    have g8' := g8.ext hxd
    have g5' := g5.ext hxd
    have g6' := g6.ext hxd
    have hk' := hk.tr hxd
    have hsd := hxd.size
    refine nl <| cndR rfl (fun h => ?_) (fun h => wpIn_skip ?_)
    · rw [if_pos h] at hB
      have hz := bs hB; obtain ⟨way, Ew, hB⟩ := hz
      cases hB
      refine wpIn_seq <| rgR rfl <| vl rfl rfl (xld rfl ti72 ((Bx.cs g8').at 0 rfl)) <| vl rfl rfl (xlda rfl ti79 (arlen _) (Bx.cs dbx)) <| cl rfl rfl (xc cb59 (mc rfl (mc rfl mn))) (c59 (Bx.cs hbo') hm' Ew) fun v w15 hv => ?_
      obtain ⟨ov, hx15⟩ := hv
      have hz := RV.sl ov.rv; obtain ⟨av, cv, rfl, -, -, -⟩ := hz
      have t5 := g5'.ext hx15
      have t6 := g6'.ext hx15
      refine sst rfl rfl rfl ti26 t5 rfl rfl (ble rfl) fun w16 hc16 hb16 => sst rfl rfl rfl ti29 (t6.chg hc16 (Ne.symm hne56)) rfl rfl (ble rfl) fun w17 hc17 hb17 => nl <| ?_
      have hb16 : Bx w16 b5 26 [.slice av way.length cv] := hb16
      have hb17 : Bx w17 b6 29 [.int .i64 0] := hb17
      have n5 : some b5 ≠ (Value.slice av way.length cv).ownBlock := ov.ne_old (by omega)
      have n6 : some b6 ≠ (Value.slice av way.length cv).ownBlock := ov.ne_old (by omega)
      have h0wd : w0.heap.size ≤ wd.heap.size := hk'.size
      refine wpIn_ret ⟨((hxd.kf.trans hx15.kf).trans (hc16.kf t5)).trans (hc17.kf (t6.chg hc16 (Ne.symm hne56))), _, rfl, hb16.chg hc17 hne56, ((ov.bnd h0wd).chgn hc16 n5).chgn hc17 n6, hb17, ((hk'.tr hx15).chg hc16 (by omega)).chg hc17 (by omega)⟩
    · rw [if_neg (by rw [h]; decide)] at hB
      exact ⟨hxd.kf, ⟨BelI.of hxd hs, KeepC.of hxd⟩, hB, g8', dg9, g5', g6', hk', Nat.le_trans hs hsd⟩
  case done =>
    rintro D W hD ⟨hB, g8, g9, g5, g6, hk, hs⟩ - hK
    rw [List.length_map, List.drop_length, stuckIn] at hB
    cases hB
    refine wp_seq <| rg <| sst rfl rfl rfl ti26 g5 rfl rfl (ble rfl) fun w16 hc16 hb16 => sst rfl rfl rfl ti29 (g6.chg hc16 (Ne.symm hne56)) rfl rfl (ble rfl) fun w17 hc17 hb17 => nl <| ?_
    have hb16 : Bx w16 b5 26 [.slice none 0 0] := hb16
    have hb17 : Bx w17 b6 29 [.int .i64 5] := hb17
    have hK16 := (hc16.other D (by omega)).trans hK
    have hK17 := (hc17.other D (by omega)).trans hK16
    have hput := chg_put (o' := .deferred none) hK17
    exact wp_ret <| rtM rfl hK17 (.cell1 rfl rfl ti26 ((Bx.cs ((hb16.chg hc17 hne56).putne hK17 rfl hput)).at 0 rfl) (.cell1 rfl rfl ti29 ((Bx.cs (hb17.putne hK17 rfl hput)).at 0 rfl) .nil)) ⟨_, rfl, (RVo.nil (Nat.zero_le _)), ((hk.chg hc16 (by omega)).chg hc17 (by omega)).chg hput (by omega)⟩
  case stop =>
    rintro D c W hD ⟨v, rfl, g5, gv, g6, hk⟩ hK
    have hput := chg_put (o' := .deferred none) hK
    exact wp_ret <| rtM rfl hK (.cell1 rfl rfl ti26 ((Bx.cs (g5.putne hK rfl hput)).at 0 rfl) (.cell1 rfl rfl ti29 ((Bx.cs (g6.putne hK rfl hput)).at 0 rfl) .nil)) ⟨_, rfl, (gv.putne hK rfl hput).rv, hk.chg hput (by omega)⟩
end Go.Proofs.Ytboefnpnoojfpaa
