/-
  How many stocks can be reached. Condition: the pure function computes something.
-/
import Derived.Test.YtboefnpnoojfpaaManC
import Derived.Test.YtboefnpnoojfpaaManO
namespace Go.Proofs.Ytboefnpnoojfpaa
open Go Go.Md Go.RowKit
attribute [local irreducible] Go.wpList Go.Code.wp Go.Calls Go.Md.Rnd Go.Md.Mt Go.Md.MtM Go.Md.RndM Go.Code.wpIn

theorem StB.ext {bo base : Nat} {c1 c2 : Value} {us : List (St × By)} {bf : By} (k : Nat) (A C : World) (h : StB bo base c1 c2 us bf k A) (e : Ext A C) : StB bo base c1 c2 us bf k C := by
  obtain ⟨mb, h1, h2, h3⟩ := h
  exact ⟨mb, h1, h2.ext e, h3.ext e⟩
theorem StB.loop {bo base : Nat} {c1 c2 : Value} {us : List (St × By)} {bf : By} (k : Nat) (A C : World) (l : Nat) (r : Loop) (h : StB bo base c1 c2 us bf k A) (hl : A.heap[l]? = some (.loop r)) (e : Chg l A C) : StB bo base c1 c2 us bf k C := by
  obtain ⟨mb, h1, h2, h3⟩ := h
  refine ⟨mb, h1, h2.putne hl rfl e, h3.chg e fun e2 => ?_⟩
  subst e2
  obtain ⟨es, cl, h4, _⟩ := h3
  rw [hl] at h4
  cases h4

def cnt : Nat → Int
  | 0 => 0
  | k + 1 => w64 (cnt k + 1)
def bath_Stocks (F : Nat) (x0 : Spec) (x1 : List Int) : Option (Int × Int) :=
  (bath_open F x0 ([x1] : List (List Int))) >>= fun x3 =>
  if (!decide (x3.2.2 = 0)) = true then some (0, x3.2.2) else
  (x3.1.v) >>= fun _ => (ix x3.2.1 0) >>= fun f => (bath_reached F x0 f) >>= fun r => some (cnt r.1.length, 0)

set_option maxHeartbeats 4000000 in
theorem c22 {w0 : World} {v0 : Value} {x0 : Spec} (r0 : RV w0 v0 x0) {v1 : Value} {x1 : List Int} (r1 : RV w0 v1 x1) {F : Nat} {r : Int × Int} (hF : bath_Stocks F x0 x1 = some r) :
    Calls Try.prog 22 [v0, v1].toArray w0 (Ret fun v w' => v = .tuple #[.int .i64 r.1, .int .i64 r.2] ∧ Ext w0 w') := by
  unfold bath_Stocks at hF
  have hz := id r0; obtain ⟨_, rfl, ⟨_, _, rfl, ⟨a1, cq1, rfl, p1, q3, e1⟩, ⟨a2, cq2, rfl, p2, q4, e2⟩⟩⟩ := hz
  have r3 := RV.of1 p1 q3 e1
  have r4 := RV.of1 p2 q4 e2
  have hz := r1.sl; obtain ⟨a3, cq3, rfl, -, -, -⟩ := hz
  refine entrM (m := 12) (n := 30) Try.func22 rfl rfl rfl <| wp_seq <| rg <| sbx rfl rfl fun b3 w1 hx1 hg1 hb1 => ?_
  have r5 := r1.ext hx1
  have r6 := r3.ext hx1
  have r7 := r4.ext hx1
  refine vl rfl rfl xas <| vl rfl rfl xas <| nl <| wp_seq <| rg <| vl rfl rfl (xlda rfl ti25 rfl (Bx.cs hb1)) <| vl rfl rfl xmv <| sbsv (cs := [.slice a3 x1.length cq3]) Try.underlying101 ti22 rfl (pc rfl pn) rfl rfl rfl rfl rfl fun b4 w2 hx2 hg2 hb2 => ?_
  have k1 := hx1.tr hx2
  have r10 := r6.ext hx2
  have r11 := r7.ext hx2
  have r12 := r5.ext hx2
  have r9 : RV w2 (.slice (some ⟨b4, 0, none⟩) 1 1) ([x1] : List (List Int)) := RV.lit hb2 (css := [[.slice a3 x1.length cq3]]) rfl ⟨r12.rep1, trivial⟩ rfl (ble rfl)
  have hz := bs hF; obtain ⟨x3, Ex3, hF⟩ := hz
  refine cl rfl rfl (xc cb45 (mc rfl (mc rfl mn))) (c45o (show RV (α := Spec) _ (.agg [.slice a1 x0.1.length cq1, .slice a2 x0.2.length cq2].toArray) (x0.1, x0.2) from ⟨_, rfl, ⟨[.slice a1 x0.1.length cq1], [.slice a2 x0.2.length cq2], rfl, r10.rep1, r11.rep1⟩⟩) r9 Ex3) ?_
  rintro _ w3 ⟨u1, u2, rfl, hf, o14, hx3⟩
  have r14 := o14.rv
  have k2 := k1.tr hx3
  have hz := RV.sl r14; obtain ⟨a5, cq4, rfl, -, -, -⟩ := hz
  refine vl rfl rfl xmv <| vl rfl rfl (xext rfl rfl) <| vl rfl rfl (xext rfl rfl) <| vl rfl rfl (xext rfl rfl) <| vl rfl rfl xas <| vl rfl rfl xas <| vl rfl rfl xas <| nl <| wp_seq <| wp_seq <| rg <| vl rfl rfl xmv <| vl rfl rfl (xneq rfl rfl) <| nl <| cnd rfl (fun h3 => ?_) (fun h3 => ?_)
  · have hF := ifp hF h3
    refine wp_seq <| rg <| vl rfl rfl xmv <| vl rfl rfl xas <| vl rfl rfl xas <| nl <| wp_ret <| rtMs rfl (Mks.nil (B := w0.heap.size)) fun w4 hT1 => ?_
    have k4 : Ext w0 w4 := Below.tak k2 hT1 (Nat.le_refl _)
    cases hF
    exact ⟨_, (.tmp rfl rfl (.tmp rfl rfl .nil)), ⟨rfl, k4⟩⟩
  have hF := ifn hF h3
  have hz := bs hF; obtain ⟨s5, Ex5, hF⟩ := hz
  have hz := bs hF; obtain ⟨f, Ef, hF⟩ := hz
  have hz := bs hF; obtain ⟨⟨us, bf⟩, Er, hF⟩ := hz
  cases hF
  have hz := hf.get Ex5; obtain ⟨bo, rfl, hgo, hbo⟩ := hz
  have hbo : Bx w3 bo 105 [.slice a1 x0.1.length cq1, .slice a2 x0.2.length cq2, .map none] := hbo
  refine wp_skip <| wp_seq <| rg <| sal ti3 fun b5 w5 hx4 hg3 hb3 => sst rfl rfl rfl ti3 hb3 rfl rfl (ble rfl) fun w6 hch1 hb4 => ?_
  have k36 : Ext w3 w6 := hx4.chg hch1 hg3
  have hb5 : Bx w6 b5 3 [.int .i64 0] := hb4
  have hz := (RV.els (r14.ext k36)).ix Ef; obtain ⟨b6, f1, cs3, e3, i1, i2, q5, hc1⟩ := hz
  cases e3
  obtain rfl := q5
  refine nl <| wp_seq <| wp_seq <| rg <| vl rfl rfl xmv <| vl rfl rfl xmv <| vl rfl rfl (xixs rfl rfl Try.underlying73 ti79 i1 i2) <| vl rfl rfl (xlda rfl ti79 (arlen _) hc1) <| ?_
  refine cl rfl rfl (xc cb58 (mc rfl (mc rfl mn))) (c58 (bo := bo) (x := f)) fun v w7 hv => ?_
  obtain ⟨bx1, bx2, rfl, h1, h2, hgx1, hgx2, -, hx7⟩ := hv
  have k07 : Ext w0 w7 := (k2.tr k36).tr hx7
  have hs01 := k1.size
  have hs3 := hx3.size
  have hs36 := k36.size
  have hs7 := hx7.size
  have hbol := hbo.lt
  have hb5l := hb5.lt
  refine nl <| wp_block <| rangeM0 (α := St) (xs := us.map (·.1)) (m := 12) (bs := bo) (St := StB bo w7.heap.size _ _ us bf) (Kp := Kp2 w3.heap.size w6.heap.size w7.heap.size) (by decide) (by omega) (KpOk.beli.and KpOk.keepc) rfl cb74
    (st74 k07 r3 r4 h1 h2 ((hbo.ext k36).ext hx7) (by omega) hbol hs36 hs7 hgx1 hgx2 Er)
    (fun k W => Bx W b5 3 [.int .i64 (cnt k)] ∧ Ext w0 W ∧ w7.heap.size ≤ W.heap.size) (fun _ _ => False) (fun k => Okb.and Okb.bx (Okb.and (Okb.extw k07.size) Okb.size))
    (fun k A C h e => ⟨h.1.belx e (by omega) (by omega) (by omega), h.2.1.belx e k07.size (by omega) (by omega), Nat.le_trans h.2.2 e.size⟩) (fun k A C l r => StB.loop k A C l r) (fun _ => Okb.pure) ⟨hb5.ext hx7, k07, Nat.le_refl _⟩ ?round ?done ?stop
  case round =>
    rintro l k x W hx ⟨hb, hk, hs⟩ -
    refine wpIn_block <| rgR rfl <| vl rfl rfl (xld rfl ti3 ((Bx.cs hb).at 0 rfl)) <| vl rfl rfl (xadd rfl rfl) <| sst rfl rfl rfl ti3 hb rfl rfl (ble rfl) fun W2 hc hb2 => nl ⟨hc.kf hb, ⟨BelI.refl.chg hc (.inl ⟨hg3, hb5l⟩), KeepC.refl.chg hc (.inl ⟨hg3, hb5l⟩)⟩, hb2, hk.chg hc (by omega), by rw [hc.size]; exact hs⟩
  case done =>
    rintro D W hD ⟨hb, hk, hs⟩ - hK
    rw [List.length_map] at hb
    have hput := chg_put (o' := .deferred none) hK
    exact wp_seq <| rg <| vl rfl rfl (xld rfl ti3 ((Bx.cs hb).at 0 rfl)) <| vl rfl rfl xas <| vl rfl rfl xas <| nl <| wp_ret <| rtM rfl hK (.tmp rfl rfl (.tmp rfl rfl .nil)) ⟨rfl, hk.chg hput (by omega)⟩
  case stop =>
    rintro D c W _ h _
    exact h.elim
end Go.Proofs.Ytboefnpnoojfpaa
