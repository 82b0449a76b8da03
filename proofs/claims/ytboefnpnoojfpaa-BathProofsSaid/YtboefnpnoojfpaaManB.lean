/-
  The way to a stock, out of the map of how stocks were reached; the iterator's making. Condition: the pure function computes something.
-/
import Derived.Test.YtboefnpnoojfpaaWalkZ
import Derived.Test.YtboefnpnoojfpaaManA
namespace Go.Proofs.Ytboefnpnoojfpaa
open Go Go.Md Go.RowKit
attribute [local irreducible] Go.wpList Go.Code.wp Go.Calls Go.Md.Rnd Go.Md.Mt

abbrev Step := Int × St
abbrev By := List (St × Step)
abbrev Left := List (Int × St)
abbrev Spec := (List Int) × (List ((List Int) × (List Int)))
def z79 : St := Ar.fill 5 0
def z111 : Step := (0, z79)
theorem zero111 (w : World) : (zeroValue 111).run Try.prog w = .ok (fv z111) w := TI.zv ti111 rfl rfl w
theorem zero79 (w : World) : (zeroValue 79).run Try.prog w = .ok (fv z79) w := TI.zv ti79 rfl rfl w

theorem c58 {w0 : World} {bo : Nat} {x : St} : Calls Try.prog 58 [.pointer (some ⟨bo, 0, none⟩), fv x].toArray w0 (Ret fun v w' => ∃ bx1 bx2, v = .func (.func 74) #[] #[.pointer (some ⟨bx1, 0, none⟩), .pointer (some ⟨bx2, 0, none⟩)] ∧ Bx w' bx1 72 [.pointer (some ⟨bo, 0, none⟩)] ∧ Bx w' bx2 79 (Flat.enc x) ∧ w0.heap.size ≤ bx1 ∧ w0.heap.size ≤ bx2 ∧ bx1 ≠ bx2 ∧ Ext w0 w') := by
  refine entr (n := 6) Try.func58 rfl rfl rfl <| wp_seq <| rg <| sbx rfl rfl fun b1 w1 hx1 hg1 hb1 => ?_
  refine sbx (cs := Flat.enc x) rfl rfl fun b2 w2 hx2 hg2 hb2 => ?_
  have h1 := hb1.lt
  refine vl rfl rfl xas <| nl <| wp_seq <| rg <| vl rfl rfl (xmf (l := []) (k := [.pointer (some ⟨b1, 0, none⟩), .pointer (some ⟨b2, 0, none⟩)]) rfl rfl) <| vl rfl rfl xas <| nl <| wp_ret <| rt rfl (.tmp rfl rfl .nil) ⟨b1, b2, rfl, hb1.ext hx2, hb2, hg1, Nat.le_trans hx1.size hg2, by omega, hx1.tr hx2⟩

def bath_shop_way_l1 (by_ : By) : Nat → Step → List Int → Option (List Int)
  | 0, _, _ => none
  | m + 1, x, out =>
    if (decide (0 ≤ x.1)) = true then
      (app 8 out [x.1]) >>= fun o => (kok x.2) >>= fun _ => bath_shop_way_l1 by_ m (mget z111 by_ x.2) o
    else some out
def bath_shop_way (F : Nat) (by_ : By) (to_ : St) : Option (List Int) :=
  (kok to_) >>= fun _ => (bath_shop_way_l1 by_ F (mget z111 by_ to_) []) >>= fun l => slices_Reverse_int F l

set_option maxHeartbeats 4000000 in
theorem c59 {w0 : World} {bo mb : Nat} {c1 c2 : Value} {by_ : By} (h0 : Cs w0 bo 0 [c1, c2, .map (some mb)]) (hm : Mp w0 mb by_) {x : St} {F : Nat} {r : List Int} (hF : bath_shop_way F by_ x = some r) :
    Calls Try.prog 59 [.pointer (some ⟨bo, 0, none⟩), fv x].toArray w0 (Ret fun v w' => Row 3 w0.heap.size w' v r ∧ Ext w0 w') := by
  unfold bath_shop_way at hF
  have hz := bs hF; obtain ⟨_, Ek, hF⟩ := hz
  have hz := bs hF; obtain ⟨l, El, hF⟩ := hz
  refine entr (n := 37) Try.func59 rfl rfl rfl <| wp_seq <| rg <| sbx (cs := Flat.enc x) rfl rfl fun b3 w1 hx1 hg1 hb3 => ?_
  refine vl rfl rfl xas <| nl <| wp_seq <| rg <| vl rfl rfl xas <| nl <| wp_seq <| wp_seq <| ?_
  refine wpl [] (.pure true 0 (.pure true 1 (.pure true 2 (.pure false 3 (.pure false 4 (.pure false 5 (.eff 6 (.eff 7 .fin .stop) .stop))))))) mixed (by kernel_rfl) (fun w2 hx2 => ?_)
  have k2 := hx1.tr hx2
  have h02 := h0.ext k2
  have hm2 := hm.ext k2
  have hb32 := hb3.ext hx2
  refine pv rfl rfl rfl (fun _ _ => xmv) (.inl rfl) <| pv rfl rfl rfl (fun _ _ => xnil rfl) (.inl rfl) <| pv rfl rfl rfl (fun _ _ => xfa rfl fa105_1) (.inl rfl) <| pv rfl rfl rfl (fun _ hS => xld rfl ti103 ((h02.ext (hS.resolve_left nofun)).at 2 rfl)) (.inr (Ext.refl _)) <| ?_
  refine pv rfl rfl rfl (fun _ hS => xlda rfl ti79 (Flat.len x) (Bx.cs (hb32.ext (hS.resolve_left nofun)))) (.inr (Ext.refl _)) <| pv rfl rfl rfl (fun _ hS => xlku (k := x) (d := z111) Try.underlying103 kt79 (zero111 _) (hm2.ext (hS.resolve_left nofun)) (kok_spec Ek) rfl rfl) (.inr (Ext.refl _)) <| ?_
  refine pe1 rfl <| sal ti111 fun b6 w3 hx3 hg3 hb6 => nl ⟨fun _ _ => hx3, ?_⟩
  refine pe1 rfl <| sstf (u := mget z111 by_ x) rfl rfl ti111 rfl hb6 rfl fun w4 hc4 hb4 => nl ⟨fun _ _ => hx3.chg hc4 hg3, ?_⟩
  have k4 : Ext w0 w4 := (k2.tr hx3).chg hc4 (Nat.le_trans k2.size hg3)
  refine ct (fun L w => ∃ v, L 5 = v ∧ Row 3 w0.heap.size w v l ∧ Ext w0 w) ?_ ?_
  · refine wp_block <| lp (I := fun m L w => ∃ (y : Step) (out : List Int) (v : Value) (b : Nat), bath_shop_way_l1 by_ m y out = some l ∧ L 5 = v ∧ Row 3 w0.heap.size w v out ∧ L 6 = .pointer (some ⟨b, 0, none⟩) ∧ w0.heap.size ≤ b ∧ Bx w b 111 (Flat.enc y) ∧ L 0 = .pointer (some ⟨bo, 0, none⟩) ∧ Ext w0 w) F
      ⟨_, _, _, _, El, rfl, Row.nil, rfl, Nat.le_trans k2.size hg3, hb4, rfl, k4⟩ ?_
    rintro m L w5 ⟨y, out, v, b, hB, l5, o5, l6, hgb, hby, l0, k5⟩
    rcases m with _ | m
    · rw [bath_shop_way_l1] at hB; cases hB
    rw [bath_shop_way_l1] at hB
    refine wp_seq <| wp_seq <| rg <| vl rfl rfl (xfa l6 fa111_0) <| vl rfl rfl (xld rfl ti3 ((Bx.cs hby).at 0 rfl)) <| vl rfl rfl (xgeq rfl rfl) <| nl <| cnd rfl (fun h => ?_) (fun h => ?_)
    · have hB := ifp hB h
      have hz := bs hB; obtain ⟨o', Eo, hB⟩ := hz
      have hz := bs hB; obtain ⟨_, Ey, hB⟩ := hz
      have hz := RV.sl o5.rv; obtain ⟨a5, q5, rfl, -, -, -⟩ := hz
      refine wp_skip <| wp_seq <| wp_block <| ?_
      refine wpl [] (.pure true 0 (.pure true 1 (.pure false 2 (.pure true 3 (.pure false 4 (.pure true 5 (.pure true 6 (.pure false 7 (.eff 8 (.eff 9 (.pure true 10 .fin) .stop) .stop))))))))) mixed (by kernel_rfl) (fun w6 hx6 => ?_)
      have o6 := o5.ext hx6
      have hb6' := hby.ext hx6
      have k6 := k5.tr hx6
      refine pv rfl rfl rfl (fun _ _ => xmva l5) (.inl rfl) <| pv rfl rfl rfl (fun _ _ => xmva l5) (.inl rfl) <| pv rfl rfl rfl (fun _ _ => xlen rfl Try.underlying26) (.inr (Ext.refl _)) <| pv rfl rfl rfl (fun _ _ => xmva l5) (.inl rfl) <| pv rfl rfl rfl (fun _ _ => xlen rfl Try.underlying26) (.inr (Ext.refl _)) <| ?_
      refine pv rfl rfl rfl (fun _ _ => xslf rfl (RV.cap o6.rv).2.1 Try.underlying26 ti3 rfl rfl) (.inl rfl) <| pv rfl rfl rfl (fun _ _ => xfa l6 fa111_0) (.inl rfl) <| pv rfl rfl rfl (fun _ hS => xld rfl ti3 ((Bx.cs (hb6'.ext (hS.resolve_left nofun))).at 0 rfl)) (.inr (Ext.refl _)) <| ?_
      refine pe1 rfl <| sbsv (cs := [.int .i64 y.1]) Try.underlying26 ti3 rfl (pc rfl pn) rfl rfl rfl rfl rfl fun b7 w7 hx7 hg7 hb7 => nl ⟨fun _ _ => hx7, ?_⟩
      have o7 : Row (α := Int) 3 w6.heap.size w7 (.slice (some ⟨b7, 0, none⟩) 1 1) [y.1] := Row.lit hg7 hb7 rfl (ble rfl)
      have r7 := RV.full (o6.rv.ext hx7)
      refine pe1 rfl <| sapf (l := out) (k := [y.1]) rfl rfl Try.underlying26 ti3 rfl rfl r7 o7.rv rfl Eo fun v8 w8 o8 hx8 => nl ⟨fun _ _ => hx7.tr hx8, ?_⟩
      have k8 := (k6.tr hx7).tr hx8
      have hb8 := (hb6'.ext hx7).ext hx8
      refine pv rfl rfl rfl (fun _ _ => xas) (.inl rfl) <| ?_
      refine wp_seq <| wp_seq <| rg <| vl rfl rfl (xlda l6 ti111 (Flat.len y) (Bx.cs hb8)) <| nl <| rg <| sal ti111 fun b9 w9 hx9 hg9 hb9 => ?_
      refine sstf (u := y) rfl rfl ti111 rfl hb9 rfl fun w10 hc10 hb10 => nl <| ?_
      have k10 : Ext w0 w10 := (k8.tr hx9).chg hc10 (Nat.le_trans k8.size hg9)
      have o10 : Row (α := Int) 3 w0.heap.size w10 v8 o' := ((o8.bnd (Nat.le_trans k6.size hx7.size)).ext hx9).chgn hc10 (o8.ne_new hg9)
      refine wpl [7] (.pure true 0 (.pure true 1 (.pure true 2 (.pure false 3 (.pure true 4 (.pure false 5 (.pure false 6 (.eff 7 .fin .stop)))))))) mixed (by kernel_rfl) (fun w11 hx11 => ?_)
      have h011 := h0.ext (k10.tr hx11)
      have hm11 := hm.ext (k10.tr hx11)
      have hb11 := hb10.ext hx11
      refine pv rfl rfl rfl (fun _ _ => xmva l0) (.inl rfl) <| pv rfl rfl rfl (fun _ _ => xnil rfl) (.inl rfl) <| pv rfl rfl rfl (fun _ _ => xfa rfl fa105_1) (.inl rfl) <| pv rfl rfl rfl (fun _ hS => xld rfl ti103 ((h011.ext (hS.resolve_left nofun)).at 2 rfl)) (.inr (Ext.refl _)) <| ?_
      refine pv rfl rfl rfl (fun _ _ => xfa rfl fa111_1) (.inl rfl) <| pv rfl rfl rfl (fun _ hS => xlda rfl ti79 (Flat.len y.2) (Cs.tl (Bx.cs (hb11.ext (hS.resolve_left nofun))))) (.inr (Ext.refl _)) <| pv rfl rfl rfl (fun _ hS => xlku (k := y.2) (d := z111) Try.underlying103 kt79 (zero111 _) (hm11.ext (hS.resolve_left nofun)) (kok_spec Ey) rfl rfl) (.inr (Ext.refl _)) <| ?_
      refine pe1 rfl <| sstf (u := mget z111 by_ y.2) rfl rfl ti111 rfl hb11 (Flat.len y) fun w12 hc12 hb12 => nl ⟨fun h => (h (by decide)).elim, ?_⟩
      have hg9' : w0.heap.size ≤ b9 := Nat.le_trans k8.size hg9
      have hne : some b9 ≠ v8.ownBlock := o8.ne_new hg9
      exact lq m (Nat.lt_succ_self _) ⟨_, _, _, _, hB, rfl, (o10.ext hx11).chgn hc12 hne, rfl, hg9', hb12, l0, (k10.tr hx11).chg hc12 hg9'⟩
    · have hB := ifn hB h
      cases hB
      exact wp_exit <| lf ⟨_, l5, o5, k5⟩
  rintro L w5 ⟨v, l5, o5, k5⟩
  refine wp_seq <| rg <| vl rfl rfl (xmva l5) <| cl rfl rfl (xc cb75 (mc rfl mn)) (c75 k5.size o5 hF) fun v2 w6 hv => ?_
  obtain ⟨_, o6, hB6⟩ := hv
  have k6 : Ext w0 w6 := k5.grow (Nat.le_refl _) hB6
  exact nl <| wp_seq <| rg <| vl rfl rfl (xmva l5) <| vl rfl rfl xas <| nl <| wp_ret <| rt rfl (.tmp rfl rfl .nil) ⟨o6, k6⟩
end Go.Proofs.Ytboefnpnoojfpaa
