/-
  The cheapest costs from a turn, and a circle of rules. Condition: the pure function computes something.
-/
import Derived.Test.YthppacohnciinaaManC
import Derived.Scope
namespace Go.Proofs.Ythppacohnciinaa
open Go Go.Md Go.RowKit
attribute [local irreducible] Go.wpList Go.Code.wp Go.Calls Go.Md.Rnd Go.Md.Mt

/-- v is a map of these pairs, in a block that is not below 'base'. -/
def MpV (base : Nat) (w : World) (v : Value) (l : List (Int × Int)) : Prop := ∃ b, v = .map (some b) ∧ base ≤ b ∧ Mp w b l
theorem MpV.ext {base : Nat} {w w' : World} {v : Value} {l : List (Int × Int)} (h : MpV base w v l) (k : Ext w w') : MpV base w' v l :=
  let ⟨b, e, hb, h⟩ := h
  ⟨b, e, hb, h.ext k⟩

def speed_net_find_l1 (F : Nat) : Nat → Int → (Ar 21 Int) → Option ((Ar 21 Int))
  | 0, _, _ => none
  | m + 1, y1, y2 =>
    if (decide (y1 < 21)) = true then
      (ix y2.l y1) >>= fun x3 =>
      speed_net_find_l1 F m (w64 (y1 + 1)) (aset y2 y1 1125899906842624)
    else
      some y2

def speed_net_find_l2 (all : List TRule) : Nat → Ar 21 Int → List (Int × Int) → Option (Ar 21 Int × List (Int × Int))
  | 0, _, _ => none
  | m + 1, far, by_ => (speed_net_step all far by_) >>= fun s => if s.2.2 = true then speed_net_find_l2 all m s.1 s.2.1 else some (s.1, s.2.1)

def speed_net_find (F : Nat) (x0 : TNet) (x1 : Int) : Option (Ar 21 Int × List (Int × Int)) :=
  (speed_net_find_l1 F F 0 (Ar.fill 21 0 : Ar 21 Int)) >>= fun z1 =>
  (ix z1.l x1) >>= fun _ =>
  speed_net_find_l2 x0.2 F (aset z1 x1 0) []

set_option maxHeartbeats 4000000 in
theorem c55 {w0 : World} {b0 : Nat} {cs0 : List Value} {x0 : TNet} (h0 : Cs w0 b0 0 cs0) (q0 : Enc.rep (fun _ => True) w0 cs0 x0) {x1 : Int} {F : Nat} {r : Ar 21 Int × List (Int × Int)} (hF : speed_net_find F x0 x1 = some r) :
    Calls Try.prog 55 [.pointer (some ⟨b0, 0, none⟩), .int .i64 x1].toArray w0 (Ret fun v w' => ∃ u0 u1, v = .tuple #[u0, u1] ∧ RV w' u0 r.1 ∧ MpV w0.heap.size w' u1 r.2 ∧ Ext w0 w') := by
  unfold speed_net_find at hF
  have r0 : RV w0 (.pointer (some ⟨b0, 0, none⟩)) (⟨some x0⟩ : Ob TNet) := obNew h0 (by rw [Enc.len q0]; rfl) q0
  obtain ⟨_, _, rfl, ⟨_, _, rfl, rfl, ⟨a1, c1, rfl, p1, q3, e1⟩⟩, ⟨a2, c2, rfl, p2, q4, e2⟩⟩ := q0
  have r3 := RV.of1 p1 q3 e1
  have r4 := RV.of1 p2 q4 e2
  refine entr (n := 23) Try.func55 rfl rfl rfl <| wp_seq <| rg <| sal ti83 fun b3 w1 hx1 hg1 hb1 => ?_
  have r5 := r3.ext hx1
  have r6 := r4.ext hx1
  have h3 := h0.ext hx1
  have hb2 : Bx w1 b3 83 (List.flatMap Flat.enc ((Ar.fill 21 0 : (Ar 21 Int))).l) := hb1
  refine vl rfl rfl xas <| nl <| wp_seq <| rg <| sal ti83 fun b4 w2 hx2 hg2 hb3 => ?_
  have k1 := hx1.tr hx2
  have hb4 := hb2.ext hx2
  have r7 := r5.ext hx2
  have r8 := r6.ext hx2
  have h4 := h3.ext hx2
  have hb5 : Bx w2 b4 83 (List.flatMap Flat.enc ((Ar.fill 21 0 : (Ar 21 Int))).l) := hb3
  refine nl <| wp_seq <| wp_seq <| rg <| vl rfl rfl xmv <| nl <| ?_
  have hz := bs hF; obtain ⟨z1, hB1, hF⟩ := hz
  refine ct (fun L w => Bx w b4 83 (List.flatMap Flat.enc z1.l) ∧ L 0 = .pointer (some ⟨b0, 0, none⟩) ∧ L 1 = .int .i64 x1 ∧ L 4 = .pointer (some ⟨b3, 0, none⟩) ∧ L 6 = .pointer (some ⟨b4, 0, none⟩) ∧ Ext w1 w) ?_ ?_
  ·
    refine wp_block <| lp (I := fun m L w => ∃ y1 : Int, ∃ y2 : (Ar 21 Int), speed_net_find_l1 F m y1 y2  = some z1 ∧ L 9 = .int .i64 y1 ∧ Bx w b4 83 (List.flatMap Flat.enc y2.l) ∧ L 0 = .pointer (some ⟨b0, 0, none⟩) ∧ L 1 = .int .i64 x1 ∧ L 4 = .pointer (some ⟨b3, 0, none⟩) ∧ L 6 = .pointer (some ⟨b4, 0, none⟩) ∧ Ext w1 w) F ⟨_, _, hB1, rfl, hb5, rfl, rfl, rfl, rfl, hx2⟩ ?_
    rintro m L w3 ⟨y1, y2, hB1, l9_i1, B6_i1, l0_i1, l1_i1, l4_i1, l6_i1, K0_i1⟩
    rcases m with _ | m
    · rw [speed_net_find_l1] at hB1; cases hB1
    rw [speed_net_find_l1] at hB1
    have k2 := hx1.tr K0_i1
    have r9 := r5.ext K0_i1
    have r10 := r6.ext K0_i1
    have h5 := h3.ext K0_i1
    have hb6 := hb2.ext K0_i1
    refine wp_seq <| rg <| vl rfl rfl (xlss l9_i1 rfl) <| nl <| wp_seq <| cnd rfl (fun h6 => ?_) (fun h6 => ?_)
    ·
      have hB1 := ifp hB1 h6
      refine wp_skip <| wp_seq <| wp_block <| wp_seq <| rg <| vl rfl rfl xmv <| vl rfl rfl xas <| nl <| rg <| vl rfl rfl xmv <| ?_
      have hz := bs hB1; obtain ⟨x3, Ex3, hB1⟩ := hz
      have hz := ixar (Bx.cs B6_i1) Ex3; obtain ⟨i2, i3, hc1⟩ := hz
      refine vl rfl rfl (xixa l6_i1 l9_i1 Try.underlying83 ti2 i2 i3) <| ssta (X := y2) (v := 1125899906842624) rfl rfl rfl ti2 B6_i1 Ex3 fun w4 hch1 hb7 => ?_
      have k3 := Ext.chg k2 hch1 (Nat.le_trans hx1.size hg2)
      have k4 := Ext.chg K0_i1 hch1 (Nat.le_trans (Nat.le_refl _) hg2)
      have hb8 := hb2.ext k4
      have r11 := r5.ext k4
      have r12 := r6.ext k4
      have h7 := h3.ext k4
      refine nl <| rg <| vl rfl rfl (xadd l9_i1 rfl) <| vl rfl rfl xmv <| nl <| ?_
      refine lq m (Nat.lt_succ_self _) <| ?_
      exact ⟨_, _, hB1, rfl, hb7, l0_i1, l1_i1, l4_i1, l6_i1, k4⟩
    ·
      have hB1 := ifn hB1 h6
      refine wp_exit <| ?_
      cases hB1
      refine lf <| ?_
      exact ⟨B6_i1, l0_i1, l1_i1, l4_i1, l6_i1, K0_i1⟩
  rintro L w5 ⟨B6_j1, l0_j1, l1_j1, l4_j1, l6_j1, K0_j1⟩
  have k5 := hx1.tr K0_j1
  have r13 := r5.ext K0_j1
  have r14 := r6.ext K0_j1
  have h8 := h3.ext K0_j1
  have hb9 := hb2.ext K0_j1
  refine wp_seq <| rg <| vl rfl rfl xmv <| ?_
  have hz := bs hF; obtain ⟨x4, Ex4, hF⟩ := hz
  have hz := ixar (Bx.cs B6_j1) Ex4; obtain ⟨i4, i5, hc2⟩ := hz
  refine vl rfl rfl (xixa l6_j1 l1_j1 Try.underlying83 ti2 i4 i5) <| ssta (X := z1) (v := 0) rfl rfl rfl ti2 B6_j1 Ex4 fun w6 hch2 hb10 => ?_
  have k6 := Ext.chg k5 hch2 (Nat.le_trans hx1.size hg2)
  have k7 := Ext.chg K0_j1 hch2 (Nat.le_trans (Nat.le_refl _) hg2)
  have hb11 := hb2.ext k7
  have r15 := r5.ext k7
  have r16 := r6.ext k7
  have h9 := h3.ext k7
  refine nl <| wp_seq <| rg <| ?_
  refine smmk (κ := Int) (ν := Int) fun b8 w7 hx7 hg7 hm7 => ?_
  have hb12 := hb10.ext hx7
  have hb13 := hb11.ext hx7
  have k8 : Ext w0 w7 := k6.tr hx7
  have hw0 := hx1.size
  have hw1 := k6.size
  have hg2' : w0.heap.size ≤ b4 := Nat.le_trans hw0 hg2
  have hg7' : w0.heap.size ≤ b8 := Nat.le_trans hw1 hg7
  have hlt3 := hb13.lt
  have hlt4 := hb12.lt
  have ne34 : b3 ≠ b4 := by have := hb1.lt; omega
  have ne38 : b3 ≠ b8 := by have := hb11.lt; omega
  refine vl rfl rfl xas <| nl <| wp_seq <| ?_
  refine ct (fun L w => L 4 = .pointer (some ⟨b3, 0, none⟩) ∧ L 6 = .pointer (some ⟨b4, 0, none⟩) ∧ L 8 = .map (some b8) ∧ Bx w b4 83 (r.1.l.flatMap Flat.enc) ∧ Mp w b8 r.2 ∧ Bx w b3 83 ((Ar.fill 21 0 : Ar 21 Int).l.flatMap Flat.enc) ∧ Ext w0 w) ?_ ?_
  · refine wp_block <| lp (I := fun m L w => ∃ far by_, speed_net_find_l2 x0.2 m far by_ = some r ∧ L 0 = .pointer (some ⟨b0, 0, none⟩) ∧ L 4 = .pointer (some ⟨b3, 0, none⟩) ∧ L 6 = .pointer (some ⟨b4, 0, none⟩) ∧ L 8 = .map (some b8) ∧ Bx w b4 83 (far.l.flatMap Flat.enc) ∧ Mp w b8 by_ ∧ Bx w b3 83 ((Ar.fill 21 0 : Ar 21 Int).l.flatMap Flat.enc) ∧ Ext w0 w) F
      ⟨_, _, hF, l0_j1, l4_j1, l6_j1, rfl, hb12, hm7, hb13, k8⟩ ?_
    rintro m L w8 ⟨far, by_, hB, l0, l4, l6, l8, bf, bm, bz, k⟩
    rcases m with _ | m
    · rw [speed_net_find_l2] at hB; cases hB
    rw [speed_net_find_l2] at hB
    have hz := bs hB; obtain ⟨s, Es, hB⟩ := hz
    refine wp_seq <| wp_seq <| rg <| vl rfl rfl (xmva l0) <| vl rfl rfl (xmva l8) <| cl rfl rfl (xc cb74 (mc rfl (mc l6 (mc rfl mn)))) (c74 (wb := w0) k r0 bf hg2' bm hg7' Es) fun v w9 hv => ?_
    obtain ⟨rfl, bf', bm', hx9⟩ := hv
    have k' := hx9.old k hg2' hg7'
    have bz' := bz.belx hx9 bz.lt ne34 ne38
    refine nl <| cnd rfl (fun h => ?_) (fun h => ?_)
    · refine wp_skip <| wp_block <| wp_skip <| ?_
      exact lq m (Nat.lt_succ_self _) ⟨_, _, ifp hB h, l0, l4, l6, l8, bf', bm', bz', k'⟩
    · refine wp_exit <| lf ?_
      have hB := ifn hB h
      cases hB
      exact ⟨l4, l6, l8, bf', bm', bz', k'⟩
  rintro L w10 ⟨l4, l6, l8, bf, bm, bz, k⟩
  refine wp_seq <| rg <| vl rfl rfl (xlda l6 ti83 (arlen _) (Bx.cs bf)) <| vl rfl rfl (xmva l8) <| sstw l4 rfl ti83 bz (arlen _) (arlen _) (flat_one _) fun w11 hch bz' => ?_
  refine vl rfl rfl xas <| nl <| wp_ret <| rt rfl (.cell l4 rfl ti83 (arlen _) (Bx.cs bz') (.tmp rfl rfl .nil)) ?_
  have bm' := bm.chg hch (Ne.symm ne38)
  have k' := k.chg hch (by have := hb1.lt; omega)
  exact ⟨_, _, rfl, ⟨_, rfl, Flat.iff.2 rfl⟩, ⟨b8, rfl, hg7', bm'⟩, k'⟩

theorem zero3 (w : World) : (zeroValue 3).run Try.prog w = .ok (fv (0 : Int)) w := by
  obtain ⟨v, h1, _, h3⟩ := (ti3 : TI Try.prog 3 false 1 8 [.int .i64 0]).zero w
  rw [h1, h3]
  rfl

/-! ### The circle -/
def speed_net_circle_l1 (all : List TRule) (lim : Int) : Nat → Int → Ar 21 Int → List (Int × Int) → Bool → Option (Ar 21 Int × List (Int × Int) × Bool)
  | 0, _, _, _, _ => none
  | m + 1, i, far, by_, more =>
    if (decide (i < lim)) = true then (speed_net_step all far by_) >>= fun s => speed_net_circle_l1 all lim m (w64 (i + 1)) s.1 s.2.1 s.2.2
    else some (far, by_, more)
def speed_net_circle_l2 (far old : Ar 21 Int) : Nat → Int → Option Int
  | 0, _ => none
  | m + 1, t =>
    if (decide (t < 21)) = true then
      (ix far.l t) >>= fun a => (ix old.l t) >>= fun b => if (!decide (a = b)) = true then some t else speed_net_circle_l2 far old m (w64 (t + 1))
    else some 0
/-- Where a name leads from. -/
def speed_from (all : List TRule) (by_ : List (Int × Int)) (at_ : Int) : Option (Int × Int) :=
  if (Key.ok at_) = true then (ix all (mget 0 by_ at_)) >>= fun r => some (mget 0 by_ at_, r.1) else none
def speed_net_circle_l3 (all : List TRule) (by_ : List (Int × Int)) : Nat → Ar 21 Int → Int → Option Int
  | 0, _, _ => none
  | m + 1, seen, at_ =>
    (ix seen.l at_) >>= fun a =>
    if (decide (a = 0)) = true then (speed_from all by_ at_) >>= fun p => speed_net_circle_l3 all by_ m (aset seen at_ 1) p.2
    else some at_
def speed_net_circle_l4 (all : List TRule) (by_ : List (Int × Int)) (end_ : Int) : Nat → Int → List Int → Option (List Int)
  | 0, _, _ => none
  | m + 1, at_, out =>
    (speed_from all by_ at_) >>= fun p => (app 8 out [p.1]) >>= fun out' =>
    if (decide (p.2 = end_)) = true then some out' else speed_net_circle_l4 all by_ end_ m p.2 out'
def speed_net_circle (F : Nat) (x0 : TNet) : Option (List Int) :=
  (speed_net_circle_l1 x0.2 (w64 (x0.1.1 + 1)) F 0 (Ar.fill 21 0) [] true) >>= fun z =>
  if (!z.2.2) = true then some [] else
  (speed_net_step x0.2 z.1 z.2.1) >>= fun s =>
  (speed_net_circle_l2 s.1 z.1 F 0) >>= fun at_ =>
  (speed_net_circle_l3 x0.2 s.2.1 F (Ar.fill 21 0) at_) >>= fun end_ =>
  (speed_net_circle_l4 x0.2 s.2.1 end_ F end_ []) >>= fun out =>
  slices_Reverse F out

theorem from_spec {all : List TRule} {by_ : List (Int × Int)} {at_ : Int} {p : Int × Int} (h : speed_from all by_ at_ = some p) : Key.ok at_ = true ∧ p.1 = mget 0 by_ at_ ∧ ∃ r, ix all p.1 = some r ∧ p.2 = r.1 := by
  unfold speed_from at h
  split at h
  · rename_i hk
    have hz := bs h; obtain ⟨r, Er, h⟩ := hz
    cases h
    exact ⟨hk, rfl, r, Er, rfl⟩
  · cases h

set_option maxHeartbeats 4000000 in
theorem c70 {w0 : World} {b0 : Nat} {cs0 : List Value} {x0 : TNet} (h0 : Cs w0 b0 0 cs0) (q0 : Enc.rep (fun _ => True) w0 cs0 x0) {F : Nat} {r : List Int} (hF : speed_net_circle F x0 = some r) :
    Calls Try.prog 70 [.pointer (some ⟨b0, 0, none⟩)].toArray w0 (Ret fun v w' => ∃ u0, v = u0 ∧ RV w' u0 r ∧ Ext w0 w') := by
  unfold speed_net_circle at hF
  have r0 : RV w0 (.pointer (some ⟨b0, 0, none⟩)) (⟨some x0⟩ : Ob TNet) := obNew h0 (by rw [Enc.len q0]; rfl) q0
  obtain ⟨_, _, rfl, ⟨_, _, rfl, rfl, ⟨a1, c1, rfl, p1, q3, e1⟩⟩, ⟨a2, c2, rfl, p2, q4, e2⟩⟩ := q0
  have r4 : RV w0 (.slice a2 x0.2.length c2) x0.2 := RV.of1 p2 q4 e2
  have hz := bs hF; obtain ⟨z, Ez, hF⟩ := hz
  refine entr (n := 85) Try.func70 rfl rfl rfl <| wp_seq <| rg <| vl rfl rfl xas <| nl <| wp_scope_straight <| wp_seq <| rg <| sal ti83 fun b3 w1 hx1 hg1 hb1 => ?_
  have hb1' : Bx w1 b3 83 ((Ar.fill 21 0 : Ar 21 Int).l.flatMap Flat.enc) := hb1
  refine nl <| wp_seq <| rg <| smmk (κ := Int) (ν := Int) fun b4 w2 hx2 hg2 hm2 => ?_
  have k2 := hx1.tr hx2
  have hb2 := hb1'.ext hx2
  have hs1 := hx1.size
  have hg2' : w0.heap.size ≤ b4 := Nat.le_trans hs1 hg2
  have hlt3 := hb1.lt
  refine vl rfl rfl xas <| nl <| wp_seq <| rg <| vl rfl rfl xas <| nl <| wp_seq <| ?_
  refine ct (fun L w => L 0 = .pointer (some ⟨b0, 0, none⟩) ∧ L 3 = .pointer (some ⟨b3, 0, none⟩) ∧ L 4 = .map (some b4) ∧ L 5 = .bool z.2.2 ∧ Bx w b3 83 (z.1.l.flatMap Flat.enc) ∧ Mp w b4 z.2.1 ∧ Ext w0 w) ?_ ?_
  · have h02 := h0.ext k2
    refine wp_seq <| rg <| vl rfl rfl xmv <| vl rfl rfl (xnil rfl) <| vl rfl rfl (xfa rfl fa91_0) <| vl rfl rfl (xfa rfl fa24_0) <| vl rfl rfl (xld rfl ti3 (h02.at 0 rfl)) <| vl rfl rfl (xadd rfl rfl) <| vl rfl rfl xmv <| nl <| ?_
    refine wp_block <| lp (I := fun m L w => ∃ i far by_ more, speed_net_circle_l1 x0.2 (w64 (x0.1.1 + 1)) m i far by_ more = some z ∧ L 0 = .pointer (some ⟨b0, 0, none⟩) ∧ L 3 = .pointer (some ⟨b3, 0, none⟩) ∧ L 4 = .map (some b4) ∧ L 5 = .bool more ∧ L 20 = .int .i64 (w64 (x0.1.1 + 1)) ∧ L 21 = .int .i64 i ∧ Bx w b3 83 (far.l.flatMap Flat.enc) ∧ Mp w b4 by_ ∧ Ext w0 w) F
      ⟨_, _, _, _, Ez, rfl, rfl, rfl, rfl, rfl, rfl, hb2, hm2, k2⟩ ?_
    rintro m L w3 ⟨i, far, by_, more, hB, l0, l3, l4, l5, l20, l21, bf, bm, k⟩
    rcases m with _ | m
    · rw [speed_net_circle_l1] at hB; cases hB
    rw [speed_net_circle_l1] at hB
    refine wp_seq <| rg <| vl rfl rfl (xlss l21 l20) <| nl <| wp_seq <| cnd rfl (fun h => ?_) (fun h => ?_)
    · have hB := ifp hB h
      have hz := bs hB; obtain ⟨s, Es, hB⟩ := hz
      refine wp_skip <| wp_seq <| wp_block <| rg <| vl rfl rfl (xmva l0) <| vl rfl rfl (xmva l4) <| cl rfl rfl (xc cb74 (mc rfl (mc l3 (mc rfl mn)))) (c74 (wb := w0) k r0 bf hg1 bm hg2' Es) fun v w4 hv => ?_
      obtain ⟨rfl, bf', bm', hx4⟩ := hv
      have k' := hx4.old k hg1 hg2'
      refine vl rfl rfl xas <| nl <| rg <| vl rfl rfl (xadd l21 rfl) <| vl rfl rfl xmv <| nl <| ?_
      exact lq m (Nat.lt_succ_self _) ⟨_, _, _, _, hB, l0, l3, l4, rfl, l20, rfl, bf', bm', k'⟩
    · have hB := ifn hB h
      cases hB
      exact wp_exit <| lf ⟨l0, l3, l4, l5, bf, bm, k⟩
  rintro L w5 ⟨l0, l3, l4, l5, bf, bm, k5⟩
  refine wp_seq <| wp_seq <| rg <| vl rfl rfl (xmva l5) <| vl rfl rfl (xnot rfl) <| nl <| cnd rfl (fun h => ?_) (fun h => ?_)
  · have hF := ifp hF h
    cases hF
    exact wp_seq <| rg <| vl rfl rfl xas <| nl <| wp_ret <| rt rfl (.tmp rfl rfl .nil) ⟨_, rfl, RVo.nil (Nat.zero_le _), k5⟩
  have hF := ifn hF h
  have hz := bs hF; obtain ⟨s, Es, hF⟩ := hz
  have hz := bs hF; obtain ⟨at_, Ea, hF⟩ := hz
  have hz := bs hF; obtain ⟨end_, Ee, hF⟩ := hz
  have hz := bs hF; obtain ⟨out, Eo, hF⟩ := hz
  refine wp_skip <| wp_seq <| rg <| vl rfl rfl (xlda l3 ti83 (arlen _) (Bx.cs bf)) <| sal ti83 fun b6 w6 hx6 hg6 hb6 => ?_
  refine sstw rfl rfl ti83 hb6 rfl (arlen _) (flat_one _) fun w7 hch7 hb7 => ?_
  have kx7 : Ext w5 w7 := hx6.chg hch7 hg6
  have bf7 := bf.ext kx7
  have bm7 := bm.ext kx7
  have k7 := k5.tr kx7
  have hl5 := bf.lt
  have hl5m := bm.lt
  refine nl <| wp_seq <| rg <| vl rfl rfl (xmva l0) <| vl rfl rfl (xmva l4) <| cl rfl rfl (xc cb74 (mc rfl (mc l3 (mc rfl mn)))) (c74 (wb := w0) k7 r0 bf7 hg1 bm7 hg2' Es) fun v w8 hv => ?_
  obtain ⟨rfl, bf8, bm8, hx8⟩ := hv
  have k8 := hx8.old k7 hg1 hg2'
  have bo8 := hb7.belx hx8 hb7.lt (by omega) (by omega)
  refine nl <| wp_seq <| rg <| vl rfl rfl xas <| nl <| wp_seq <| wp_label <| wp_seq <| ?_
  refine ct (fun L w => L 0 = .pointer (some ⟨b0, 0, none⟩) ∧ L 3 = .pointer (some ⟨b3, 0, none⟩) ∧ L 4 = .map (some b4) ∧ L 7 = .int .i64 at_ ∧ Ext w8 w) ?_ ?_
  · refine wp_seq <| rg <| vl rfl rfl xmv <| nl <| wp_block <| lp (I := fun m L w => ∃ t : Int, speed_net_circle_l2 s.1 z.1 m t = some at_ ∧ L 0 = .pointer (some ⟨b0, 0, none⟩) ∧ L 3 = .pointer (some ⟨b3, 0, none⟩) ∧ L 4 = .map (some b4) ∧ L 6 = .pointer (some ⟨b6, 0, none⟩) ∧ L 7 = .int .i64 0 ∧ L 33 = .int .i64 t ∧ Ext w8 w) F
      ⟨_, Ea, l0, l3, l4, rfl, rfl, rfl, Ext.refl _⟩ ?_
    rintro m L w9 ⟨t, hB, l0, l3, l4, l6, l7, l33, k9⟩
    rcases m with _ | m
    · rw [speed_net_circle_l2] at hB; cases hB
    rw [speed_net_circle_l2] at hB
    refine wp_seq <| rg <| vl rfl rfl (xlss l33 rfl) <| nl <| wp_seq <| cnd rfl (fun h => ?_) (fun h => ?_)
    · have hB := ifp hB h
      have hz := bs hB; obtain ⟨a, Eat, hB⟩ := hz
      have hz := bs hB; obtain ⟨b, Ebt, hB⟩ := hz
      refine wp_skip <| wp_seq <| wp_block <| wp_seq <| rg <| vl rfl rfl (xmva l33) <| vl rfl rfl xas <| nl <| wp_seq <| wpl [] (.pure true 0 (.pure true 1 (.pure false 2 (.pure true 3 (.pure true 4 (.pure false 5 (.pure true 6 .fin))))))) mixed (by kernel_rfl) (fun wd hxd => ?_)
      have df := bf8.ext (k9.tr hxd)
      have dz := bo8.ext (k9.tr hxd)
      have hz := ixar (Bx.cs df) Eat; obtain ⟨i1, i2, hc1⟩ := hz
      have hz := ixar (Bx.cs dz) Ebt; obtain ⟨i3, i4, hc2⟩ := hz
      refine pv rfl rfl rfl (fun _ _ => xmv) (.inl rfl) <| pv rfl rfl rfl (fun _ _ => xixa l3 rfl Try.underlying83 ti2 i1 i2) (.inl rfl) <| pv rfl rfl rfl (fun _ hS => xld rfl ti2 ((hc1.ext (hS.resolve_left nofun)).at 0 rfl)) (.inr (Ext.refl _)) <| pv rfl rfl rfl (fun _ _ => xmv) (.inl rfl) <| pv rfl rfl rfl (fun _ _ => xixa l6 rfl Try.underlying83 ti2 i3 i4) (.inl rfl) <| pv rfl rfl rfl (fun _ hS => xld rfl ti2 ((hc2.ext (hS.resolve_left nofun)).at 0 rfl)) (.inr (Ext.refl _)) <| pv rfl rfl rfl (fun _ _ => xneq rfl rfl) (.inl rfl) <| ?_
      refine cnd rfl (fun h2 => ?_) (fun h2 => ?_)
      · have hB := ifp hB h2
        cases hB
        exact wp_seq <| rg <| vl rfl rfl xmv <| vl rfl rfl xas <| nl <| wp_exit <| lf ⟨l0, l3, l4, rfl, k9.tr hxd⟩
      · refine wp_skip <| rg <| vl rfl rfl (xadd l33 rfl) <| vl rfl rfl xmv <| nl <| ?_
        exact lq m (Nat.lt_succ_self _) ⟨_, ifn hB h2, l0, l3, l4, l6, l7, rfl, k9.tr hxd⟩
    · have hB := ifn hB h
      cases hB
      exact wp_exit <| lf ⟨l0, l3, l4, l7, k9⟩
  rintro L w9 ⟨l0, l3, l4, l7, k9⟩
  refine wp_seq <| rg <| vl rfl rfl (xbda ti83 Try.underlying83 ti2 rfl) <| sal ti83 fun b9 w10 hx10 hg10 hb10 => ?_
  refine sstw rfl rfl ti83 hb10 rfl rfl (flat_one (Ar.fill 21 0 : Ar 21 Int).l) fun w11 hch11 hb11 => ?_
  have kx11 : Ext w8 w11 := k9.tr (hx10.chg hch11 hg10)
  have hb11' : Bx w11 b9 83 ((Ar.fill 21 0 : Ar 21 Int).l.flatMap Flat.enc) := hb11
  have hg9 : w8.heap.size ≤ b9 := Nat.le_trans k9.size hg10
  refine nl <| wp_seq <| ?_
  refine ct (fun L w => L 0 = .pointer (some ⟨b0, 0, none⟩) ∧ L 4 = .map (some b4) ∧ L 7 = .int .i64 end_ ∧ Ext w8 w) ?_ ?_
  · refine wp_block <| lp (I := fun m L w => ∃ seen at2, speed_net_circle_l3 x0.2 s.2.1 m seen at2 = some end_ ∧ L 0 = .pointer (some ⟨b0, 0, none⟩) ∧ L 4 = .map (some b4) ∧ L 9 = .pointer (some ⟨b9, 0, none⟩) ∧ L 7 = .int .i64 at2 ∧ Bx w b9 83 (seen.l.flatMap Flat.enc) ∧ Ext w8 w) F
      ⟨_, _, Ee, l0, l4, rfl, l7, hb11', kx11⟩ ?_
    rintro m L w12 ⟨seen, at2, hB, l0, l4, l9, l7, bs9, k12⟩
    rcases m with _ | m
    · rw [speed_net_circle_l3] at hB; cases hB
    rw [speed_net_circle_l3] at hB
    have hz := bs hB; obtain ⟨a, Eat, hB⟩ := hz
    have hz := ixar (Bx.cs bs9) Eat; obtain ⟨i1, i2, hc1⟩ := hz
    refine wp_seq <| wp_seq <| rg <| vl rfl rfl (xmva l7) <| vl rfl rfl (xixa l9 rfl Try.underlying83 ti2 i1 i2) <| vl rfl rfl (xld rfl ti2 (hc1.at 0 rfl)) <| vl rfl rfl (xeql rfl rfl) <| nl <| cnd rfl (fun h => ?_) (fun h => ?_)
    · have hB := ifp hB h
      have hz := bs hB; obtain ⟨p, Ep, hB⟩ := hz
      have hz := from_spec Ep; obtain ⟨hk, hp1, rr, Er, hp2⟩ := hz
      refine wp_skip <| wp_block <| wp_seq <| rg <| vl rfl rfl (xmva l7) <| vl rfl rfl (xixa l9 rfl Try.underlying83 ti2 i1 i2) <| ssta (X := seen) (v := 1) rfl rfl rfl ti2 bs9 Eat fun w13 hch13 bs13 => ?_
      have k13 := k12.chg hch13 hg9
      have bm13 := bm8.ext k13
      have r13 := r4.ext (k8.tr k13)
      have h13 := h0.ext (k8.tr k13)
      have hz := r13.els.ix Er; obtain ⟨b5, f5, cs5, rfl, i3, i4, q5, hc5⟩ := hz
      obtain ⟨_, _, rfl, rfl, ⟨_, _, rfl, rfl, rfl⟩⟩ := q5
      refine nl <| wp_seq <| rg <| vl rfl rfl (xmva l4) <| vl rfl rfl (xmva l7) <| vl rfl rfl (xlku (d := (0 : Int)) Try.underlying84 kt3 (zero3 _) bm13 hk rfl rfl) <| vl rfl rfl xas <| nl <| ?_
      rw [← hp1]
      refine rg <| vl rfl rfl (xmva l0) <| vl rfl rfl (xnil rfl) <| vl rfl rfl (xfa rfl fa91_1) <| vl rfl rfl (xld rfl ti22 (h13.at 2 rfl)) <| vl rfl rfl xmv <| vl rfl rfl (xixs rfl rfl Try.underlying22 ti56 i3 i4) <| vl rfl rfl (xfa rfl fa56_0) <| vl rfl rfl (xld rfl ti3 (hc5.at 0 rfl)) <| vl rfl rfl xas <| nl <| ?_
      exact lq m (Nat.lt_succ_self _) ⟨_, _, hB, l0, l4, l9, by rw [hp2]; rfl, bs13, k13⟩
    · have hB := ifn hB h
      cases hB
      exact wp_exit <| lf ⟨l0, l4, l7, k12⟩
  rintro L w14 ⟨l0, l4, l7, k14⟩
  refine wp_seq <| rg <| vl rfl rfl xas <| nl <| wp_seq <| ?_
  refine ct (fun L w => ∃ v, L 11 = v ∧ Row (α := Int) 3 w14.heap.size w v out ∧ Ext w14 w) ?_ ?_
  · refine wp_seq <| rg <| vl rfl rfl (xmva l7) <| vl rfl rfl xas <| nl <| wp_block <| lp (I := fun m L w => ∃ at2 o v, speed_net_circle_l4 x0.2 s.2.1 end_ m at2 o = some out ∧ L 0 = .pointer (some ⟨b0, 0, none⟩) ∧ L 4 = .map (some b4) ∧ L 7 = .int .i64 at2 ∧ L 12 = .int .i64 end_ ∧ L 11 = v ∧ Row (α := Int) 3 w14.heap.size w v o ∧ Ext w14 w) F
      ⟨_, _, _, Eo, l0, l4, l7, rfl, rfl, Row.nil, Ext.refl _⟩ ?_
    rintro m L w15 ⟨at2, o, v, hB, l0, l4, l7, l12, l11, ro, k15⟩
    rcases m with _ | m
    · rw [speed_net_circle_l4] at hB; cases hB
    rw [speed_net_circle_l4] at hB
    have hz := bs hB; obtain ⟨p, Ep, hB⟩ := hz
    have hz := bs hB; obtain ⟨o2, Eo2, hB⟩ := hz
    have hz := from_spec Ep; obtain ⟨hk, hp1, rr, Er, hp2⟩ := hz
    have bm15 := bm8.ext (k14.tr k15)
    refine wp_block <| wp_seq <| rg <| vl rfl rfl (xmva l4) <| vl rfl rfl (xmva l7) <| vl rfl rfl (xlku (d := (0 : Int)) Try.underlying84 kt3 (zero3 _) bm15 hk rfl rfl) <| vl rfl rfl xas <| nl <| ?_
    rw [← hp1]
    refine wp_seq <| rg <| vl rfl rfl (xmva l11) <| vl rfl rfl xmv <| sbsv (cs := [.int .i64 p.1]) Try.underlying36 ti3 rfl (pc rfl pn) rfl rfl rfl rfl rfl fun b5 w16 hx16 hg16 hb16 => ?_
    have o1 : Row (α := Int) 3 w15.heap.size w16 (.slice (some ⟨b5, 0, none⟩) 1 1) [p.1] := Row.lit hg16 hb16 rfl (ble rfl)
    have ro16 := ro.ext hx16
    have k16 := k15.tr hx16
    refine sapx (l := o) (k := [p.1]) rfl rfl Try.underlying36 ti3 rfl rfl ro16 (RV.els o1.rv) Eo2 k16.size fun v2 w17 o17 hB17 _ _ => ?_
    have k17 : Ext w14 w17 := k16.trans hB17
    have r17 := r4.ext (k8.tr (k14.tr k17))
    have h17 := h0.ext (k8.tr (k14.tr k17))
    have hz := r17.els.ix Er; obtain ⟨b6', f5, cs5, rfl, i3, i4, q5, hc5⟩ := hz
    obtain ⟨_, _, rfl, rfl, ⟨_, _, rfl, rfl, rfl⟩⟩ := q5
    refine vl rfl rfl xas <| nl <| wp_seq <| rg <| vl rfl rfl (xmva l0) <| vl rfl rfl (xnil rfl) <| vl rfl rfl (xfa rfl fa91_1) <| vl rfl rfl (xld rfl ti22 (h17.at 2 rfl)) <| vl rfl rfl xmv <| vl rfl rfl (xixs rfl rfl Try.underlying22 ti56 i3 i4) <| vl rfl rfl (xfa rfl fa56_0) <| vl rfl rfl (xld rfl ti3 (hc5.at 0 rfl)) <| vl rfl rfl xas <| nl <| ?_
    refine wp_seq <| rg <| vl rfl rfl xmv <| vl rfl rfl (xmva l12) <| vl rfl rfl (xeql rfl rfl) <| nl <| cnd rfl (fun h => ?_) (fun h => ?_)
    · rw [hp2] at hB
      have hB := ifp hB h
      cases hB
      exact wp_exit <| lf ⟨_, rfl, o17, k17⟩
    · rw [hp2] at hB
      exact wp_skip <| lq m (Nat.lt_succ_self _) ⟨_, _, _, ifn hB h, l0, l4, rfl, l12, rfl, o17, k17⟩
  rintro L w18 ⟨v, l11, ro, k18⟩
  refine wp_seq <| rg <| vl rfl rfl (xmva l11) <| cl rfl rfl (xc cb60 (mc rfl mn)) (c60 (wb := w14) k18 ro hF) fun v2 w19 hv => ?_
  obtain ⟨_, ro19, k19, _⟩ := hv
  refine nl <| wp_seq <| rg <| vl rfl rfl (xmva l11) <| vl rfl rfl xas <| nl <| ?_
  exact wp_ret <| rt rfl (.tmp rfl rfl .nil) ⟨_, rfl, ro19.rv, (k8.tr k14).tr k19⟩
end Go.Proofs.Ythppacohnciinaa
