/-
  The iterator over the stocks that can be reached. Condition: the pure function computes something.
-/
import Derived.Test.YtboefnpnoojfpaaManB
import Derived.IntWalk
namespace Go.Proofs.Ytboefnpnoojfpaa
open Go Go.Md Go.RowKit
attribute [local irreducible] Go.wpList Go.Code.wp Go.Calls Go.Md.Rnd Go.Md.Mt

/-- The moves that can be made from a stock: what they lead to is noted. -/
def rch_in (F : Nat) (x : Spec) (at_ : St) : Nat → Int → By → Left → Int → Option (By × Left × Int)
  | 0, _, _, _, _ => none
  | m + 1, i, by_, left, en =>
    if (decide (i < (x.2.length : Int))) = true then
      (bath_shop_after F (x, Opq.mk) at_ i) >>= fun p =>
      if (!p.2) = true then rch_in F x at_ m (w64 (i + 1)) by_ left en else
      (kok p.1) >>= fun _ =>
      if (!mhas by_ p.1) = true then (kok en) >>= fun _ => rch_in F x at_ m (w64 (i + 1)) (mput by_ p.1 (i, at_)) (mput left en p.1) (w64 (en + 1))
      else rch_in F x at_ m (w64 (i + 1)) by_ left en
    else some (by_, left, en)
/-- What the iterator yields, each with what is noted then; and what is noted at the end. -/
def rch_out (F : Nat) (x : Spec) : Nat → Int → Int → By → Left → Option (List (St × By) × By)
  | 0, _, _, _, _ => none
  | m + 1, n, en, by_, left =>
    if (decide (n < en)) = true then
      (kok n) >>= fun _ =>
      (rch_in F x (mget z79 left n) F 0 by_ (mdel left n) en) >>= fun q =>
      (rch_out F x m (w64 (n + 1)) q.2.2 q.1 q.2.1) >>= fun r => some ((mget z79 left n, by_) :: r.1, r.2)
    else some ([], by_)
def bath_reached (F : Nat) (x : Spec) (from_ : St) : Option (List (St × By) × By) :=
  (kok from_) >>= fun _ => rch_out F x F 0 1 (mput [] from_ (-1, z79)) (mput [] 0 from_)

def byat (us : List (St × By)) (bf : By) (k : Nat) : By := ((us.map (·.2)) ++ [bf])[k]?.getD bf
theorem byat_mid {pre rest : List (St × By)} {p : St × By} {bf : By} : byat (pre ++ p :: rest) bf pre.length = p.2 := by simp [byat]
theorem byat_end {us : List (St × By)} {bf : By} : byat us bf us.length = bf := by simp [byat]
def StB (bo base : Nat) (c1 c2 : Value) (us : List (St × By)) (bf : By) (k : Nat) (w : World) : Prop := ∃ mb, base ≤ mb ∧ Bx w bo 105 [c1, c2, .map (some mb)] ∧ Mp w mb (byat us bf k)
theorem belowLe {A B : Nat} {w w' : World} (h : Below B w w') (hA : A ≤ B) : Below A w w' := ⟨h.os, h.tape, h.output, h.size, fun k hk => h.block k (by omega)⟩
theorem kok0 : Key.ok (0 : Int) = true := by decide
abbrev encU (us : List (St × By)) : List (Array Value) := (us.map (·.1)).map fun x => #[fv x]
abbrev Kp2 (a t N : Nat) (A C : World) : Prop := BelI a t N A C ∧ KeepC a t A C

theorem fill111 (i : Int) : ∀ X : St, fillL (([(0, 1), (1, 5)] : List (Nat × Nat))[·]?) [.int .i64 0, .int .i64 0, .int .i64 0, .int .i64 0, .int .i64 0, .int .i64 0] [(0, [.int .i64 i]), (1, X.l.flatMap Flat.enc)] = some (Flat.enc ((i, X) : Step))
  | ⟨[_, _, _, _, _], _⟩ => rfl

set_option maxHeartbeats 8000000 in
theorem st74 {m : Nat} {w0 w : World} (k0 : Ext w0 w) {bx1 bx2 bo a t : Nat} {a1 a2 : Option Addr} {q1 q2 : Nat} {x0 : Spec} (r1 : RV w0 (.slice a1 x0.1.length q1) x0.1) (r2 : RV w0 (.slice a2 x0.2.length q2) x0.2) {from_ : St}
    (h1 : Bx w bx1 72 [.pointer (some ⟨bo, 0, none⟩)]) (h2 : Bx w bx2 79 (Flat.enc from_)) (hs : Bx w bo 105 [.slice a1 x0.1.length q1, .slice a2 x0.2.length q2, .map none])
    (h0b : w0.heap.size ≤ bo) (hba : bo < a) (hat : a ≤ t) (ht : t ≤ w.heap.size) (ht1 : t ≤ bx1) (ht2 : t ≤ bx2) {F : Nat} {us : List (St × By)} {bf : By} (hF : bath_reached F x0 from_ = some (us, bf)) :
    SeqQ Try.prog bo (Kp2 a t w.heap.size) (StB bo w.heap.size (.slice a1 x0.1.length q1) (.slice a2 x0.2.length q2) us bf) m 74 #[.pointer (some ⟨bx1, 0, none⟩), .pointer (some ⟨bx2, 0, none⟩)] (encU us) w := by
  intro l J Jx W hW hJ hJx hY hj0
  unfold bath_reached at hF
  have hz := bs hF; obtain ⟨_, Ek, hF⟩ := hz
  have hNW := hW.size
  have kW : Ext w0 W := k0.tr hW
  have h1W := h1.ext hW
  have h2W := h2.ext hW
  have hsW := hs.ext hW
  have hbl := hsW.lt
  have h1l := h1.lt
  have k0s := k0.size
  refine (callsIn_wide.2 ?_ : CallsIn Fence.wide m Try.prog 74 ([.func (.yield l) #[] #[], .pointer (some ⟨bx1, 0, none⟩), .pointer (some ⟨bx2, 0, none⟩)].toArray) W _)
  refine Calls.mono (R := Ret fun v W' => (J us.length W' ∧ StB bo w.heap.size (.slice a1 x0.1.length q1) (.slice a2 x0.2.length q2) us bf us.length W') ∨ Jx W') ?_ ?_
  rotate_left
  · rintro e W' ⟨v, rfl, h⟩
    exact ⟨⟨v, rfl⟩, by simpa [encU] using h⟩
  refine entr (n := 84) Try.func74 rfl rfl rfl <| wp_seq <| rg <| vl rfl rfl (xld rfl ti72 ((Bx.cs h1W).at 0 rfl)) <| vl rfl rfl (xnil rfl) <| vl rfl rfl (xfa rfl fa105_1) <| vl rfl rfl (xld rfl ti103 ((Bx.cs hsW).at 2 rfl)) <| scln rfl Try.underlying103 <| nl <| wp_seq <| ?_
  refine wpl [8] (.pure false 0 (.pure false 2 (.pure true 3 (.eff 1 (.eff 4 (.pure true 5 (.pure true 6 (.pure true 7 (.eff 8 .fin .stop)))) .stop) .stop)))) mixed (by kernel_rfl) (fun w1 hx1 => ?_)
  have h11 := h1W.ext hx1
  have h21 := h2W.ext hx1
  have hs1 := hsW.ext hx1
  refine pv rfl rfl rfl (fun _ hS => xld rfl ti72 ((Bx.cs (h11.ext (hS.resolve_left nofun))).at 0 rfl)) (.inr (Ext.refl _)) <| pv rfl rfl rfl (fun _ hS => xlda rfl ti79 (Flat.len from_) (Bx.cs (h21.ext (hS.resolve_left nofun)))) (.inr (Ext.refl _)) <| pv rfl rfl rfl (fun _ _ => xbdv (r := Flat.enc ((-1, z79) : Step)) ti111 sp111 (pc rfl pn) rfl) (.inl rfl) <| ?_
  refine pe1 rfl <| smmk (κ := St) (ν := Step) fun mb w2 hx2 hgb hm2 => nl ⟨fun _ _ => hx2, ?_⟩
  refine pe1 rfl <| smin (k := from_) (v := ((-1, z79) : Step)) rfl rfl rfl Try.underlying103 kt79 hm2 (kok_spec Ek) fun w3 hc3 hm3 => nl ⟨fun _ _ => hx2.chg hc3 hgb, ?_⟩
  have k13 : Ext w1 w3 := hx2.chg hc3 hgb
  have hs3 := hs1.ext k13
  refine pv rfl rfl rfl (fun _ _ => xmv) (.inl rfl) <| pv rfl rfl rfl (fun _ _ => xnil rfl) (.inl rfl) <| pv rfl rfl rfl (fun _ _ => xfa rfl fa105_1) (.inl rfl) <| ?_
  refine pe1 rfl <| sst rfl rfl rfl ti103 hs3 rfl rfl (ble rfl) fun w4 hc4 hs4 => nl ⟨fun h => (h (by decide)).elim, ?_⟩
  have hs4 : Bx w4 bo 105 [.slice a1 x0.1.length q1, .slice a2 x0.2.length q2, .map (some mb)] := hs4
  have kW3 : Ext W w3 := hx1.tr k13
  have kX4 : BelX W.heap.size bo bo W w4 := (BelX.of kW3 (Nat.le_refl _)).chgb hc4
  have hgbW : W.heap.size ≤ mb := Nat.le_trans hx1.size hgb
  have hm4 : Mp w4 mb (mput [] from_ ((-1, z79) : Step)) := hm3.chg hc4 (by omega)
  have h14 : Bx w4 bx1 72 _ := (h11.ext k13).chg hc4 (by omega)
  have h24 : Bx w4 bx2 79 _ := (h21.ext k13).chg hc4 (by omega)
  refine wp_seq <| rg <| smmk (κ := Int) (ν := St) fun ml w5 hx5 hgl hl5 => ?_
  have h25 := h24.ext hx5
  refine vl rfl rfl (xlda rfl ti79 (Flat.len from_) (Bx.cs h25)) <| smin (k := (0 : Int)) (v := from_) rfl rfl rfl Try.underlying112 kt3 hl5 kok0 fun w6 hc6 hl6 => ?_
  have hml := hl5.lt
  have hmbl := hm4.lt
  have hs4l := hs4.lt
  have h14l := h14.lt
  have k46 : Ext w4 w6 := hx5.chg hc6 hgl
  have hs6 := hs4.ext k46
  have hm6 := hm4.ext k46
  have h16 := h14.ext k46
  have hsz4 := kX4.size
  have kX6 : BelX W.heap.size bo bo W w6 := kX4.ext k46 hsz4
  refine vl rfl rfl xmv <| vl rfl rfl xas <| nl <| wp_seq <| rg <| vl rfl rfl xas <| vl rfl rfl xas <| nl <| ?_
  have hne : mb ≠ ml := by omega
  have hgl' : W.heap.size ≤ ml := by omega
  refine wp_block <| lp (I := fun m' L w' => ∃ (n en : Int) (by_ : By) (left : Left) (pre rest : List (St × By)), rch_out F x0 m' n en by_ left = some (rest, bf) ∧ us = pre ++ rest ∧ J pre.length w' ∧ Ext w0 w' ∧ W.heap.size ≤ w'.heap.size ∧ Bx w' bx1 72 [.pointer (some ⟨bo, 0, none⟩)] ∧ Bx w' bo 105 [.slice a1 x0.1.length q1, .slice a2 x0.2.length q2, .map (some mb)] ∧ Mp w' mb by_ ∧ Mp w' ml left ∧
    L 0 = .func (.yield l) #[] #[] ∧ L 1 = .pointer (some ⟨bx1, 0, none⟩) ∧ L 4 = .map (some ml) ∧ L 5 = .int .i64 n ∧ L 6 = .int .i64 en) F
    ⟨_, _, _, _, [], us, hF, rfl, hJ 0 W w6 hj0 kX6, kW.belx kX6 (by omega) h0b h0b, kX6.size, h16, hs6, hm6, hl6, rfl, rfl, rfl, rfl, rfl⟩ ?_
  rintro m' L w7 ⟨n, en, by_, left, pre, rest, hB, hus, hj, k7, hN7, hb1, hbs, hmb, hml7, l0, l1, l4, l5, l6⟩
  rcases m' with _ | m'
  · rw [rch_out] at hB; cases hB
  rw [rch_out] at hB
  refine wp_seq <| wp_seq <| rg <| vl rfl rfl (xmva l5) <| vl rfl rfl (xmva l6) <| vl rfl rfl (xlss rfl rfl) <| nl <| cnd rfl (fun h => ?_) (fun h => ?_)
  rotate_left
  · have hB := ifn hB h
    cases hB
    refine wp_exit <| rtn rfl .nil (.inl ⟨?_, mb, by omega, hbs, ?_⟩)
    · rw [hus, List.append_nil]; exact hj
    · rw [byat_end]; exact hmb
  have hB := ifp hB h
  have hz := bs hB; obtain ⟨_, Ekn, hB⟩ := hz
  have hz := bs hB; obtain ⟨q, Eq, hB⟩ := hz
  have hz := bs hB; obtain ⟨rr, Er, hB⟩ := hz
  generalize hat_ : mget z79 left n = at_ at Eq hB
  have hB' : (at_, by_) :: rr.1 = rest ∧ rr.2 = bf := by simpa using hB
  obtain ⟨hrest, hbf⟩ := hB'
  refine wp_skip <| wp_seq <| wp_block <| wp_seq <| rg <| vl rfl rfl (xmva l4) <| vl rfl rfl (xmva l5) <| vl rfl rfl (xlku (k := n) (d := z79) Try.underlying112 kt3 (zero79 _) hml7 (kok_spec Ekn) rfl rfl) <| ?_
  rw [hat_]
  refine sal ti79 fun b7 w8 hx8 hg8 hb8 => sstf (u := at_) rfl rfl ti79 rfl hb8 rfl fun w9 hc9 hb9 => ?_
  have k79 : Ext w7 w9 := hx8.chg hc9 hg8
  have hml9 := hml7.ext k79
  refine nl <| wp_seq <| rg <| vl rfl rfl (xmva l4) <| vl rfl rfl (xmva l5) <| smdn (k := n) rfl rfl Try.underlying112 kt3 hml9 (kok_spec Ekn) fun w10 hc10 hml10 => nl <| ?_
  have hmll := hml7.lt
  have hX10 : BelX W.heap.size bo bo w7 w10 := ((BelX.of k79 hN7).chg hc10 hgl')
  have hj10 := hJ _ _ _ hj hX10
  have k10 : Ext w0 w10 := k7.belx hX10 (by omega) h0b h0b
  have hb110 := (hb1.ext k79).chg hc10 (Ne.symm (hml9.not_cells (hb1.ext k79)))
  have hbs10 := (hbs.ext k79).chg hc10 (Ne.symm (hml9.not_cells (hbs.ext k79)))
  have hb710 := hb9.chg hc10 (Ne.symm (hml9.not_cells hb9))
  have hmb10 := (hmb.ext k79).chg hc10 hne
  have hus' : us = pre ++ (at_, by_) :: rr.1 := by rw [hus, ← hrest]
  have hu : (encU us)[pre.length]? = some #[fv at_] := by rw [hus']; simp [encU]
  have hst : StB bo w.heap.size (.slice a1 x0.1.length q1) (.slice a2 x0.2.length q2) us bf pre.length w10 := ⟨mb, by omega, hbs10, by rw [hus', byat_mid]; exact hmb10⟩
  have hg7 : W.heap.size ≤ b7 := Nat.le_trans hN7 hg8
  have hz := hY pre.length _ w10 hu hj10 hst; obtain ⟨fn, tmps, assign, body, hy, hR⟩ := hz
  refine wp_seq <| wp_seq <| rgW (m := m) <| vlW rfl rfl nofun (xmva l0) <| vlW rfl rfl nofun (xlda rfl ti79 (Flat.len at_) (Bx.cs hb710)) <| ylW rfl rfl nofun (xyl rfl (mc rfl mn) hy) hR fun e w11 he => ?_
  rcases he with ⟨rfl, hj11, hkb, hkc⟩ | ⟨rfl, hj11⟩
  rotate_left
  · refine ⟨_, rfl, vlW rfl rfl nofun (xnot rfl) <| nlW <| cnd rfl (fun _ => ?_) (fun h => by cases h)⟩
    exact wp_ret <| rt rfl .nil (.inr hj11)
  refine ⟨_, rfl, vlW rfl rfl nofun (xnot rfl) <| nlW <| cnd rfl (fun h => by cases h) (fun _ => ?_)⟩
  have k11 : Ext w0 w11 := k10.trans (belowLe (hkb.below (by omega)) (by omega))
  have hb111 := hb110.keep2 hkc (.inr ht1)
  have hbs11 := hbs10.keep2 hkc (.inl hba)
  have hb711 := hb710.keep2 hkc (.inr (by omega))
  have hmb11 := hmb10.keepc hkc (.inr (by omega))
  have hml11 := hml10.keepc hkc (.inr (by omega))
  have hs11 : W.heap.size ≤ w11.heap.size := Nat.le_trans (Nat.le_trans hN7 hX10.size) hkb.size
  -- the moves
  have r2_11 := r2.ext k11
  refine wp_skip <| wp_seq <| rg <| vl rfl rfl (xld l1 ti72 ((Bx.cs hb111).at 0 rfl)) <| vl rfl rfl (xnil rfl) <| vl rfl rfl (xfa rfl fa105_0) <| vl rfl rfl (xfa rfl fa25_1) <| vl rfl rfl (xld rfl ti23 ((Bx.cs hbs11).at 1 rfl)) <| vl rfl rfl (xlen rfl Try.underlying23) <| vl rfl rfl xmv <| nl <| ?_
  refine ct (fun L w' => L 6 = .int .i64 q.2.2 ∧ J (pre.length + 1) w' ∧ Ext w0 w' ∧ W.heap.size ≤ w'.heap.size ∧ Bx w' bx1 72 [.pointer (some ⟨bo, 0, none⟩)] ∧ Bx w' bo 105 [.slice a1 x0.1.length q1, .slice a2 x0.2.length q2, .map (some mb)] ∧ Mp w' mb q.1 ∧ Mp w' ml q.2.1 ∧
    L 0 = .func (.yield l) #[] #[] ∧ L 1 = .pointer (some ⟨bx1, 0, none⟩) ∧ L 4 = .map (some ml) ∧ L 5 = .int .i64 n) ?_ ?_
  · refine wp_block <| lp (I := fun m'' L w' => ∃ (i en' : Int) (by' : By) (left' : Left), rch_in F x0 at_ m'' i by' left' en' = some q ∧ BelX W.heap.size bo bo w11 w' ∧ Ext w0 w' ∧ Bx w' bx1 72 [.pointer (some ⟨bo, 0, none⟩)] ∧ Bx w' bo 105 [.slice a1 x0.1.length q1, .slice a2 x0.2.length q2, .map (some mb)] ∧ Mp w' mb by' ∧ Mp w' ml left' ∧ Bx w' b7 79 (Flat.enc at_) ∧
      L 0 = .func (.yield l) #[] #[] ∧ L 1 = .pointer (some ⟨bx1, 0, none⟩) ∧ L 4 = .map (some ml) ∧ L 5 = .int .i64 n ∧ L 6 = .int .i64 en' ∧ L 7 = .pointer (some ⟨b7, 0, none⟩) ∧ L 46 = .int .i64 (x0.2.length : Int) ∧ L 47 = .int .i64 i) F
      ⟨_, _, _, _, Eq, BelX.refl, k11, hb111, hbs11, hmb11, hml11, hb711, l0, l1, l4, l5, l6, rfl, rfl, rfl⟩ ?_
    rintro m'' L w12 ⟨i, en', by', left', hC, hX, k12, c1, cs, cmb, cml, c7, l0, l1, l4, l5, l6, l7, l46, l47⟩
    rcases m'' with _ | m''
    · rw [rch_in] at hC; cases hC
    rw [rch_in] at hC
    have hs12 : W.heap.size ≤ w12.heap.size := Nat.le_trans hs11 hX.size
    refine wp_seq <| rg <| vl rfl rfl (xlss l47 l46) <| nl <| wp_seq <| cnd rfl (fun h => ?_) (fun h => ?_)
    rotate_left
    · have hC := ifn hC h
      cases hC
      exact wp_exit <| lf ⟨l6, hJ _ _ _ hj11 hX, k12, hs12, c1, cs, cmb, cml, l0, l1, l4, l5⟩
    have hC := ifp hC h
    have hz := bs hC; obtain ⟨p, Ep, hC⟩ := hz
    have r1_12 := r1.ext k12
    have r2_12 := r2.ext k12
    refine wp_skip <| wp_seq <| ?_
    refine ct (fun L w' => ∃ (en2 : Int) (by2 : By) (left2 : Left), rch_in F x0 at_ m'' (w64 (i + 1)) by2 left2 en2 = some q ∧ BelX W.heap.size bo bo w11 w' ∧ Ext w0 w' ∧ Bx w' bx1 72 [.pointer (some ⟨bo, 0, none⟩)] ∧ Bx w' bo 105 [.slice a1 x0.1.length q1, .slice a2 x0.2.length q2, .map (some mb)] ∧ Mp w' mb by2 ∧ Mp w' ml left2 ∧ Bx w' b7 79 (Flat.enc at_) ∧
      L 0 = .func (.yield l) #[] #[] ∧ L 1 = .pointer (some ⟨bx1, 0, none⟩) ∧ L 4 = .map (some ml) ∧ L 5 = .int .i64 n ∧ L 6 = .int .i64 en2 ∧ L 7 = .pointer (some ⟨b7, 0, none⟩) ∧ L 46 = .int .i64 (x0.2.length : Int) ∧ L 47 = .int .i64 i) ?_ ?_
    · refine wp_block <| wp_seq <| rg <| vl rfl rfl (xmva l47) <| vl rfl rfl xas <| nl <| wp_seq <| rg <| vl rfl rfl (xld l1 ti72 ((Bx.cs c1).at 0 rfl)) <| vl rfl rfl (xlda l7 ti79 (Flat.len at_) (Bx.cs c7)) <| vl rfl rfl xmv <| ?_
      refine cl rfl rfl (xc cb48 (mc rfl (mc rfl (mc rfl mn)))) (c48 (x0 := (x0, Opq.mk)) (Bx.cs cs) ⟨[.slice a1 x0.1.length q1] ++ [.slice a2 x0.2.length q2], [.map (some mb)], rfl, ⟨[.slice a1 x0.1.length q1], [.slice a2 x0.2.length q2], rfl, r1_12.rep1, r2_12.rep1⟩, ⟨_, rfl, rfl⟩⟩ (show RV (α := St) _ (.agg (List.flatMap Flat.enc at_.l).toArray) at_ from ⟨_, rfl, rfl⟩) Ep) ?_
      rintro _ w13 ⟨u13, rfl, r13, hx13⟩
      have hz := id r13; obtain ⟨_, rfl, rfl⟩ := hz
      refine vl rfl rfl xmv <| vl rfl rfl (xext rfl rfl) <| vl rfl rfl (xext rfl rfl) <| sal ti79 fun b9 w14 hx14 hg14 hb14 => sstf (u := p.1) rfl rfl ti79 rfl hb14 rfl fun w15 hc15 hb15 => ?_
      have k15 : Ext w12 w15 := (hx13.tr hx14).chg hc15 (Nat.le_trans hx13.size hg14)
      have hX15 : BelX W.heap.size bo bo w11 w15 := hX.ext k15 hs12
      have c1 := c1.ext k15
      have cs := cs.ext k15
      have cmb := cmb.ext k15
      have cml := cml.ext k15
      have c7 := c7.ext k15
      have k15' := k12.tr k15
      have hs15 : W.heap.size ≤ w15.heap.size := Nat.le_trans hs12 k15.size
      have hg9 : W.heap.size ≤ b9 := Nat.le_trans (Nat.le_trans hs12 hx13.size) hg14
      refine vl rfl rfl xas <| nl <| wp_seq <| wp_seq <| rg <| vl rfl rfl xmv <| vl rfl rfl (xnot rfl) <| nl <| cnd rfl (fun hp => ?_) (fun hp => ?_)
      · have hC := ifp hC hp
        exact wp_exit <| lf ⟨_, _, _, hC, hX15, k15', c1, cs, cmb, cml, c7, l0, l1, l4, l5, l6, l7, l46, l47⟩
      have hC := ifn hC hp
      have hz := bs hC; obtain ⟨_, Ekp, hC⟩ := hz
      refine wp_skip <| wp_seq <| ?_
      refine wpl [] (.pure false 0 (.pure true 1 (.pure true 2 (.pure false 3 (.pure false 4 (.pure false 5 (.pure true 6 (.pure true 7 (.pure true 8 (.eff 9 (.eff 10 (.pure true 11 .fin) .stop) .stop)))))))))) mixed (by kernel_rfl) (fun w16 hx16 => ?_)
      have d1 := c1.ext hx16
      have ds := cs.ext hx16
      have dmb := cmb.ext hx16
      have d9 := hb15.ext hx16
      refine pv rfl rfl rfl (fun _ hS => xld l1 ti72 ((Bx.cs (d1.ext (hS.resolve_left nofun))).at 0 rfl)) (.inr (Ext.refl _)) <| pv rfl rfl rfl (fun _ _ => xnil rfl) (.inl rfl) <| pv rfl rfl rfl (fun _ _ => xfa rfl fa105_1) (.inl rfl) <| pv rfl rfl rfl (fun _ hS => xld rfl ti103 ((Bx.cs (ds.ext (hS.resolve_left nofun))).at 2 rfl)) (.inr (Ext.refl _)) <| ?_
      refine pv rfl rfl rfl (fun _ hS => xlda rfl ti79 (Flat.len p.1) (Bx.cs (d9.ext (hS.resolve_left nofun)))) (.inr (Ext.refl _)) <| pv rfl rfl rfl (fun _ hS => xlkuo (k := p.1) (d := z111) Try.underlying103 kt79 (zero111 _) (dmb.ext (hS.resolve_left nofun)) (kok_spec Ekp) rfl rfl) (.inr (Ext.refl _)) <| ?_
      refine pv rfl rfl rfl (fun _ _ => xmv) (.inl rfl) <| pv rfl rfl rfl (fun _ _ => xext rfl rfl) (.inl rfl) <| pv rfl rfl rfl (fun _ _ => xext rfl rfl) (.inl rfl) <| ?_
      refine pe1 rfl <| sal ti111 fun b11 w17 hx17 hg17 hb17 => nl ⟨fun _ _ => hx17, ?_⟩
      refine pe1 rfl <| sstf (u := mget z111 by' p.1) rfl rfl ti111 rfl hb17 rfl fun w18 hc18 hb18 => nl ⟨fun _ _ => hx17.chg hc18 hg17, ?_⟩
      have k18 : Ext w15 w18 := hx16.tr (hx17.chg hc18 hg17)
      have hX18 : BelX W.heap.size bo bo w11 w18 := hX15.ext k18 hs15
      have c1 := c1.ext k18
      have cs := cs.ext k18
      have cmb := cmb.ext k18
      have cml := cml.ext k18
      have c7 := c7.ext k18
      have c9 := hb15.ext k18
      have k18' := k15'.tr k18
      have hs18 : W.heap.size ≤ w18.heap.size := Nat.le_trans hs15 k18.size
      refine pv rfl rfl rfl (fun _ _ => xas) (.inl rfl) <| wp_seq <| rg <| vl rfl rfl xmv <| vl rfl rfl (xnot rfl) <| nl <| cnd rfl (fun hm => ?_) (fun hm => ?_)
      rotate_left
      · have hC := ifn hC hm
        exact wp_skip <| lf ⟨_, _, _, hC, hX18, k18', c1, cs, cmb, cml, c7, l0, l1, l4, l5, l6, l7, l46, l47⟩
      have hC := ifp hC hm
      have hz := bs hC; obtain ⟨_, Eke, hC⟩ := hz
      refine wp_seq <| ?_
      refine wpl [8] (.pure false 0 (.pure true 1 (.pure true 2 (.pure false 3 (.pure false 4 (.pure true 5 (.pure false 6 (.pure true 7 (.eff 8 .fin .stop))))))))) mixed (by kernel_rfl) (fun w19 hx19 => ?_)
      have d1 := c1.ext hx19
      have ds := cs.ext hx19
      have dmb := cmb.ext hx19
      have dml := cml.ext hx19
      have d7 := c7.ext hx19
      have d9 := c9.ext hx19
      refine pv rfl rfl rfl (fun _ hS => xld l1 ti72 ((Bx.cs (d1.ext (hS.resolve_left nofun))).at 0 rfl)) (.inr (Ext.refl _)) <| pv rfl rfl rfl (fun _ _ => xnil rfl) (.inl rfl) <| pv rfl rfl rfl (fun _ _ => xfa rfl fa105_1) (.inl rfl) <| pv rfl rfl rfl (fun _ hS => xld rfl ti103 ((Bx.cs (ds.ext (hS.resolve_left nofun))).at 2 rfl)) (.inr (Ext.refl _)) <| ?_
      refine pv rfl rfl rfl (fun _ hS => xlda rfl ti79 (Flat.len p.1) (Bx.cs (d9.ext (hS.resolve_left nofun)))) (.inr (Ext.refl _)) <| pv rfl rfl rfl (fun _ _ => xmv) (.inl rfl) <| pv rfl rfl rfl (fun _ hS => xlda l7 ti79 (Flat.len at_) (Bx.cs (d7.ext (hS.resolve_left nofun)))) (.inr (Ext.refl _)) <| ?_
      refine pv rfl rfl rfl (fun _ _ => xbdv (r := Flat.enc ((i, at_) : Step)) ti111 sp111 (pc rfl (pc rfl pn)) ?_) (.inl rfl) <| ?_
      · exact fill111 i at_
      refine pe1 rfl <| smup (k := p.1) (v := ((i, at_) : Step)) rfl rfl rfl Try.underlying103 kt79 dmb (kok_spec Ekp) fun w20 hc20 hmb20 => nl ⟨fun h => (h (by decide)).elim, ?_⟩
      have k19 := k18'.tr hx19
      have hX20 : BelX W.heap.size bo bo w11 w20 := (hX18.ext hx19 hs18).chg hc20 hgbW
      have e1 := d1.chg hc20 (Ne.symm (dmb.not_cells d1))
      have es := ds.chg hc20 (Ne.symm (dmb.not_cells ds))
      have e7 := d7.chg hc20 (Ne.symm (dmb.not_cells d7))
      have e9 := d9.chg hc20 (Ne.symm (dmb.not_cells d9))
      have eml := dml.chg hc20 (Ne.symm hne)
      have k20 : Ext w0 w20 := k19.chg hc20 (by omega)
      refine wp_seq <| rg <| vl rfl rfl (xmva l4) <| vl rfl rfl (xmva l6) <| vl rfl rfl (xlda rfl ti79 (Flat.len p.1) (Bx.cs e9)) <| smup (k := en') (v := p.1) rfl rfl rfl Try.underlying112 kt3 eml (kok_spec Eke) fun w21 hc21 hml21 => nl <| ?_
      have f1 := e1.chg hc21 (Ne.symm (eml.not_cells e1))
      have fs := es.chg hc21 (Ne.symm (eml.not_cells es))
      have f7 := e7.chg hc21 (Ne.symm (eml.not_cells e7))
      have fmb := hmb20.chg hc21 hne
      refine rg <| vl rfl rfl (xmva l6) <| vl rfl rfl (xadd rfl rfl) <| vl rfl rfl xas <| nl <| ?_
      exact lf ⟨_, _, _, hC, hX20.chg hc21 hgl', k20.chg hc21 (by omega), f1, fs, fmb, hml21, f7, l0, l1, l4, l5, rfl, l7, l46, l47⟩
    · rintro L w' ⟨en2, by2, left2, hC, hX2, k2', d1, ds, dmb, dml, d7, l0, l1, l4, l5, l6, l7, l46, l47⟩
      refine rg <| vl rfl rfl (xadd l47 rfl) <| vl rfl rfl xmv <| nl <| ?_
      exact lq m'' (Nat.lt_succ_self _) ⟨_, _, _, _, hC, hX2, k2', d1, ds, dmb, dml, d7, l0, l1, l4, l5, l6, l7, l46, rfl⟩
  · rintro L w' ⟨l6, hj', k', hs', d1, ds, dmb, dml, l0, l1, l4, l5⟩
    refine rg <| vl rfl rfl (xmva l5) <| vl rfl rfl (xadd rfl rfl) <| vl rfl rfl xas <| nl <| ?_
    exact lq m' (Nat.lt_succ_self _) ⟨_, _, _, _, pre ++ [(at_, by_)], rr.1, by rw [Er, ← hbf], by rw [hus']; simp, by simpa using hj', k', hs', d1, ds, dmb, dml, l0, l1, l4, rfl, l6⟩
end Go.Proofs.Ytboefnpnoojfpaa
