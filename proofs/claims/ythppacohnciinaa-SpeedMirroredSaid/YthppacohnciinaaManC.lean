/-
  The iterator over a net's rules, and the step over them. Condition: the pure function computes something.
-/
import Derived.Test.YthppacohnciinaaWalkB
import Derived.Test.YthppacohnciinaaIter
import Derived.IntWalk
namespace Go.Proofs.Ythppacohnciinaa
open Go Go.Md Go.RowKit
attribute [local irreducible] Go.wpList Go.Code.wp Go.Calls Go.Md.Rnd Go.Md.Mt

abbrev TRule := Int × Int × Int
abbrev TSheet := Int × List TRule
abbrev TNet := TSheet × List TRule

theorem c81 {w0 : World} {a0 : Option Addr} : Calls Try.prog 81 [.pointer a0].toArray w0 (Ret fun v w' => ∃ bx, v = .func (.func 83) #[] #[.pointer (some ⟨bx, 0, none⟩)] ∧ Bx w' bx 79 [.pointer a0] ∧ w0.heap.size ≤ bx ∧ Ext w0 w') := by
  refine entr (n := 4) Try.func81 rfl rfl rfl <| wp_seq <| rg <| sbx rfl rfl fun b1 w1 hx1 hg1 hb1 => ?_
  refine vl rfl rfl xas <| nl <| wp_seq <| rg <| vl rfl rfl (xmf (l := []) (k := [.pointer (some ⟨b1, 0, none⟩)]) rfl rfl) <| vl rfl rfl xas <| nl <| wp_ret <| rt rfl (.tmp rfl rfl .nil) ⟨b1, rfl, hb1, hg1, hx1⟩

/-- The rules with their names. -/
def en {α : Type} (l : List α) : List (Int × α) := l.zipIdx.map fun p => ((p.2 : Int), p.1)
theorem en_get {α : Type} (l : List α) (k : Nat) : (en l)[k]? = l[k]?.map fun x => ((k : Int), x) := by
  simp [en, List.getElem?_map, List.getElem?_zipIdx, Option.map_map, Function.comp_def]
theorem en_len {α : Type} (l : List α) : (en l).length = l.length := by simp [en]

abbrev EnR (l : List TRule) := { p : Int × TRule // p ∈ en l }
def encR {l : List TRule} (p : EnR l) : Array Value := #[.int .i64 p.1.1, .agg (Flat.enc p.1.2).toArray]

set_option maxHeartbeats 2000000 in
theorem st83 {m : Nat} {w : World} {bx b0 N b c : Nat} {x0 : TNet} (hbx : Bx w bx 79 [.pointer (some ⟨b0, 0, none⟩)]) (h1 : bx < N) (h2 : bx ≠ b) (h3 : bx ≠ c)
    (hr : RVo (fun q => q < N ∧ q ≠ b ∧ q ≠ c) w (.pointer (some ⟨b0, 0, none⟩)) (⟨some x0⟩ : Ob TNet)) (hN : N ≤ w.heap.size) :
    SeqStopsK Fence.wide m Try.prog 83 #[.pointer (some ⟨bx, 0, none⟩)] (encR (l := x0.2)) (BelX N b c) (fun xs => xs.map (·.1) = en x0.2) (fun _ => True) x0.2.length w := by
  intro l J Jx W hW hJ hJx hY h0
  have kW : Ext w W := hW
  have hbW := hbx.ext kW
  have hrW := hr.ext kW
  refine (callsIn_wide.2 ?_ : CallsIn Fence.wide m Try.prog 83 ([.func (.yield l) #[] #[], .pointer (some ⟨bx, 0, none⟩)].toArray) W _)
  refine Calls.mono (R := Ret fun v W' => (∃ xs : List (EnR x0.2), xs.map (·.1) = en x0.2 ∧ J xs W') ∨ ∃ pre, Jx pre W') ?_ ?_
  rotate_left
  · rintro e W' ⟨v, rfl, h⟩
    refine ⟨⟨v, rfl⟩, ?_⟩
    rcases h with ⟨xs, h4, h5⟩ | ⟨pre, h5⟩
    · exact .inl ⟨xs, h4, h5⟩
    · exact .inr ⟨pre, trivial, h5⟩
  have hz := obGetO hrW rfl; obtain ⟨b0', ds, e, _, q0, hc0⟩ := hz
  cases e
  obtain ⟨_, _, rfl, ⟨_, _, rfl, rfl, ⟨a1, c1, rfl, p1, q3, e1⟩⟩, ⟨a2, c2, rfl, p2, q4, e2⟩⟩ := q0
  have hs4 : RVo (fun q => q < N ∧ q ≠ b ∧ q ≠ c) W (.slice a2 x0.2.length c2) x0.2 := RVo.sl.2 ⟨a2, c2, rfl, p2, q4, e2⟩
  refine entr (n := 21) Try.func83 rfl rfl rfl <| wp_seq <| rg <| vl rfl rfl (xld rfl ti79 ((Bx.cs hbW).at 0 rfl)) <| vl rfl rfl (xnil rfl) <| vl rfl rfl (xfa rfl fa91_1) <| vl rfl rfl (xld rfl ti22 (hc0.at 2 rfl)) <| vl rfl rfl (xlen rfl Try.underlying22) <| vl rfl rfl xmv <| nl <| ?_
  refine wp_block <| lp (I := fun m' L w1 => ∃ (k : Nat) (pre : List (EnR x0.2)), k + m' = x0.2.length ∧ L 10 = .int .i64 (k : Int) ∧ L 9 = .int .i64 (x0.2.length : Int) ∧ L 8 = .slice a2 x0.2.length c2 ∧ L 0 = .func (.yield l) #[] #[] ∧ pre.map (·.1) = (en x0.2).take k ∧ J pre w1 ∧ BelX N b c W w1) x0.2.length
    ⟨0, [], by simp, rfl, rfl, rfl, rfl, rfl, h0, BelX.refl⟩ ?_
  rintro m' L w1 ⟨k, pre, hk, l10, l9, l8, l0, hp, hj, hx⟩
  refine wp_seq <| rg <| vl rfl rfl (xlss l10 l9) <| nl <| wp_seq <| cnd rfl (fun hc => ?_) (fun hc => ?_)
  · have hc : (k : Int) < (x0.2.length : Int) := by simpa using hc
    have hkl : k < x0.2.length := by omega
    have hg : x0.2[k]? = some x0.2[k] := List.getElem?_eq_getElem hkl
    have hix : ix x0.2 (k : Int) = some x0.2[k] := by simp [ix, hg]
    have hpl : pre.length = k := by
      have := congrArg List.length hp
      simp only [List.length_map, List.length_take, en_len] at this
      omega
    let x : EnR x0.2 := ⟨((k : Int), x0.2[k]), by
      have : (en x0.2)[k]? = some ((k : Int), x0.2[k]) := by rw [en_get, hg]; rfl
      exact List.mem_of_getElem? this⟩
    have hz := (RVo.sl.1 (hs4.belx hx)); obtain ⟨a2', c2', e3, _, _, els⟩ := hz
    cases e3
    have hz := Els.ix els hix; obtain ⟨b5, off5, cs5, rfl, i1, i2, q5, hc5⟩ := hz
    obtain ⟨_, _, rfl, rfl, ⟨_, _, rfl, rfl, rfl⟩⟩ := q5
    refine wp_skip <| wp_seq <| wp_block <| wp_seq <| rg <| vl rfl rfl xmv <| vl rfl rfl (xixs l8 l10 Try.underlying22 ti56 i1 i2) <| vl rfl rfl (xlda rfl ti56 rfl hc5) <| sal ti56 fun b6 w2 hx2 hg2 hb2 => ?_
    refine vl rfl rfl (xasa l10) <| sst rfl rfl rfl ti56 hb2 rfl rfl (ble rfl) fun w3 hch3 hb3 => ?_
    have kx3 : Ext w1 w3 := hx2.chg hch3 hg2
    have hj3 : J pre w3 := hJ pre w1 w3 none hj (Ext.gr kx3) (fun r e => by cases e)
    have hNW : N ≤ W.heap.size := Nat.le_trans hN kW.size
    have hx3 := hx.ext kx3 (Nat.le_trans hNW hx.size)
    refine nl <| ?_
    have hz := hY pre x w3 hj3 (by omega); obtain ⟨fn, tmps, assign, body, hy, hR⟩ := hz
    refine wp_seq <| rgW (m := m) <| vlW rfl rfl nofun xmv <| vlW rfl rfl nofun xmv <| vlW rfl rfl nofun (xlda rfl ti56 rfl (Bx.cs hb3)) <| ylW rfl rfl nofun (xyl l0 (mc rfl <| mc rfl mn) hy) hR fun e w4 he => ?_
    rcases he with ⟨rfl, hj4, k4⟩ | ⟨rfl, hj4⟩
    · refine ⟨_, rfl, vlW rfl rfl nofun (xnot rfl) <| nlW <| cnd rfl (fun h => by cases h) (fun _ => ?_)⟩
      refine wp_skip <| rg <| vl rfl rfl (xadd l10 rfl) <| vl rfl rfl xmv <| nl <| ?_
      refine lq (m' - 1) (by omega) ⟨k + 1, pre ++ [x], by omega, ?_, l9, l8, l0, ?_, hj4, hx3.trans k4⟩
      · show Value.int .i64 (w64 ((k : Int) + 1)) = _
        have := q4
        have hmx : x0.2.length ≤ maxLen := by omega
        rw [w64, IntWalk.i64_in _ (by unfold maxLen at hmx; omega)]
        rfl
      · rw [List.map_append, hp, List.take_add_one]
        congr 1
        rw [en_get, hg]
        rfl
    · refine ⟨_, rfl, vlW rfl rfl nofun (xnot rfl) <| nlW <| cnd rfl (fun _ => ?_) (fun h => by cases h)⟩
      exact wp_ret <| rt rfl .nil (.inr ⟨_, hj4⟩)
  · have hc : ¬ (k : Int) < (x0.2.length : Int) := by simpa using hc
    refine wp_exit <| rtn rfl .nil (.inl ⟨pre, ?_, hj⟩)
    rw [hp, List.take_of_length_le (by rw [en_len]; omega)]

/-! ### The step -/
def tR (r : TRule) : Bool := decide (0 ≤ r.1) && decide (r.1 ≤ 20) && decide (0 ≤ r.2.1) && decide (r.2.1 ≤ 20)
/-- One rule, at speeds and the names by which they became so. -/
def stepB (s : Ar 21 Int × List (Int × Int)) (p : Int × TRule) : Ar 21 Int × List (Int × Int) :=
  let a := (ix s.1.l p.2.1).getD 0
  let b := (ix s.1.l p.2.2.1).getD 0
  if !decide (a = 1125899906842624) && !decide (b ≤ w64 (a + p.2.2.2)) then (aset s.1 p.2.2.1 (w64 (a + p.2.2.2)), mput s.2 p.2.2.1 p.1) else s
def speed_net_step (all : List TRule) (far : Ar 21 Int) (by_ : List (Int × Int)) : Option (Ar 21 Int × List (Int × Int) × Bool) :=
  if all.all tR then
    let s := (en all).foldl stepB (far, by_)
    some (s.1, s.2, !decide (s.1 = far))
  else none

theorem kt3 : KT Try.prog 3 Int := KT.int Try.underlying3
theorem ix_ar {X : Ar 21 Int} {i : Int} (h0 : 0 ≤ i) (h1 : i ≤ 20) : ix X.l i = some ((ix X.l i).getD 0) := by
  have : i.toNat < X.l.length := by rw [X.h]; omega
  unfold ix
  rw [if_pos h0, List.getElem?_eq_getElem this]
  rfl
theorem key_ok {i : Int} (h0 : 0 ≤ i) (h1 : i ≤ 20) : Key.ok i = true := by
  have : i = 0 ∨ i = 1 ∨ i = 2 ∨ i = 3 ∨ i = 4 ∨ i = 5 ∨ i = 6 ∨ i = 7 ∨ i = 8 ∨ i = 9 ∨ i = 10 ∨ i = 11 ∨ i = 12 ∨ i = 13 ∨ i = 14 ∨ i = 15 ∨ i = 16 ∨ i = 17 ∨ i = 18 ∨ i = 19 ∨ i = 20 := by omega
  rcases this with h | h | h | h | h | h | h | h | h | h | h | h | h | h | h | h | h | h | h | h | h <;> subst h <;> decide

set_option maxHeartbeats 4000000 in
theorem c74 {wb w0 : World} (hk : Ext wb w0) {b0 bf bm T : Nat} {x0 : TNet} {X : Ar 21 Int} {l : List (Int × Int)} (r0 : RV wb (.pointer (some ⟨b0, 0, none⟩)) (⟨some x0⟩ : Ob TNet))
    (hf : Bx w0 bf T (X.l.flatMap Flat.enc)) (hgf : wb.heap.size ≤ bf) (hm : Mp w0 bm l) (hgm : wb.heap.size ≤ bm) {r : Ar 21 Int × List (Int × Int) × Bool} (hF : speed_net_step x0.2 X l = some r) :
    Calls Try.prog 74 [.pointer (some ⟨b0, 0, none⟩), .pointer (some ⟨bf, 0, none⟩), .map (some bm)].toArray w0 (Ret fun v w' => v = .bool r.2.2 ∧ Bx w' bf T (r.1.l.flatMap Flat.enc) ∧ Mp w' bm r.2.1 ∧ BelX w0.heap.size bf bm w0 w') := by
  unfold speed_net_step at hF
  split at hF
  case isFalse => cases hF
  rename_i hall
  cases hF
  refine entrM (m := 5) (n := 55) Try.func74 rfl rfl rfl <| wp_seq <| rg <| sbx rfl rfl fun b4 w1 hx1 hg1 hb1 => ?_
  refine sbx rfl rfl fun b5 w2 hx2 hg2 hb2 => ?_
  have hb1' := hb1.ext hx2
  have k2 := hx1.tr hx2
  have hf2 := hf.ext k2
  have hm2 := hm.ext k2
  refine vl rfl rfl xas <| nl <| wp_seq <| rg <| vl rfl rfl (xld rfl ti108 ((Bx.cs hb1').at 0 rfl)) <| vl rfl rfl (xnil rfl) <| vl rfl rfl (xlda rfl ti83 (arlen X) (Bx.cs hf2)) <| sal ti83 fun b7 w3 hx3 hg3 hb3 => ?_
  refine sstw rfl rfl ti83 hb3 rfl (arlen X) (flat_one _) fun w4 hch4 hb4 => ?_
  have k4 : Ext w0 w4 := (k2.tr hx3).chg hch4 (Nat.le_trans k2.size hg3)
  have k24 : Ext w2 w4 := hx3.chg hch4 hg3
  refine nl <| wp_seq <| wp_seq <| rg <| vl rfl rfl xmv <| cl rfl rfl (xc cb81 (l := [.pointer (some ⟨b0, 0, none⟩)]) (mc rfl mn)) (c81 (a0 := some ⟨b0, 0, none⟩)) fun v w5 hv => ?_
  obtain ⟨bx, rfl, hbx, hgx, hx5⟩ := hv
  have k5 : Ext w0 w5 := k4.tr hx5
  have k25 : Ext w2 w5 := k24.tr hx5
  have hf5 := hf.ext k5
  have hm5 := hm.ext k5
  have hbf := hf.lt
  have hbm := hm.lt
  have hs0 := k5.size
  have hs4 := k4.size
  have hs1 := hx1.size
  have hs2 := k2.size
  have hb15 := (hb1.ext hx2).ext k25
  have hb25 := hb2.ext k25
  have hb45 := hb4.ext hx5
  have hl1 := hb15.lt
  have hl2 := hb25.lt
  have hl4 := hb45.lt
  have hlx := hbx.lt
  have hr5 : RVo (fun q => q < w5.heap.size ∧ q ≠ bf ∧ q ≠ bm) w5 (.pointer (some ⟨b0, 0, none⟩)) (⟨some x0⟩ : Ob TNet) := by
    have hwb := hk.size
    exact ((r0.old.ext (hk.tr k5)).mono fun q _ hq => ⟨by omega, by omega, by omega⟩)
  refine nl <| wp_block <| (wpIn_wide (n := 5)).1 <| wpIn_rangeFunc_ownH rfl (by decide) (gf := 83) (lb := #[.pointer (some ⟨bx, 0, none⟩)]) (by rw [ev_act]; rfl) trivial (fun args w => run_callFunc cb83)
    (st83 hbx hlx (by omega) (by omega) hr5 (Nat.le_refl _)) (fun h k => h.trans k) (fun W l o o' hl ho _ _ => BelX.refl.chg (chg_put ho) hl) (Below.refl _ _) (fun _ => rfl)
    (fun pre W => Bx W bf T (((pre.map (·.1)).foldl stepB (X, l)).1.l.flatMap Flat.enc) ∧ Mp W bm ((pre.map (·.1)).foldl stepB (X, l)).2 ∧ BelX w5.heap.size bf bm w5 W)
    (fun _ _ _ => False) (own_and own_bx (own_and (own_mp (by omega)) (own_belx (Nat.le_refl _) (Nat.le_refl _)))) (fun _ _ _ _ _ hs _ _ => hs) ⟨hf5, hm5, BelX.refl⟩
    (fun x a' W => ∃ L' b9, a' = act 55 L' [] ∧ L' 4 = .pointer (some ⟨b4, 0, none⟩) ∧ L' 5 = .pointer (some ⟨b5, 0, none⟩) ∧ L' 8 = .int .i64 x.1.1 ∧ L' 9 = .pointer (some ⟨b9, 0, none⟩) ∧ w5.heap.size ≤ b9 ∧ Bx W b9 56 (Flat.enc x.1.2))
    (fun x a' s W W' row hs hg hr => by
      obtain ⟨L', b9, h1, h2, h3, h4, h5, h6, h7⟩ := hs
      exact ⟨L', b9, h1, h2, h3, h4, h5, h6, own_bx (f := fun _ => Flat.enc x.1.2) () W W' row h7 hg hr⟩) ?assign ?body ?done ?stop
  case assign =>
    rintro l1 pre x W K ⟨i1, i2, i3⟩ hK
    have hsW := i3.size
    refine (congrArg (fun a => Code.wpIn (RF l1) 3 Try.prog _ _ a W) round2).mpr ?_
    refine wpIn_seq <| rgR rfl <| vl rfl rfl xas <| nl <| rgR rfl <| sal ti56 fun b9 w6 hx6 hg6 hb6 => ?_
    refine sst rfl rfl rfl ti56 hb6 rfl rfl (ble rfl) fun w7 hch7 hb7 => ?_
    have kx7 : Ext W w7 := hx6.chg hch7 hg6
    refine nl <| hK _ _ kx7.kf (BelX.of kx7 hsW) ⟨i1.ext kx7, i2.ext kx7, i3.ext kx7 hsW⟩ ⟨_, b9, rfl, rfl, rfl, rfl, rfl, by omega, hb7⟩
  case body =>
    rintro l1 pre x a' W hl ⟨rr, hlr⟩ ⟨i1, i2, i3⟩ ⟨L, b9, rfl, l4, l5, l8, l9, hg9, hb9⟩ hlen
    have hsW := i3.size
    obtain ⟨⟨i, rl⟩, hmem⟩ := x
    have hrl : tR rl = true := by
      obtain ⟨p, hp, e⟩ := List.mem_map.1 hmem
      cases e
      obtain ⟨q1, q2⟩ := p
      have hq := (List.mem_zipIdx hp).2.2
      exact List.all_eq_true.1 hall _ (by rw [hq]; exact List.getElem_mem _)
    simp only [tR, Bool.and_eq_true, decide_eq_true_eq] at hrl
    obtain ⟨⟨⟨f0, f1⟩, t0⟩, t1⟩ := hrl
    generalize hS : (pre.map (·.1)).foldl stepB (X, l) = S at i1 i2
    have hS' : ((pre ++ [(⟨(i, rl), hmem⟩ : EnR x0.2)]).map (·.1)).foldl stepB (X, l) = stepB S (i, rl) := by rw [List.map_append, List.foldl_append, hS]; rfl
    have exa := ix_ar (X := S.1) f0 f1
    have exb := ix_ar (X := S.1) t0 t1
    generalize ha : (ix S.1.l rl.1).getD 0 = a at exa
    generalize hb : (ix S.1.l rl.2.1).getD 0 = b at exb
    have hst : stepB S (i, rl) = if !decide (a = 1125899906842624) && !decide (b ≤ w64 (a + rl.2.2)) then (aset S.1 rl.2.1 (w64 (a + rl.2.2)), mput S.2 rl.2.1 i) else S := by
      simp only [stepB, ha, hb]
    have h4W := hb15.belx i3 hl1 (by omega) (by omega)
    have h5W := hb25.belx i3 hl2 (by omega) (by omega)
    have hkp : speed_list_keeps S.1 rl = some (decide (b ≤ w64 (a + rl.2.2))) := by
      unfold speed_list_keeps
      rw [exb, exa]
      rfl
    refine wpIn_block <| wpIn_seq <| wplR [] (.pure false 0 (.pure true 1 (.pure false 2 (.pure true 3 (.pure true 4 (.pure false 5 (.pure true 6 (.pure true 7 (.pure false 8 (.pure true 9 (.pure false 10 (.pure false 11 (.eff 12 (.pure true 13 (.pure true 14 .fin)) .stop))))))))))))) mixed (by kernel_rfl) (fun wd hxd => ?_)
    have d4 := h4W.ext hxd
    have df := i1.ext hxd
    have d9 := hb9.ext hxd
    have hz := ixar (Bx.cs df) exa; obtain ⟨j1, j2, hca⟩ := hz
    refine pv rfl rfl rfl (fun _ hS => xld l4 ti108 ((Bx.cs (d4.ext (hS.resolve_left nofun))).at 0 rfl)) (.inr (Ext.refl _)) <| pv rfl rfl rfl (fun _ _ => xfa l9 fa56_0) (.inl rfl) <| pv rfl rfl rfl (fun _ hS => xld rfl ti3 ((Bx.cs (d9.ext (hS.resolve_left nofun))).at 0 rfl)) (.inr (Ext.refl _)) <| pv rfl rfl rfl (fun _ _ => xnil rfl) (.inl rfl) <| ?_
    refine pv rfl rfl rfl (fun _ _ => xixa rfl rfl Try.underlying83 ti2 j1 j2) (.inl rfl) <| pv rfl rfl rfl (fun _ hS => xld rfl ti2 ((hca.ext (hS.resolve_left nofun)).at 0 rfl)) (.inr (Ext.refl _)) <| pv rfl rfl rfl (fun _ _ => xneq rfl rfl) (.inl rfl) <| pv rfl rfl rfl (fun _ _ => xmv) (.inl rfl) <| ?_
    rcases Bool.eq_false_or_eq_true (!decide (a = 1125899906842624)) with hg | hg
    rotate_left
    · skip
      refine pvf rfl rfl rfl rfl rfl rfl (bft hg) rfl (.inr (Ext.refl _)) <| pvf rfl rfl rfl rfl rfl rfl (bft hg) rfl (.inl rfl) <| pvf rfl rfl rfl rfl rfl rfl (bft hg) rfl (.inr (Ext.refl _)) <| pvf rfl rfl rfl rfl rfl rfl (bft hg) rfl (.inr (Ext.refl _)) <| ?_
      refine pe1 rfl <| gfk rfl rfl rfl rfl rfl (bft hg) rfl <| nl ⟨fun _ h => h, ?_⟩
      refine pvf rfl rfl rfl rfl rfl rfl (bft hg) rfl (.inl rfl) <| pv rfl rfl rfl (fun _ _ => xpf rfl hg rfl) (.inl rfl) <| ?_
      refine cndR rfl (fun h => by cases h) (fun _ => wpIn_skip ?_)
      refine ⟨hxd.kf, BelX.of hxd hsW, ?_⟩
      dsimp only
      rw [hS', hst, hg]
      exact ⟨df, i2.ext hxd, i3.ext hxd hsW⟩
    · refine pvt rfl rfl rfl rfl rfl rfl (bt hg) rfl (fun _ hS => xld l4 ti108 ((Bx.cs (d4.ext (hS.resolve_left nofun))).at 0 rfl)) (.inr (Ext.refl _)) <| pvt rfl rfl rfl rfl rfl rfl (bt hg) rfl (fun _ _ => xnil rfl) (.inl rfl) <| pvt rfl rfl rfl rfl rfl rfl (bt hg) rfl (fun _ hS => xlda rfl ti83 (arlen S.1) (Bx.cs (df.ext (hS.resolve_left nofun)))) (.inr (Ext.refl _)) <| pvt rfl rfl rfl rfl rfl rfl (bt hg) rfl (fun _ hS => xlda l9 ti56 rfl (Bx.cs (d9.ext (hS.resolve_left nofun)))) (.inr (Ext.refl _)) <| ?_
      refine pe1 rfl <| gtk rfl rfl rfl rfl rfl (bt hg) <| cl rfl rfl (xc cb65 (mc rfl <| mc rfl mn)) (c65 (x0 := S.1) (x1 := rl) ⟨_, rfl, rfl⟩ ⟨_, rfl, Flat.iff.2 rfl⟩ hkp) fun v w6 hv => ?_
      obtain ⟨rfl, hx6⟩ := hv
      have kx6 : Ext W w6 := hxd.tr hx6
      have d46 := d4.ext hx6
      have df6 := df.ext hx6
      have d96 := d9.ext hx6
      have d56 := h5W.ext kx6
      have dm6 := i2.ext kx6
      refine nl ⟨fun _ h => h.tr hx6, ?_⟩
      refine pvt rfl rfl rfl rfl rfl rfl (bt hg) rfl (fun _ _ => xnot rfl) (.inl rfl) <| pv rfl rfl rfl (fun _ _ => xpt rfl hg rfl) (.inl rfl) <| ?_
      refine cndR rfl (fun h => ?_) (fun h => wpIn_skip ?_)
      · refine wpIn_seq <| wplR [14] (.pure false 0 (.pure true 1 (.pure false 2 (.pure false 3 (.pure true 4 (.pure false 5 (.pure true 6 (.pure true 7 (.pure false 8 (.pure true 9 (.pure false 10 (.pure true 11 (.pure true 12 (.pure true 13 (.eff 14 .fin .stop))))))))))))))) mixed (by kernel_rfl) (fun we hxe => ?_)
        have e4 := d46.ext hxe
        have ef := df6.ext hxe
        have e9 := d96.ext hxe
        have kxe := kx6.tr hxe
        have hz := ixar (Bx.cs ef) exa; obtain ⟨j3, j4, hca2⟩ := hz
        have hz := ixar (Bx.cs ef) exb; obtain ⟨j5, j6, hcb2⟩ := hz
        refine pv rfl rfl rfl (fun _ hS => xld l4 ti108 ((Bx.cs (e4.ext (hS.resolve_left nofun))).at 0 rfl)) (.inr (Ext.refl _)) <| pv rfl rfl rfl (fun _ _ => xfa l9 fa56_1) (.inl rfl) <| pv rfl rfl rfl (fun _ hS => xld rfl ti3 ((Bx.cs (e9.ext (hS.resolve_left nofun))).at 1 rfl)) (.inr (Ext.refl _)) <| ?_
        refine pv rfl rfl rfl (fun _ hS => xld l4 ti108 ((Bx.cs (e4.ext (hS.resolve_left nofun))).at 0 rfl)) (.inr (Ext.refl _)) <| pv rfl rfl rfl (fun _ _ => xfa l9 fa56_0) (.inl rfl) <| pv rfl rfl rfl (fun _ hS => xld rfl ti3 ((Bx.cs (e9.ext (hS.resolve_left nofun))).at 0 rfl)) (.inr (Ext.refl _)) <| pv rfl rfl rfl (fun _ _ => xnil rfl) (.inl rfl) <| ?_
        refine pv rfl rfl rfl (fun _ _ => xixa rfl rfl Try.underlying83 ti2 j3 j4) (.inl rfl) <| pv rfl rfl rfl (fun _ hS => xld rfl ti2 ((hca2.ext (hS.resolve_left nofun)).at 0 rfl)) (.inr (Ext.refl _)) <| ?_
        refine pv rfl rfl rfl (fun _ _ => xfa l9 fa56_2) (.inl rfl) <| pv rfl rfl rfl (fun _ hS => xld rfl ti2 ((Bx.cs (e9.ext (hS.resolve_left nofun))).at 2 rfl)) (.inr (Ext.refl _)) <| pv rfl rfl rfl (fun _ _ => xadd rfl rfl) (.inl rfl) <| pv rfl rfl rfl (fun _ _ => xnil rfl) (.inl rfl) <| ?_
        refine pv rfl rfl rfl (fun _ _ => xixa rfl rfl Try.underlying83 ti2 j5 j6) (.inl rfl) <| ?_
        refine pe1 rfl <| ssta (X := S.1) (i := rl.2.1) (v := w64 (a + rl.2.2)) rfl rfl rfl ti2 ef exb fun w7 hch7 hf7 => ?_
        refine nl ⟨fun h => (h (by decide)).elim, ?_⟩
        have hx7 : BelX w5.heap.size bf bm W w7 := (BelX.of kxe hsW).chgb hch7
        have e57 := (d56.ext hxe).chg hch7 (by omega)
        have e97 := e9.chg hch7 (by omega)
        have em7 := (dm6.ext hxe).chg hch7 (Mp.not_cells (dm6.ext hxe) ef)
        refine rgR rfl <| vl rfl rfl (xld l5 ti84 ((Bx.cs e57).at 0 rfl)) <| vl rfl rfl (xfa l9 fa56_1) <| vl rfl rfl (xld rfl ti3 ((Bx.cs e97).at 1 rfl)) <| vl rfl rfl (xmva l8) <| smup (k := rl.2.1) (v := i) rfl rfl rfl Try.underlying84 kt3 em7 (key_ok t0 t1) fun w8 hch8 hm8 => ?_
        have hf8 : Bx w8 bf T _ := hf7.chg hch8 (Ne.symm (Mp.not_cells em7 hf7))
        have hx8 := hx7.chgc hch8
        refine nl ⟨(kxe.kf.trans (hch7.kf ef)).trans (hch8.kfm (by omega)), hx8, ?_⟩
        dsimp only
        rw [hS', hst, hg, h]
        exact ⟨hf8, hm8, i3.trans hx8⟩
      · refine ⟨kx6.kf, BelX.of kx6 hsW, ?_⟩
        dsimp only
        rw [hS', hst, hg, h]
        exact ⟨df6, dm6, i3.ext kx6 hsW⟩
  case done =>
    rintro d xs W hD hxs ⟨i1, i2, i3⟩ hK
    rw [hxs] at i1 i2
    generalize hS : (en x0.2).foldl stepB (X, l) = S at i1 i2
    have hsW := i3.size
    have h4W := hb15.belx i3 hl1 (by omega) (by omega)
    have h7W := hb45.belx i3 hl4 (by omega) (by omega)
    refine wp_seq <| wpl (D := [{ target := .collected d, args := #[] }]) [] (.pure false 0 (.pure true 1 (.pure false 2 (.pure false 3 (.pure true 4 (.pure true 5 .fin)))))) mixed (by kernel_rfl) (fun wd hxd => ?_)
    have d4 := h4W.ext hxd
    have df := i1.ext hxd
    have d7 := h7W.ext hxd
    refine pv rfl rfl rfl (fun _ hS => xld rfl ti108 ((Bx.cs (d4.ext (hS.resolve_left nofun))).at 0 rfl)) (.inr (Ext.refl _)) <| pv rfl rfl rfl (fun _ _ => xnil rfl) (.inl rfl) <| pv rfl rfl rfl (fun _ hS => xlda rfl ti83 (arlen S.1) (Bx.cs (df.ext (hS.resolve_left nofun)))) (.inr (Ext.refl _)) <| pv rfl rfl rfl (fun _ hS => xlda rfl ti83 (arlen X) (Bx.cs (d7.ext (hS.resolve_left nofun)))) (.inr (Ext.refl _)) <| ?_
    refine pv rfl rfl rfl (fun _ _ => xagn rfl eg83 eq83 rfl rfl rfl rfl rfl) (.inl rfl) <| pv rfl rfl rfl (fun _ _ => xas) (.inl rfl) <| ?_
    have hKd := (hxd.block d (Array.getElem?_eq_some_iff.1 hK).1).trans hK
    have hput := chg_put (o' := .deferred none) hKd
    refine wp_ret <| rtM rfl hKd (.tmp rfl rfl .nil) ?_
    have hmd := i2.ext hxd
    have hml := hmd.lt
    refine ⟨rfl, ?_, ?_, ?_⟩
    · exact df.chg hput (by omega)
    · exact hmd.chg hput (by omega)
    · exact ((((BelX.of k5 (Nat.le_refl _)).trans (i3.mono hs0)).ext hxd (by omega))).chg hput (by omega)
  case stop =>
    rintro D c pre W _ _ h _
    exact h.elim
end Go.Proofs.Ythppacohnciinaa
