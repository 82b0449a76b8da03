/-
  The iterators of the layer: the ways that can be used, and all lists of so many numbers. Condition: the pure function computes something.
-/
import Derived.Test.YtdimoehnkagghaaWalkA
import Derived.Test.YtdimoehnkagghaaMark
namespace Go.Proofs.Ytdimoehnkagghaa
open Go Go.Md Go.RowKit
attribute [local irreducible] Go.wpList Go.Code.wp Go.Calls Go.Md.Rnd Go.Md.Mt Go.wpListIn Go.Code.wpIn

abbrev TWay := (Bool × Int) × Int × Int
abbrev TRule := List Int × Int
abbrev TBook := Int × List Int × List TRule × List TRule × List (List Int)
abbrev TTreaty := TBook × Int × List TWay × List Int

def usableL (g h : Int) : List TWay → Option (List TWay)
  | [] => some []
  | w :: ws => (right_way_may w g h) >>= fun b => (usableL g h ws) >>= fun r => some (if (b && !decide (bandn .i64 w.2.2 h = 0)) = true then w :: r else r)
def right_treaty_usable (x0 : TTreaty) (x1 x2 : Int) : Option (List TWay) := usableL x1 x2 x0.2.2.1

set_option maxHeartbeats 2000000 in
theorem seq78 {m : Nat} {w : World} {c3 c4 c5 b0 a t : Nat} {x0 : TTreaty} {x1 x2 : Int} {r : List TWay} (h3 : Bx w c3 67 [.pointer (some ⟨b0, 0, none⟩)]) (h4 : Bx w c4 3 [.int .i64 x1]) (h5 : Bx w c5 3 [.int .i64 x2])
    (hc3 : t ≤ c3) (hc4 : t ≤ c4) (hc5 : t ≤ c5) (hr : RVo (· < a) w (.pointer (some ⟨b0, 0, none⟩)) (⟨some x0⟩ : Ob TTreaty)) (ha : a ≤ w.heap.size) (hF : right_treaty_usable x0 x1 x2 = some r) :
    SeqP Try.prog (BelI a t w.heap.size) m 78 #[.pointer (some ⟨c3, 0, none⟩), .pointer (some ⟨c4, 0, none⟩), .pointer (some ⟨c5, 0, none⟩)] (r.map fun x => #[fv x]) w := by
  intro l J Jx W kW hJ hJx hY h0
  have d3 := h3.ext kW
  have d4 := h4.ext kW
  have d5 := h5.ext kW
  have e3 := h3.lt
  have e4 := h4.lt
  have e5 := h5.lt
  have hrW := hr.ext kW
  refine (callsIn_wide.2 ?_ : CallsIn Fence.wide m Try.prog 78 ([.func (.yield l) #[] #[], .pointer (some ⟨c3, 0, none⟩), .pointer (some ⟨c4, 0, none⟩), .pointer (some ⟨c5, 0, none⟩)].toArray) W _)
  refine Calls.mono (R := Ret fun v W' => J (r.map fun x => #[fv x]).length W' ∨ Jx W') ?_ ?_
  rotate_left
  · rintro e W' ⟨v, rfl, h⟩
    exact ⟨⟨v, rfl⟩, h⟩
  have hz := obGetO hrW rfl; obtain ⟨b0', ds, e, _, q0, hc0⟩ := hz
  cases e
  have hz := q0; obtain ⟨_, _, rfl, hbk, ⟨_, _, rfl, hst, ⟨_, _, rfl, ⟨a1, c1, rfl, p1, q1, e1⟩, _⟩⟩⟩ := hz
  have hlb := Enc.len hbk
  have hls := Enc.len hst
  have hs4 : RVo (· < a) W (.slice a1 x0.2.2.1.length c1) x0.2.2.1 := RVo.sl.2 ⟨a1, c1, rfl, p1, q1, e1⟩
  refine entr (n := 34) Try.func78 rfl rfl rfl <| wp_seq <| rg <| vl rfl rfl (xld rfl ti67 ((Bx.cs d3).at 0 rfl)) <| vl rfl rfl (xnil rfl) <| vl rfl rfl (xfa rfl fa74_2) <| vl rfl rfl (xld rfl ti72 (hc0.at 6 (by
    rw [List.getElem?_append_right (by rw [hlb]; decide), hlb]
    show _ = _
    rw [List.getElem?_append_right (by rw [hls]; decide), hls]
    rfl))) <| vl rfl rfl (xlen rfl Try.underlying72) <| vl rfl rfl xmv <| nl <| ?_
  refine wp_block <| lp (I := fun m' L w1 => ∃ (k j : Nat), k + m' = x0.2.2.1.length ∧ L 12 = .int .i64 (k : Int) ∧ L 11 = .int .i64 (x0.2.2.1.length : Int) ∧ L 10 = .slice a1 x0.2.2.1.length c1 ∧ L 0 = .func (.yield l) #[] #[] ∧
      L 2 = .pointer (some ⟨c4, 0, none⟩) ∧ L 3 = .pointer (some ⟨c5, 0, none⟩) ∧ usableL x1 x2 (x0.2.2.1.drop k) = some (r.drop j) ∧ j ≤ r.length ∧ J j w1 ∧ BelI a t w.heap.size W w1) x0.2.2.1.length
    ⟨0, 0, by simp, rfl, rfl, rfl, rfl, rfl, rfl, hF, Nat.zero_le _, h0, BelI.refl⟩ ?_
  rintro m' L w1 ⟨k, j, hk, l12, l11, l10, l0, l2, l3, hu, hjr, hj, hx⟩
  refine wp_seq <| rg <| vl rfl rfl (xlss l12 l11) <| nl <| wp_seq <| cnd rfl (fun hc => ?_) (fun hc => ?_)
  · have hc : (k : Int) < (x0.2.2.1.length : Int) := by simpa using hc
    have hkl : k < x0.2.2.1.length := by omega
    have hg : x0.2.2.1[k]? = some x0.2.2.1[k] := List.getElem?_eq_getElem hkl
    have hix : ix x0.2.2.1 (k : Int) = some x0.2.2.1[k] := by simp [ix, hg]
    rw [drop_at hg] at hu
    generalize x0.2.2.1[k] = wy at *
    unfold usableL at hu
    have hz := bs hu; obtain ⟨bm, hmay, hu⟩ := hz
    have hz := bs hu; obtain ⟨r', hr', hu⟩ := hz
    have hs1 := hs4.beli hx ha
    have hz := (RVo.sl.1 hs1); obtain ⟨a2', c2', e3, _, _, els⟩ := hz
    cases e3
    have hz := Els.ix els hix; obtain ⟨b5, off5, cs5, rfl, i1, i2, q5, hcE⟩ := hz
    obtain rfl := Flat.iff.1 q5
    refine wp_skip <| wp_seq <| wp_block <| wp_seq <| rg <| vl rfl rfl (xixs l10 l12 Try.underlying72 ti77 i1 i2) <| vl rfl rfl (xlda rfl ti77 rfl hcE) <| sal ti77 fun b6 w2 hx2 hg2 hb2 => ?_
    refine sst rfl rfl rfl ti77 hb2 rfl rfl (ble rfl) fun w3 hch3 hb3 => ?_
    have kx3 : Ext w1 w3 := hx2.chg hch3 hg2
    have hj3 : J j w3 := hJ j _ _ hj kx3
    have hNW : w.heap.size ≤ W.heap.size := kW.size
    have hx3 := hx.ext kx3 hNW
    have f4 := d4.beli hx3 hc4 e4
    have f5 := d5.beli hx3 hc5 e5
    refine nl <| wp_seq <| rgW (m := m) <| vlW rfl rfl nofun (xlda rfl ti77 rfl (Bx.cs hb3)) <| vlW rfl rfl nofun (xld l2 ti3 ((Bx.cs f4).at 0 rfl)) <| vlW rfl rfl nofun (xld l3 ti3 ((Bx.cs f5).at 0 rfl)) <|
      clW rfl rfl nofun (xc cb48 (mc rfl <| mc rfl <| mc rfl mn)) (c48 (x0 := wy) ⟨_, rfl, Flat.iff.2 rfl⟩ hmay) fun v w4 hv => ?_
    obtain ⟨rfl, hx4⟩ := hv
    have g3 := hb3.ext hx4
    have g5 := f5.ext hx4
    have hj4 : J j w4 := hJ j _ _ hj3 hx4
    have hx4' := hx3.ext hx4 hNW
    refine vlW rfl rfl nofun xmv ?_
    have nxt : ∀ (w5 : World) (j5 : Nat), usableL x1 x2 (x0.2.2.1.drop (k + 1)) = some (r.drop j5) → j5 ≤ r.length → J j5 w5 → BelI a t w.heap.size W w5 → ∀ L' : Fr, L' 12 = .int .i64 (k : Int) → L' 11 = .int .i64 (x0.2.2.1.length : Int) → L' 10 = .slice (some ⟨b5, off5, none⟩) x0.2.2.1.length c1 → L' 0 = .func (.yield l) #[] #[] →
        L' 2 = .pointer (some ⟨c4, 0, none⟩) → L' 3 = .pointer (some ⟨c5, 0, none⟩) → Rnd (fun m' L w1 => ∃ (k j : Nat), k + m' = x0.2.2.1.length ∧ L 12 = .int .i64 (k : Int) ∧ L 11 = .int .i64 (x0.2.2.1.length : Int) ∧ L 10 = .slice (some ⟨b5, off5, none⟩) x0.2.2.1.length c1 ∧ L 0 = .func (.yield l) #[] #[] ∧
      L 2 = .pointer (some ⟨c4, 0, none⟩) ∧ L 3 = .pointer (some ⟨c5, 0, none⟩) ∧ usableL x1 x2 (x0.2.2.1.drop k) = some (r.drop j) ∧ j ≤ r.length ∧ J j w1 ∧ BelI a t w.heap.size W w1) m' 34 [] (act 34 (upd L' 12 (.int .i64 ((k + 1 : Nat) : Int))) []) w5 := fun w5 j5 h1 h2 h3 h4 L' h5 h6 h7 h8 h9 h10 =>
      lq (m' - 1) (by omega) ⟨k + 1, j5, by omega, rfl, h6, h7, h8, h9, h10, h1, h2, h3, h4⟩
    have hadd : ((k + 1 : Nat) : Int) = w64 ((k : Int) + 1) := by
      have hmx : x0.2.2.1.length ≤ maxLen := by omega
      rw [w64, IntWalk.i64_in _ (by unfold maxLen at hmx; omega)]
      rfl
    cases hbm : bm with
    | false =>
      subst hbm
      simp only [Bool.false_and, Bool.false_eq_true, if_false, Option.some.injEq] at hu
      subst hu
      refine gfW rfl rfl rfl rfl rfl (bft rfl) rfl <| gfW rfl rfl rfl rfl rfl (bft rfl) rfl <| gfW rfl rfl rfl rfl rfl (bft rfl) rfl <| gfW rfl rfl rfl rfl rfl (bft rfl) rfl <| gfW rfl rfl rfl rfl rfl (bft rfl) rfl <| vlW rfl rfl nofun (xpf rfl rfl rfl) <| vlW rfl rfl nofun xmv <| ?_
      refine gfW rfl rfl rfl rfl rfl (bft rfl) rfl <| gfW rfl rfl rfl rfl rfl (bft rfl) rfl <| gfW rfl rfl rfl rfl rfl (bft rfl) rfl <| gfW rfl rfl rfl rfl rfl (bft rfl) rfl <| vlW rfl rfl nofun (xpf rfl rfl rfl) <| nlW <| cnd rfl (fun h => by cases h) (fun _ => wp_skip <| rg <| vl rfl rfl (xadd l12 rfl) <| vl rfl rfl xmv <| nl ?_)
      show Rnd _ _ _ _ (act 34 (upd _ 12 (.int .i64 (w64 ((k : Int) + 1)))) []) _
      rw [← hadd]
      exact nxt _ j hr' hjr hj4 hx4' _ l12 l11 l10 l0 l2 l3
    | true =>
      subst hbm
      refine gtW rfl rfl rfl rfl rfl (bt rfl) <| vlW rfl rfl nofun (xfa rfl fa77_2) <| gtW rfl rfl rfl rfl rfl (bt rfl) <| vlW rfl rfl nofun (xld rfl ti3 ((Bx.cs g3).at 3 rfl)) <| gtW rfl rfl rfl rfl rfl (bt rfl) <| vlW rfl rfl nofun (xld l3 ti3 ((Bx.cs g5).at 0 rfl)) <| gtW rfl rfl rfl rfl rfl (bt rfl) <| vlW rfl rfl nofun (xandn rfl rfl) <| gtW rfl rfl rfl rfl rfl (bt rfl) <| vlW rfl rfl nofun (xneq rfl rfl) <| ?_
      refine vlW rfl rfl nofun (xpt rfl rfl rfl) <| vlW rfl rfl nofun xmv <| ?_
      rcases Bool.eq_false_or_eq_true (!decide (bandn .i64 wy.2.2 x2 = 0)) with hq | hq
      · rw [hq] at hu
        simp only [Bool.and_self, if_true, Option.some.injEq] at hu
        have hjl : j < r.length := by
          have := congrArg List.length hu
          simp only [List.length_cons, List.length_drop] at this
          omega
        have hrj : r[j]? = some wy := by
          have := congrArg (fun q => q[0]?) hu
          simp only [List.getElem?_cons_zero, List.getElem?_drop, Nat.add_zero] at this
          exact this.symm
        have hdr : r' = r.drop (j + 1) := by
          have := congrArg List.tail hu
          simpa using this
        rw [hdr] at hr'
        have hz := hY j #[fv wy] w4 (by rw [List.getElem?_map, hrj]; rfl) hj4; obtain ⟨fn, tmps, assign, body, hy, hR⟩ := hz
        refine gtW rfl rfl rfl rfl rfl (bt hq) <| vlW rfl rfl nofun (xmva l0) <| gtW rfl rfl rfl rfl rfl (bt hq) <| vlW rfl rfl nofun (xlda rfl ti77 rfl (Bx.cs g3)) <| gtW rfl rfl rfl rfl rfl (bt hq) <| ylW rfl rfl nofun (xyl rfl (mc rfl mn) hy) hR fun e w5 he => ?_
        rcases he with ⟨rfl, hj5, k5⟩ | ⟨rfl, hj5⟩
        · refine ⟨_, rfl, gtW rfl rfl rfl rfl rfl (bt hq) <| vlW rfl rfl nofun (xnot rfl) <| vlW rfl rfl nofun (xpt rfl hq rfl) <| nlW <| cnd rfl (fun h => by cases h) (fun _ => wp_skip <| rg <| vl rfl rfl (xadd l12 rfl) <| vl rfl rfl xmv <| nl ?_)⟩
          show Rnd _ _ _ _ (act 34 (upd _ 12 (.int .i64 (w64 ((k : Int) + 1)))) []) _
          rw [← hadd]
          exact nxt _ (j + 1) hr' hjl hj5 (hx4'.trans k5) _ l12 l11 l10 l0 l2 l3
        · refine ⟨_, rfl, gtW rfl rfl rfl rfl rfl (bt hq) <| vlW rfl rfl nofun (xnot rfl) <| vlW rfl rfl nofun (xpt rfl hq rfl) <| nlW <| cnd rfl (fun _ => ?_) (fun h => by cases h)⟩
          exact wp_ret <| rt rfl .nil (.inr hj5)
      · rw [hq] at hu
        simp only [Bool.and_false, Bool.false_eq_true, if_false, Option.some.injEq] at hu
        subst hu
        refine gfW rfl rfl rfl rfl rfl (bft hq) rfl <| gfW rfl rfl rfl rfl rfl (bft hq) rfl <| gfW rfl rfl rfl rfl rfl (bft hq) rfl <| gfW rfl rfl rfl rfl rfl (bft hq) rfl <| vlW rfl rfl nofun (xpf rfl hq rfl) <| nlW <| cnd rfl (fun h => by cases h) (fun _ => wp_skip <| rg <| vl rfl rfl (xadd l12 rfl) <| vl rfl rfl xmv <| nl ?_)
        show Rnd _ _ _ _ (act 34 (upd _ 12 (.int .i64 (w64 ((k : Int) + 1)))) []) _
        rw [← hadd]
        exact nxt _ j hr' hjr hj4 hx4' _ l12 l11 l10 l0 l2 l3
  · have hc : ¬ (k : Int) < (x0.2.2.1.length : Int) := by simpa using hc
    refine wp_exit <| rtn rfl .nil (.inl ?_)
    rw [List.drop_of_length_le (by omega)] at hu
    simp only [usableL, Option.some.injEq] at hu
    have := congrArg List.length hu
    simp only [List.length_nil, List.length_drop] at this
    rw [List.length_map, show r.length = j by omega]
    exact hj

theorem c71 {w0 : World} {a : Nat} {a0 : Option Addr} {x0 : TTreaty} (h0 : RVo (· < a) w0 (.pointer a0) (⟨some x0⟩ : Ob TTreaty)) (ha : a ≤ w0.heap.size) {x1 x2 : Int} {r : List TWay} (hF : right_treaty_usable x0 x1 x2 = some r) :
    Calls Try.prog 71 [.pointer a0, .int .i64 x1, .int .i64 x2].toArray w0 (Ret fun v w' => SeqV Try.prog a w0.heap.size w' v (r.map fun x => #[fv x]) ∧ Ext w0 w') := by
  have hz := obGetO h0 rfl; obtain ⟨b0, _, rfl, _, _, _⟩ := hz
  refine entr (n := 8) Try.func71 rfl rfl rfl <| wp_seq <| rg <| sbx rfl rfl fun b3 w1 hx1 hg1 hb1 => ?_
  refine sbx rfl rfl fun b4 w2 hx2 hg2 hb2 => sbx rfl rfl fun b5 w3 hx3 hg3 hb3 => ?_
  have d1 := (hb1.ext hx2).ext hx3
  have d2 := hb2.ext hx3
  have k3 := (hx1.tr hx2).tr hx3
  refine vl rfl rfl xas <| nl <| wp_seq <| rg <| vl rfl rfl (xmf (l := []) (k := [.pointer (some ⟨b3, 0, none⟩), .pointer (some ⟨b4, 0, none⟩), .pointer (some ⟨b5, 0, none⟩)]) rfl rfl) <| vl rfl rfl xas <| nl <| wp_ret <| rt rfl (.tmp rfl rfl .nil) ⟨?_, k3⟩
  have s1 := hx1.size
  have s2 := hx2.size
  have s3 := hx3.size
  refine ⟨78, _, rfl, cb78, fun m w' hm hk => ?_⟩
  have g4 : w0.heap.size ≤ b4 := Nat.le_trans s1 hg2
  have g5 : w0.heap.size ≤ b5 := Nat.le_trans s1 (Nat.le_trans s2 hg3)
  exact seq78 (d1.beli hk hg1 d1.lt) (d2.beli hk g4 d2.lt) (hb3.beli hk g5 hb3.lt) hg1 g4 g5
    ((h0.ext k3).beli hk (Nat.le_trans ha k3.size)) (Nat.le_trans ha (Nat.le_trans k3.size hk.size)) hF
end Go.Proofs.Ytdimoehnkagghaa
