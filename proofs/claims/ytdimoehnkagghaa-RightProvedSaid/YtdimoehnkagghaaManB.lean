/-
  The iterator over all lists of so many of some numbers, by their bits: a function that calls itself. Condition: the pure function computes something.
-/
import Derived.Test.YtdimoehnkagghaaManA
namespace Go.Proofs.Ytdimoehnkagghaa
open Go Go.Md Go.RowKit
attribute [local irreducible] Go.wpList Go.Code.wp Go.Calls Go.Md.Rnd Go.Md.Mt Go.wpListIn Go.Code.wpIn

def sh1 (n : Nat) : Int := w64 (1 * 2 ^ (min n 64))
theorem shl_one (n : Nat) : shl .i64 1 (n : Int) = some (sh1 n) := by
  unfold shl sh1
  rw [if_neg (by omega)]
  rfl
def fromL (N : Nat) : Nat → Nat → Int → List Int
  | 0, _, bits => [bits]
  | left + 1, at_, bits => (List.range' at_ (N - left - at_)).flatMap fun n => fromL N left (n + 1) (bor .i64 bits (sh1 n))
def right_lists (x0 x1 : Int) : Option (List Int) := if 0 ≤ x0 ∧ x0 ≤ 1000000 ∧ 0 ≤ x1 ∧ x1 ≤ 1000000 then some (fromL x0.toNat x1.toNat 0 0) else none

section
variable {m l a t N b3 b4 b5 : Nat} {J : Nat → World → Prop} {Jx : World → Prop} {us : List Int}
set_option maxHeartbeats 2000000 in
theorem c74 (hN : N ≤ 1000000) (hJ : ∀ k A B, J k A → Ext A B → J k B)
    (hY : ∀ k u A, (us.map fun x => #[fv x])[k]? = some u → J k A → YieldAt Fence.wide (m - 1) Try.prog l u A fun e B => (e = .returned (.bool true) ∧ J (k + 1) B ∧ KeepC a t A B) ∨ (e = .returned (.bool false) ∧ Jx B))
    (h3 : t ≤ b3) (h4 : t ≤ b4) (h5 : t ≤ b5) : ∀ (left : Nat) (at_ : Nat) (bits : Int) (k : Nat) (post : List Int) (W : World), left ≤ 1000000 → at_ ≤ 1000001 → us.drop k = fromL N left at_ bits ++ post → J k W →
    Bx W b3 83 [.func (.yield l) #[] #[]] → Bx W b4 3 [.int .i64 (N : Int)] → Bx W b5 100 [.func (.func 74) #[] #[.pointer (some ⟨b3, 0, none⟩), .pointer (some ⟨b4, 0, none⟩), .pointer (some ⟨b5, 0, none⟩)]] →
    Calls Try.prog 74 [.int .i64 (at_ : Int), .int .i64 (left : Int), .int .i64 bits, .pointer (some ⟨b3, 0, none⟩), .pointer (some ⟨b4, 0, none⟩), .pointer (some ⟨b5, 0, none⟩)].toArray W
      (Ret fun v W' => (v = .bool true ∧ J (k + (fromL N left at_ bits).length) W' ∧ KeepC a t W W') ∨ (v = .bool false ∧ Jx W'))
  | 0, at_, bits, k, post, W, hl, ha, hu, hj, d3, d4, d5 => by
    have hk : us[k]? = some bits := by
      have := congrArg (fun q => q[0]?) hu
      simpa [fromL] using this
    have hz := hY k #[fv bits] W (by rw [List.getElem?_map, hk]; rfl) hj; obtain ⟨fn, tmps, assign, body, hy, hR⟩ := hz
    refine entr (n := 35) Try.func74 rfl rfl rfl <| wp_seq <| rg <| vl rfl rfl xas <| nl <| wp_seq <| wp_seq <| rg <| vl rfl rfl xmv <| vl rfl rfl (xeql rfl rfl) <| nl <| cnd rfl (fun _ => ?_) (fun h => by cases h)
    refine wp_seq <| rgW (m := m) <| vlW rfl rfl nofun (xld rfl ti83 ((Bx.cs d3).at 0 rfl)) <| vlW rfl rfl nofun xmv <| ylW rfl rfl nofun (xyl rfl (mc rfl mn) hy) hR fun e W' he => ?_
    rcases he with ⟨rfl, hj5, k5⟩ | ⟨rfl, hj5⟩
    · exact ⟨_, rfl, vlW rfl rfl nofun xas <| nlW <| wp_ret <| rt rfl (.tmp rfl rfl .nil) (.inl ⟨rfl, hj5, k5⟩)⟩
    · exact ⟨_, rfl, vlW rfl rfl nofun xas <| nlW <| wp_ret <| rt rfl (.tmp rfl rfl .nil) (.inr ⟨rfl, hj5⟩)⟩
  | left + 1, at_, bits, k, post, W, hl, ha, hu, hj, d3, d4, d5 => by
    have hne : ¬ ((left + 1 : Nat) : Int) = 0 := by omega
    refine entr (n := 35) Try.func74 rfl rfl rfl <| wp_seq <| rg <| vl rfl rfl xas <| nl <| wp_seq <| wp_seq <| rg <| vl rfl rfl xmv <| vl rfl rfl (xeql rfl rfl) <| nl <| cnd rfl (fun h => absurd (of_decide_eq_true h) hne) (fun _ => wp_skip <| ?_)
    refine wp_seq <| wp_seq <| rg <| vl rfl rfl xmv <| vl rfl rfl xas <| nl <| ?_
    let g : Nat → List Int := fun n => fromL N left (n + 1) (bor .i64 bits (sh1 n))
    have hfull : fromL N (left + 1) at_ bits = (List.range' at_ (N - left - at_)).flatMap g := rfl
    rw [hfull] at hu ⊢
    generalize hT : k + ((List.range' at_ (N - left - at_)).flatMap g).length = T
    refine wp_block <| lp (I := fun m' L w1 => ∃ (n k' : Nat), n + m' = at_ + (N - left - at_) ∧ at_ ≤ n ∧ L 10 = .int .i64 (n : Int) ∧ L 9 = .bool false ∧ L 1 = .int .i64 ((left + 1 : Nat) : Int) ∧ L 2 = .int .i64 bits ∧
      L 3 = .pointer (some ⟨b3, 0, none⟩) ∧ L 4 = .pointer (some ⟨b4, 0, none⟩) ∧ L 5 = .pointer (some ⟨b5, 0, none⟩) ∧ us.drop k' = (List.range' n (N - left - n)).flatMap g ++ post ∧ k' + ((List.range' n (N - left - n)).flatMap g).length = T ∧ J k' w1 ∧ KeepC a t W w1) (N - left - at_)
      ⟨at_, k, rfl, Nat.le_refl _, rfl, rfl, rfl, rfl, rfl, rfl, rfl, hu, hT, hj, KeepC.refl⟩ ?_
    rintro m' L w1 ⟨n, k', hn, han, l10, l9, l1, l2, l3, l4, l5, hu', hT', hj', hx⟩
    have f3 := d3.keepc hx h3
    have f4 := d4.keepc hx h4
    have f5 := d5.keepc hx h5
    have es : w64 ((n : Int) + ((left + 1 : Nat) : Int)) = ((n + left + 1 : Nat) : Int) := by
      rw [w64, IntWalk.i64_in _ (by omega)]
      omega
    refine wp_seq <| wp_seq <| rg <| vl rfl rfl (xmva l10) <| vl rfl rfl (xmva l1) <| vl rfl rfl (xadd rfl rfl) <| vl rfl rfl (xld l4 ti3 ((Bx.cs f4).at 0 rfl)) <| vl rfl rfl (xleq rfl rfl) <| nl <| cnd rfl (fun hc => ?_) (fun hc => ?_)
    · have hc : n + left + 1 ≤ N := by
        have : w64 ((n : Int) + ((left + 1 : Nat) : Int)) ≤ (N : Int) := of_decide_eq_true hc
        rw [es] at this
        omega
      have e1 : w64 ((n : Int) + 1) = ((n + 1 : Nat) : Int) := by
        rw [w64, IntWalk.i64_in _ (by omega)]
        omega
      have e2 : w64 (((left + 1 : Nat) : Int) - 1) = (left : Int) := by
        rw [w64, IntWalk.i64_in _ (by omega)]
        omega
      have er : List.range' n (N - left - n) = n :: List.range' (n + 1) (N - left - (n + 1)) := by
        rw [show N - left - n = (N - left - (n + 1)) + 1 by omega, List.range'_succ]
      rw [er, List.flatMap_cons] at hu' hT'
      rw [List.append_assoc] at hu'
      refine wp_skip <| wp_seq <| wp_block <| wp_seq <| wpl [9] (.pure false 0 (.pure true 1 (.pure true 2 (.pure true 3 (.pure true 4 (.pure true 5 (.pure true 6 (.pure true 7 (.pure true 8 (.eff 9 (.pure true 10 .fin) .stop)))))))))) mixed (by kernel_rfl) (fun wd hxd => ?_)
      have g3 := f3.ext hxd
      have g4 := f4.ext hxd
      have g5 := f5.ext hxd
      refine pv rfl rfl rfl (fun _ hS => xld l5 ti100 ((Bx.cs (g5.ext (hS.resolve_left nofun))).at 0 rfl)) (.inr (Ext.refl _)) <| pv rfl rfl rfl (fun _ _ => xmva l10) (.inl rfl) <| pv rfl rfl rfl (fun _ _ => xadd rfl rfl) (.inl rfl) <| pv rfl rfl rfl (fun _ _ => xmva l1) (.inl rfl) <| pv rfl rfl rfl (fun _ _ => xsub rfl rfl) (.inl rfl) <| pv rfl rfl rfl (fun _ _ => xmva l2) (.inl rfl) <| pv rfl rfl rfl (fun _ _ => xmva l10) (.inl rfl) <| pv rfl rfl rfl (fun _ _ => xshl rfl rfl (shl_one n)) (.inl rfl) <| pv rfl rfl rfl (fun _ _ => xor_ rfl rfl) (.inl rfl) <| ?_
      refine pe1 rfl <| cl rfl rfl (xcv (fs := []) (cs := [.pointer (some ⟨b3, 0, none⟩), .pointer (some ⟨b4, 0, none⟩), .pointer (some ⟨b5, 0, none⟩)]) rfl cb74 (mc rfl <| mc rfl <| mc rfl mn) rfl)
        (by
          show Calls Try.prog 74 [.int .i64 (w64 ((n : Int) + 1)), .int .i64 (w64 (((left + 1 : Nat) : Int) - 1)), .int .i64 (bor .i64 bits (sh1 n)), .pointer (some ⟨b3, 0, none⟩), .pointer (some ⟨b4, 0, none⟩), .pointer (some ⟨b5, 0, none⟩)].toArray wd _
          rw [e1, e2]
          exact c74 hN hJ hY h3 h4 h5 left (n + 1) (bor .i64 bits (sh1 n)) k' _ wd (by omega) (by omega) hu' (hJ _ _ _ hj' hxd) g3 g4 g5) fun v w2 hv => ?_
      refine nl ⟨fun h => (h (by decide)).elim, ?_⟩
      refine Or.elim hv (fun hv => ?_) (fun hv => ?_)
      · obtain ⟨rfl, hj2, k2⟩ := hv
        refine pv rfl rfl rfl (fun _ _ => xnot rfl) (.inl rfl) <| cnd rfl (fun h => by cases h) (fun _ => wp_skip <| rg <| vl rfl rfl (xmva l10) <| vl rfl rfl (xadd rfl rfl) <| vl rfl rfl xas <| nl ?_)
        refine lq (m' - 1) (by omega) ⟨n + 1, k' + (g n).length, by omega, by omega, ?_, l9, l1, l2, l3, l4, l5, ?_, ?_, hj2, (hx.ext hxd).trans k2⟩
        · show Value.int .i64 (w64 ((n : Int) + 1)) = _
          rw [e1]
        · rw [← List.drop_drop, hu']
          exact List.drop_left' rfl
        · rw [← hT', List.length_append]
          omega
      · obtain ⟨rfl, hj2⟩ := hv
        refine pv rfl rfl rfl (fun _ _ => xnot rfl) (.inl rfl) <| cnd rfl (fun _ => ?_) (fun h => by cases h)
        exact wp_seq <| rg <| vl rfl rfl xas <| nl <| wp_ret <| rt rfl (.tmp rfl rfl .nil) (.inr ⟨rfl, hj2⟩)
    · have hc : N < n + left + 1 := by
        have : ¬ w64 ((n : Int) + ((left + 1 : Nat) : Int)) ≤ (N : Int) := of_decide_eq_false hc
        rw [es] at this
        omega
      have e0 : N - left - n = 0 := by omega
      rw [e0] at hT'
      simp only [List.range'_zero, List.flatMap_nil, List.length_nil, Nat.add_zero] at hT'
      subst hT'
      exact wp_exit <| wp_seq <| rg <| vl rfl rfl xas <| nl <| wp_ret <| rt rfl (.tmp rfl rfl .nil) (.inl ⟨rfl, hj', hx⟩)
end

theorem seq73 {m : Nat} {w : World} {c1 c2 a t : Nat} {x0 x1 : Int} {r : List Int} (h1 : Bx w c1 3 [.int .i64 x0]) (h2 : Bx w c2 3 [.int .i64 x1]) (hc1 : t ≤ c1) (hat : t ≤ w.heap.size) (hF : right_lists x0 x1 = some r) :
    SeqP Try.prog (KeepC a t) m 73 #[.pointer (some ⟨c1, 0, none⟩), .pointer (some ⟨c2, 0, none⟩)] (r.map fun x => #[fv x]) w := by
  intro l J Jx W kW hJ hJx hY h0
  have d1 := h1.ext kW
  have d2 := h2.ext kW
  unfold right_lists at hF
  split at hF
  case isFalse => cases hF
  rename_i hb
  cases hF
  obtain ⟨N, rfl⟩ : ∃ N : Nat, x0 = (N : Int) := ⟨x0.toNat, by omega⟩
  obtain ⟨K, rfl⟩ : ∃ K : Nat, x1 = (K : Int) := ⟨x1.toNat, by omega⟩
  simp only [Int.toNat_natCast] at hY ⊢
  refine (callsIn_wide.2 ?_ : CallsIn Fence.wide m Try.prog 73 ([.func (.yield l) #[] #[], .pointer (some ⟨c1, 0, none⟩), .pointer (some ⟨c2, 0, none⟩)].toArray) W _)
  refine Calls.mono (R := Ret fun v W' => J ((fromL N K 0 0).map fun x => #[fv x]).length W' ∨ Jx W') ?_ ?_
  rotate_left
  · rintro e W' ⟨v, rfl, h⟩
    exact ⟨⟨v, rfl⟩, h⟩
  have sW := kW.size
  refine entr (n := 9) Try.func73 rfl rfl rfl <| wp_seq <| rg <| sbx rfl rfl fun b3 w1 hx1 hg1 hb1 => nl <| ?_
  refine wp_seq <| rg <| sal ti100 fun b4 w2 hx2 hg2 hb2 => nl <| ?_
  refine wp_seq <| rg <| vl rfl rfl (xmf (l := []) (k := [.pointer (some ⟨b3, 0, none⟩), .pointer (some ⟨c1, 0, none⟩), .pointer (some ⟨b4, 0, none⟩)]) rfl rfl) <| sst rfl rfl rfl ti100 hb2 rfl rfl (ble rfl) fun w3 hch3 hb3 => nl <| ?_
  have s1 := hx1.size
  have k13 : Ext w1 w3 := hx2.chg hch3 hg2
  have k3 := hx1.tr k13
  have e1 := hb1.ext k13
  have f1 := d1.ext k3
  have f2 := d2.ext k3
  refine rg <| vl rfl rfl (xld rfl ti100 ((Bx.cs hb3).at 0 rfl)) <| vl rfl rfl (xld rfl ti3 ((Bx.cs f2).at 0 rfl)) <| cl rfl rfl (xcv (fs := []) (cs := [.pointer (some ⟨b3, 0, none⟩), .pointer (some ⟨c1, 0, none⟩), .pointer (some ⟨b4, 0, none⟩)]) rfl cb74 (mc rfl <| mc rfl <| mc rfl mn) rfl)
    (c74 (us := fromL N K 0 0) (N := N) (by omega) hJ hY (by omega) hc1 (by omega) K 0 0 0 [] w3 (by omega) (by omega) (by simp) (hJ _ _ _ h0 k3) e1 f1 hb3) fun v w4 hv => ?_
  rcases hv with ⟨rfl, hj, k4⟩ | ⟨rfl, hj⟩
  · refine nl <| rtn rfl .nil (.inl ?_)
    rw [List.length_map]
    simpa using hj
  · exact nl <| rtn rfl .nil (.inr hj)

theorem c54 {a : Nat} {w0 : World} {x0 x1 : Int} {r : List Int} (hF : right_lists x0 x1 = some r) :
    Calls Try.prog 54 [.int .i64 x0, .int .i64 x1].toArray w0 (Ret fun v w' => SeqS Try.prog a w0.heap.size w' v (r.map fun x => #[fv x]) ∧ Ext w0 w') := by
  refine entr (n := 6) Try.func54 rfl rfl rfl <| wp_seq <| rg <| sbx rfl rfl fun b2 w1 hx1 hg1 hb1 => ?_
  refine sbx rfl rfl fun b3 w2 hx2 hg2 hb2 => ?_
  have d1 := hb1.ext hx2
  have k2 := hx1.tr hx2
  refine vl rfl rfl xas <| nl <| wp_seq <| rg <| vl rfl rfl (xmf (l := []) (k := [.pointer (some ⟨b2, 0, none⟩), .pointer (some ⟨b3, 0, none⟩)]) rfl rfl) <| vl rfl rfl xas <| nl <| wp_ret <| rt rfl (.tmp rfl rfl .nil) ⟨?_, k2⟩
  have s1 := hx1.size
  refine ⟨73, _, rfl, cb73, fun m w' hm hk => ?_⟩
  have g3 : w0.heap.size ≤ b3 := Nat.le_trans s1 hg2
  exact seq73 (d1.keepc hk hg1) (hb2.keepc hk g3) hg1 (Nat.le_trans k2.size hk.size) hF
end Go.Proofs.Ytdimoehnkagghaa
