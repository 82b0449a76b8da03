/-
  The ends of all turns, circles, and true speeds, in plain words. Condition: there are enough rounds.
-/
import Derived.Test.YthppacohnciinaaSpecG
import Derived.Test.YthppacohnciinaaPureC
namespace Go.Proofs.Ythppacohnciinaa
open Go Go.Md Go.RowKit
open BF (Rl St Back rel pass NEV)

/-! ### The cheapest costs -/
open Classical in
noncomputable def D (x : Int × List RR) (a t : Int) : Int := if h : ∃ d, Dist x a t d then Classical.choose h else 0
section
variable {x : Int × List RR} {a t u : Int} {F : Nat}
theorem D_of {d : Int} (h : Dist x a t d) : D x a t = d := by
  unfold D
  have he : ∃ d, Dist x a t d := ⟨d, h⟩
  rw [dif_pos he]
  exact (Classical.choose_spec he).uni h
theorem find_D (h : csheet x = 0) (hP : Pot x) (a0 : 0 ≤ a) (a1 : a ≤ x.1) (hF : 100000000000000000 ≤ F) :
    ∃ X l s, speed_net_find F ((x.1, x.2), whole x) a = some (X, l) ∧ Fin x a X l s ∧ ∀ t, 0 ≤ t → t ≤ x.1 → gA X t = D x a t ∧ ix X.l t = some (D x a t) := by
  obtain ⟨_, _, h3, _⟩ := csheet_ok h
  obtain ⟨X, l, s, e, hf⟩ := find_eq h hP a0 a1 hF
  refine ⟨X, l, s, e, hf, fun t t0 t1 => ?_⟩
  have := D_of (hf.dist h a0 a1 t0 t1).1
  exact ⟨this.symm, by rw [ixA (X := X) t0 (by omega), this]⟩
theorem D_dist (h : csheet x = 0) (hP : Pot x) (a0 : 0 ≤ a) (a1 : a ≤ x.1) (t0 : 0 ≤ t) (t1 : t ≤ x.1) : Dist x a t (D x a t) := by
  obtain ⟨X, l, s, e, hf, hD⟩ := find_D (F := 100000000000000000) h hP a0 a1 (Nat.le_refl _)
  rw [← (hD t t0 t1).1]
  exact (hf.dist h a0 a1 t0 t1).1
theorem D_bd (h : csheet x = 0) (hP : Pot x) (a0 : 0 ≤ a) (a1 : a ≤ x.1) (t0 : 0 ≤ t) (t1 : t ≤ x.1) : -100000 ≤ D x a t ∧ D x a t ≤ 100000 := by
  obtain ⟨h1, h2⟩ := D_dist h hP a0 a1 t0 t1
  refine ⟨h1.low h hP a0 a1, ?_⟩
  obtain ⟨c, hc, hc2⟩ := PC.any (x := x) a0 a1 t0 t1
  have := h2 c hc
  omega
theorem D_tri (h : csheet x = 0) (hP : Pot x) (a0 : 0 ≤ a) (a1 : a ≤ x.1) (t0 : 0 ≤ t) (t1 : t ≤ x.1) (u0 : 0 ≤ u) (u1 : u ≤ x.1) : D x a u ≤ D x a t + D x t u :=
  (D_dist h hP a0 a1 u0 u1).2 _ ((D_dist h hP a0 a1 t0 t1).1.trans (D_dist h hP t0 t1 u0 u1).1)
theorem D_rule (h : csheet x = 0) (hP : Pot x) (a0 : 0 ≤ a) (a1 : a ≤ x.1) {r : RR} (hr : r ∈ whole x) : D x a r.2.1 ≤ D x a r.1 + r.2.2 := by
  have hok := whole_ok h r hr
  exact (D_dist h hP a0 a1 hok.2.2.1 hok.2.2.2.1).2 _ (.snoc (D_dist h hP a0 a1 hok.1 hok.2.1).1 hr rfl)
theorem D_rule' (h : csheet x = 0) (hP : Pot x) (a0 : 0 ≤ a) (a1 : a ≤ x.1) {r : RR} (hr : r ∈ whole x) : D x r.1 a ≤ r.2.2 + D x r.2.1 a := by
  have hok := whole_ok h r hr
  exact (D_dist h hP hok.1 hok.2.1 a0 a1).2 _ ((PC.one hr).trans (D_dist h hP hok.2.2.1 hok.2.2.2.1 a0 a1).1)
theorem D_self (h : csheet x = 0) (hP : Pot x) (a0 : 0 ≤ a) (a1 : a ≤ x.1) : D x a a = 0 := by
  obtain ⟨h1, h2⟩ := D_dist h hP a0 a1 a0 a1
  have := h2 0 .nil
  have := h1.loop hP
  omega

/-! ### The sheet that is opened -/
theorem open_no (h : csheet x ≠ 0) (hF : 1000 ≤ F) : speed_open F x = some (⟨none⟩, csheet x) := by
  unfold speed_open
  simp only [checkSheet_eq (x := (x.1, x.2)) (show 100 < F by omega), Option.bind_eq_bind, Option.bind_some]
  have e : csheet (x.1, x.2) = csheet x := rfl
  rw [e, if_pos (by simp [h])]
theorem open_eq (h : csheet x = 0) (hF : 1000 ≤ F) : (Pot x → speed_open F x = some (⟨some ((x.1, x.2), whole x)⟩, 0)) ∧ (¬ Pot x → speed_open F x = some (⟨none⟩, 21)) := by
  obtain ⟨h1, h2, h3, _⟩ := csheet_ok h
  unfold speed_open
  simp only [checkSheet_eq (x := (x.1, x.2)) (show 100 < F by omega), Option.bind_eq_bind, Option.bind_some]
  have e : csheet (x.1, x.2) = csheet x := rfl
  rw [e, if_neg (by simp [h]), newNet_eq (x := (x.1, x.2)) (by omega) (by simp; omega) h3 h1]
  have ew : whole (x.1, x.2) = whole x := rfl
  rw [ew]
  simp only [Option.bind_some]
  rcases circle_eq h (F := F) (by omega) with ⟨e1, hp⟩ | ⟨hn, e0, a, e1, hc⟩
  · rw [e1]
    simp only [Option.bind_some]
    exact ⟨fun _ => by rw [if_neg (by simp)], fun h => (h hp).elim⟩
  · rw [e1]
    simp only [Option.bind_some]
    refine ⟨fun h => (hn h).elim, fun _ => ?_⟩
    rw [if_pos]
    cases a with
    | nil => have := hc.hd; simp at this
    | cons p a => simp
theorem circ_eq (h : csheet x = 0) (hF : 1000 ≤ F) : (Pot x ∧ speed_Circle F x = some ([], 5)) ∨ (¬ Pot x ∧ ∃ e a, speed_Circle F x = some (a.map (·.1), 0) ∧ Circ x e a) := by
  obtain ⟨h1, h2, h3, _⟩ := csheet_ok h
  unfold speed_Circle
  simp only [checkSheet_eq (x := (x.1, x.2)) (show 100 < F by omega), Option.bind_eq_bind, Option.bind_some]
  have e : csheet (x.1, x.2) = csheet x := rfl
  rw [e, if_neg (by simp [h]), newNet_eq (x := (x.1, x.2)) (by omega) (by simp; omega) h3 h1]
  have ew : whole (x.1, x.2) = whole x := rfl
  rw [ew]
  simp only [Option.bind_some]
  rcases circle_eq h (F := F) (by omega) with ⟨e1, hp⟩ | ⟨hn, e0, a, e1, hc⟩
  · left
    rw [e1]
    exact ⟨hp, rfl⟩
  · right
    refine ⟨hn, e0, a, ?_, hc⟩
    rw [e1]
    simp only [Option.bind_some]
    rw [if_neg]
    cases a with
    | nil => have := hc.hd; simp at this
    | cons p a => simp; omega
theorem circ_no (h : csheet x ≠ 0) (hF : 1000 ≤ F) : speed_Circle F x = some ([], csheet x) := by
  unfold speed_Circle
  simp only [checkSheet_eq (x := (x.1, x.2)) (show 100 < F by omega), Option.bind_eq_bind, Option.bind_some]
  have e : csheet (x.1, x.2) = csheet x := rfl
  rw [e, if_pos (by simp [h])]

/-! ### The ends of all turns -/
noncomputable def endS (x : Int × List RR) (high : Bool) (k : Nat) : Int := if high = true then D x 0 ((k : Int) + 1) else -D x ((k : Int) + 1) 0
noncomputable def endsL (x : Int × List RR) (high : Bool) : List Int := (List.range x.1.toNat).map (endS x high)
theorem ends_l1 {y : Int → Option Int} {g : Nat → Int} {N : Nat} (hN : x.1 = N) (h20 : N ≤ 20) (hy : ∀ k : Nat, k < N → y ((k : Int) + 1) = some (g k)) : ∀ (m k : Nat), k ≤ N → N - k < m →
    speed_Ends_l1 F x y m ((List.range k).map g) (k : Int) = some ((List.range N).map g)
  | 0, k, _, h => by omega
  | m + 1, k, hk, h => by
    unfold speed_Ends_l1
    by_cases hlt : k < N
    · rw [if_pos (by simp; omega), w64_in (by omega), hy k hlt]
      simp only [Option.bind_eq_bind, Option.bind_some]
      rw [app_some (by simp only [List.length_map, List.length_range, List.length_cons, List.length_nil]; omega)]
      simp only [Option.bind_some]
      have e : (List.range k).map g ++ [g k] = (List.range (k + 1)).map g := by simp [List.range_succ]
      rw [e]
      exact ends_l1 hN h20 hy m (k + 1) (by omega) (by omega)
    · have : k = N := by omega
      subst this
      rw [if_neg (by simp; omega)]
theorem ends_no (h : csheet x ≠ 0) (hF : 1000 ≤ F) (high : Bool) : speed_Ends F x high = some ([], csheet x) := by
  unfold speed_Ends
  rw [show speed_open F (x.1, x.2) = _ from open_no h hF]
  simp only [Option.bind_eq_bind, Option.bind_some]
  rw [if_pos (by simp [h])]
theorem ends_eq (h : csheet x = 0) (hF : 100000000000000000 ≤ F) (high : Bool) : (Pot x → speed_Ends F x high = some (endsL x high, 0)) ∧ (¬ Pot x → speed_Ends F x high = some ([], 21)) := by
  obtain ⟨h1, h2, h3, _⟩ := csheet_ok h
  obtain ⟨o1, o2⟩ := open_eq h (F := F) (by omega)
  unfold speed_Ends
  refine ⟨fun hP => ?_, fun hP => ?_⟩
  · rw [show speed_open F (x.1, x.2) = _ from o1 hP]
    simp only [Option.bind_eq_bind, Option.bind_some]
    obtain ⟨X, l, s, e, hf, hD⟩ := find_D h hP (a := 0) (by omega) (by omega) hF
    rw [if_neg (by simp), e]
    simp only [Option.bind_some]
    have key : ∀ y : Int → Option Int, (∀ k : Nat, k < x.1.toNat → y ((k : Int) + 1) = some (endS x high k)) → (speed_Ends_l1 F x y F [] 0).bind (fun z1 => some (z1, (0 : Int))) = some (endsL x high, 0) := by
      intro y hy
      have := ends_l1 (F := F) (x := x) (N := x.1.toNat) (by omega) (by omega) hy F 0 (Nat.zero_le _) (by omega)
      simp only [List.range_zero, List.map_nil, Int.natCast_zero] at this
      rw [this]
      rfl
    cases hh : high with
    | true =>
      rw [← hh]
      rw [if_neg (by simp [hh])]
      simp only [Option.bind_some]
      refine key _ fun k hk => ?_
      unfold speed_Ends_1 endS
      rw [(hD ((k : Int) + 1) (by omega) (by omega)).2, if_pos hh]
      rfl
    | false =>
      rw [← hh]
      rw [if_pos (by simp [hh])]
      simp only [Option.bind_some]
      refine key _ fun k hk => ?_
      obtain ⟨Y, l', s', e', hf', hD'⟩ := find_D h hP (a := (k : Int) + 1) (by omega) (by omega) hF
      unfold speed_Ends_2 endS
      simp only [Option.bind_eq_bind, Option.bind_some]
      rw [e']
      simp only [Option.bind_some]
      have hb := D_bd h hP (a := (k : Int) + 1) (t := 0) (by omega) (by omega) (by omega) (by omega)
      rw [(hD' 0 (by omega) (by omega)).2, if_neg (by simp [hh])]
      simp only [Option.bind_some]
      rw [w64_in (by omega)]
      congr 1
      omega
  · rw [show speed_open F (x.1, x.2) = _ from o2 hP]
    simp only [Option.bind_eq_bind, Option.bind_some]
    rw [if_pos (by simp)]

/-! ### True speeds -/
theorem endsL_len {high : Bool} : (endsL x high).length = x.1.toNat := by simp [endsL]
theorem ofS_ends {high : Bool} (h : csheet x = 0) (hP : Pot x) (t0 : 0 ≤ t) (t1 : t ≤ x.1) : ofS (endsL x high) t = if high = true then D x 0 t else -D x t 0 := by
  obtain ⟨h1, h2, h3, _⟩ := csheet_ok h
  unfold ofS
  by_cases e : t = 0
  · subst e
    rw [if_pos rfl, D_self h hP (by omega) (by omega)]
    cases high <;> rfl
  · rw [if_neg e]
    have e2 : t - 1 = ((t - 1).toNat : Int) := by omega
    have hl : (t - 1).toNat < (endsL x high).length := by rw [endsL_len]; omega
    rw [e2, ix_nat hl]
    have e3 : (((t - 1).toNat : Nat) : Int) + 1 = t := by omega
    simp only [endsL, List.getElem_map, List.getElem_range, endS, e3, Option.getD_some]
theorem ends_true (h : csheet x = 0) (hP : Pot x) (high : Bool) : cspeeds x (endsL x high) = 0 := by
  obtain ⟨h1, h2, h3, _⟩ := csheet_ok h
  have hl : ((endsL x high).length : Int) = x.1 := by rw [endsL_len]; omega
  rw [cs3 h hl, if_pos, if_pos]
  · refine List.all_eq_true.2 fun r hr => ?_
    have hw : r ∈ whole x := List.mem_append.2 (.inl hr)
    have hok := whole_ok h r hw
    unfold keepsS
    rw [ofS_ends h hP hok.2.2.1 hok.2.2.2.1, ofS_ends h hP hok.1 hok.2.1]
    have b1 := D_bd h hP (a := 0) (t := r.1) (by omega) (by omega) hok.1 hok.2.1
    have b2 := D_bd h hP (a := r.1) (t := 0) hok.1 hok.2.1 (by omega) (by omega)
    have r1 := D_rule h hP (a := 0) (by omega) (by omega) hw
    have r2 := D_rule' h hP (a := 0) (by omega) (by omega) hw
    obtain ⟨_, _, _, _, _, m1, m2⟩ := hok
    cases high with
    | true =>
      simp only [if_true]
      rw [w64_in (by omega)]
      simpa using r1
    | false =>
      simp only [Bool.false_eq_true, if_false]
      rw [w64_in (by omega)]
      simp only [decide_eq_true_eq]
      omega
  · refine List.all_eq_true.2 fun v hv => ?_
    obtain ⟨k, hk, rfl⟩ := List.mem_map.1 hv
    have hk := List.mem_range.1 hk
    have b1 := D_bd h hP (a := 0) (t := (k : Int) + 1) (by omega) (by omega) (by omega) (by omega)
    have b2 := D_bd h hP (a := (k : Int) + 1) (t := 0) (by omega) (by omega) (by omega) (by omega)
    have z := turn_mem (x := x) (t := (k : Int) + 1) (by omega) (by omega)
    have t1 := (D_dist h hP (a := (k : Int) + 1) (t := 0) (by omega) (by omega) (by omega) (by omega)).2 _ (PC.one z.2)
    have t2 : 0 ≤ D x 0 ((k : Int) + 1) := by
      have := ((D_dist h hP (a := 0) (t := (k : Int) + 1) (by omega) (by omega) (by omega) (by omega)).1.trans (PC.one z.2)).loop hP
      simp only at this
      omega
    simp only at t1
    unfold endS inR
    simp only [Bool.and_eq_true, decide_eq_true_eq]
    cases high with
    | true => simp only [if_true]; omega
    | false => simp only [Bool.false_eq_true, if_false]; omega
theorem true_pot {s : List Int} (hs : cspeeds x s = 0) : csheet x = 0 ∧ (s.length : Int) = x.1 ∧ (∀ v ∈ s, 0 ≤ v ∧ v ≤ 100000) ∧ ∀ r ∈ whole x, ofS s r.2.1 ≤ ofS s r.1 + r.2.2 := by
  by_cases h : csheet x = 0
  · obtain ⟨h1, h2, h3, h4⟩ := csheet_ok h
    by_cases h5 : (s.length : Int) = x.1
    · rw [cs3 h h5] at hs
      split at hs
      · rename_i h6
        split at hs
        · rename_i h7
          have hv : ∀ v ∈ s, 0 ≤ v ∧ v ≤ 100000 := fun v hv => by
            have := List.all_eq_true.1 h6 v hv
            simpa [inR] using this
          have ho : ∀ t, 0 ≤ t → t ≤ x.1 → 0 ≤ ofS s t ∧ ofS s t ≤ 100000 := fun t t0 t1 => by
            unfold ofS
            by_cases e : t = 0
            · rw [if_pos e]; omega
            · rw [if_neg e]
              have e2 : t - 1 = ((t - 1).toNat : Int) := by omega
              have hl : (t - 1).toNat < s.length := by omega
              rw [e2, ix_nat hl]
              exact hv _ (List.getElem_mem hl)
          refine ⟨h, h5, hv, fun r hr => ?_⟩
          have hok := whole_ok h r hr
          rcases List.mem_append.1 hr with hr2 | hr2
          · have := List.all_eq_true.1 h7 r hr2
            unfold keepsS at this
            have b1 := ho r.1 hok.1 hok.2.1
            obtain ⟨_, _, _, _, _, m1, m2⟩ := hok
            rw [w64_in (by omega)] at this
            simpa using this
          · obtain ⟨t, ht, hr2⟩ := List.mem_flatMap.1 hr2
            have ht := List.mem_range.1 ht
            have b1 := ho ((t : Int) + 1) (by omega) (by omega)
            have z : ofS s 0 = 0 := rfl
            simp only [List.mem_cons, List.not_mem_nil, or_false] at hr2
            rcases hr2 with rfl | rfl
            · simp only [z]; omega
            · simp only [z]; omega
        · cases hs
      · cases hs
    · rw [cs2 h h5] at hs; cases hs
  · rw [cs1 h] at hs; exact (h hs).elim

/-! ### Circles that are given -/
theorem linkE_path (h : csheet x = 0) : ∀ (rs : List RR) (r : RR) (c : Int) (p : Option Int), (∀ q ∈ r :: rs, q ∈ whole x) → -1000000000 ≤ c - 100000 * (rs.length + 1) → c + 100000 * (rs.length + 1) ≤ 1000000000 → (linkE c p (r :: rs)).2 = 0 →
    ∃ k, PC (whole x) r.1 (lastT (r :: rs)) k ∧ (linkE c p (r :: rs)).1 = c + k
  | [], r, c, p, hm, b1, b2, h0 => by
    have hok := whole_ok h r (hm r (by simp))
    obtain ⟨_, _, _, _, _, m1, m2⟩ := hok
    unfold linkE at h0 ⊢
    split
    · refine ⟨r.2.2, PC.one (hm r (by simp)), ?_⟩
      simp only [linkE, List.length_nil] at b1 b2 ⊢
      rw [w64_in (by omega)]
    · rename_i hp
      rw [if_neg hp] at h0
      cases h0
  | r' :: rs, r, c, p, hm, b1, b2, h0 => by
    have hok := whole_ok h r (hm r (by simp))
    obtain ⟨_, _, _, _, _, m1, m2⟩ := hok
    rw [linkE] at h0 ⊢
    split
    · rename_i hp
      rw [if_pos hp] at h0
      simp only [List.length_cons] at b1 b2
      have ew : w64 (c + r.2.2) = c + r.2.2 := w64_in (by omega)
      rw [ew] at h0 ⊢
      obtain ⟨k, h1, h2⟩ := linkE_path h rs r' (c + r.2.2) (some r.2.1) (fun q hq => hm q (by simp [List.mem_cons.1 hq])) (by omega) (by omega) h0
      have e : r'.1 = r.2.1 := by
        rw [linkE] at h0
        split at h0
        · rename_i hq
          simp only [reduceCtorEq, Option.some.injEq, false_or] at hq
          exact hq.symm
        · cases h0
      refine ⟨r.2.2 + k, ?_, by omega⟩
      have h3 := PC.one (hm r (by simp))
      rw [← e] at h3
      have := h3.trans h1
      have e2 : lastT (r :: r' :: rs) = lastT (r' :: rs) := by simp [lastT]
      rw [e2]
      exact this
    · rename_i hp
      rw [if_neg hp] at h0
      cases h0
theorem rs_mem {way : List Int} (hin : inAll (whole x) way = true) : ∀ q ∈ rsOf (whole x) way, q ∈ whole x := by
  intro q hq
  obtain ⟨i, hi, rfl⟩ := List.mem_map.1 hq
  have := List.all_eq_true.1 hin i hi
  simp only [Bool.and_eq_true, decide_eq_true_eq] at this
  have h1 := ix_in this.1 this.2
  obtain ⟨_, _, h2⟩ := ix_spec h1
  exact List.mem_of_getElem? h2
theorem circle_no_pot {way : List Int} (hc : ccircle x way = 0) : ¬ Pot x := by
  intro hP
  by_cases h : csheet x = 0
  · cases h4 : inR 1 60 way.length with
    | false => rw [cc2 h h4] at hc; cases hc
    | true =>
      by_cases h5 : (chainS (whole x) way).2 = 0
      · by_cases h6 : firstF (rsOf (whole x) way) = lastT (rsOf (whole x) way)
        · rw [cc5 h h4 h5 h6] at hc
          split at hc
          · cases hc
          · rename_i h7
            have hin : inAll (whole x) way = true := by
              unfold chainS at h5
              split at h5
              · assumption
              · cases h5
            have hrl : (rsOf (whole x) way).length = way.length := by simp [rsOf]
            simp only [inR, Bool.and_eq_true, decide_eq_true_eq] at h4
            have hch : chainS (whole x) way = linkE 0 none (rsOf (whole x) way) := by unfold chainS; rw [if_pos hin]
            have hmem := rs_mem hin
            rw [hch] at h5 h7
            cases hw : rsOf (whole x) way with
            | nil => rw [hw] at hrl; simp at hrl; omega
            | cons r rs =>
              rw [hw] at h5 h6 h7 hrl hmem
              simp only [List.length_cons] at hrl
              obtain ⟨k, h8, h9⟩ := linkE_path h rs r 0 none hmem (by omega) (by omega) h5
              rw [← h6] at h8
              have := PC.loop hP (a := r.1) (by simpa [firstF] using h8)
              omega
        · rw [cc4 h h4 h5 h6] at hc; cases hc
      · rw [cc3 h h4 h5] at hc; exact h5 hc
  · rw [cc1 h] at hc; exact h hc
theorem linkE_lk (h : csheet x = 0) : ∀ (a : List Rl) (q : Rl) (c : Int) (p : Option Int), (∀ r ∈ q :: a, r ∈ Rs x) → Lk (q :: a) → (p = none ∨ p = some q.2.1) → -1000000000 ≤ c - 100000 * (a.length + 1) → c + 100000 * (a.length + 1) ≤ 1000000000 →
    linkE c p ((q :: a).map (·.2)) = (c + sumM (q :: a), 0)
  | [], q, c, p, hm, _, hp, b1, b2 => by
    have hok := Rs_ok h q (hm q (by simp))
    obtain ⟨_, _, _, _, _, m1, m2⟩ := hok
    simp only [List.length_nil] at b1 b2
    simp only [List.map_cons, List.map_nil]
    rw [linkE, if_pos hp, linkE, w64_in (by omega)]
    simp [sumM]
  | q' :: a, q, c, p, hm, hl, hp, b1, b2 => by
    have hok := Rs_ok h q (hm q (by simp))
    obtain ⟨_, _, _, _, _, m1, m2⟩ := hok
    simp only [List.length_cons] at b1 b2
    have ih := linkE_lk h a q' (c + q.2.2.2) (some q.2.2.1) (fun r hr => hm r (by simp [List.mem_cons.1 hr])) hl.2 (.inr (by rw [hl.1])) (by omega) (by omega)
    simp only [List.map_cons] at ih ⊢
    rw [linkE, if_pos hp, w64_in (by omega), ih]
    have e : sumM (q :: q' :: a) = q.2.2.2 + sumM (q' :: a) := by simp [sumM]
    rw [e, Int.add_assoc]
theorem circ_ok {e : Int} {a : List Rl} (h : csheet x = 0) (hc : Circ x e a) : ccircle x (a.map (·.1)) = 0 := by
  have hlen := hc.len
  cases ha : a with
  | nil => have := hc.hd; rw [ha] at this; simp at this
  | cons q b =>
    rw [ha] at hc hlen
    have hin : inAll (whole x) ((q :: b).map (·.1)) = true := by
      refine List.all_eq_true.2 fun i hi => ?_
      obtain ⟨p, hp, rfl⟩ := List.mem_map.1 hi
      have := en_mem (hc.mem p hp)
      simp only [Bool.and_eq_true, decide_eq_true_eq]
      exact ⟨this.2.2.1, this.2.2.2⟩
    have hrs : rsOf (whole x) ((q :: b).map (·.1)) = (q :: b).map (·.2) := by
      unfold rsOf
      rw [List.map_map]
      refine List.map_congr_left fun p hp => ?_
      have := (en_mem (hc.mem p hp)).2.1
      simp [this]
    have hl : linkE 0 none ((q :: b).map (·.2)) = (0 + sumM (q :: b), 0) := linkE_lk h b q 0 none hc.mem hc.lk (.inl rfl) (by simp only [List.length_cons] at hlen; omega) (by simp only [List.length_cons] at hlen; omega)
    have hch : chainS (whole x) ((q :: b).map (·.1)) = (0 + sumM (q :: b), 0) := by
      unfold chainS
      rw [if_pos hin, hrs, hl]
    have h4 : inR 1 60 ((q :: b).map (·.1)).length = true := by
      simp only [List.length_map, List.length_cons, inR, Bool.and_eq_true, decide_eq_true_eq] at hlen ⊢
      omega
    have h6 : firstF (rsOf (whole x) ((q :: b).map (·.1))) = lastT (rsOf (whole x) ((q :: b).map (·.1))) := by
      rw [hrs]
      have h1 := hc.hd
      have h2 := hc.tl
      have e1 : firstF ((q :: b).map (·.2)) = q.2.1 := rfl
      simp only [List.head?_cons, Option.map_some, Option.some.injEq] at h1
      have e2 : lastT ((q :: b).map (·.2)) = e := by
        unfold lastT
        rw [List.getLast?_map]
        cases hg : (q :: b).getLast? with
        | none => rw [hg] at h2; simp at h2
        | some r =>
          rw [hg] at h2
          simp only [Option.map_some, Option.some.injEq] at h2
          simpa using h2
      rw [e1, e2, h1]
    rw [cc5 h h4 (by rw [hch]) h6, hch, if_neg]
    have := hc.neg
    simp only
    omega
end
end Go.Proofs.Ythppacohnciinaa
