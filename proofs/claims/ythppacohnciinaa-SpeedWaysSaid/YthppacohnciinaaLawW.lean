/-
  Laws in plain Lean, with no program in sight. Condition: each section says its own.
-/
import Derived.Test.YthppacohnciinaaLawO
import Derived.Test.YthppacohnciinaaArgs2
import Derived.Test.YthppacohnciinaaPureJ
set_option linter.unusedVariables false
set_option linter.unusedSimpArgs false
/-! SpeedWays, in plain words. No condition. -/
namespace Go.Proofs.Ythppacohnciinaa
open Go Go.Md Go.RowKit
section
variable {x : Int × List RR} {F : Nat} {a b t : Int}
/-! ### SpeedWays -/
theorem cway_ge (h : csheet x = 0) (hP : Pot x) (a0 : 0 ≤ a) (a1 : a ≤ x.1) (b0 : 0 ≤ b) (b1 : b ≤ x.1) {way : List Int} (hw : (cway x a b way).2 = 0) : D x a b ≤ (cway x a b way).1 := by
  have hab : (inR 0 x.1 a && inR 0 x.1 b) = true := by simp [inR]; omega
  by_cases h5 : 60 < way.length
  · rw [cw3 h hab h5] at hw; cases hw
  · by_cases h6 : (chainS (whole x) way).2 = 0
    · by_cases h7 : way.length = 0
      · have : way = [] := List.eq_nil_of_length_eq_zero h7
        subst this
        rw [cw5 h hab rfl] at hw ⊢
        by_cases e : a = b
        · subst e
          rw [if_neg (by simp), D_self h hP a0 a1]
          exact Int.le_refl _
        · rw [if_pos e] at hw; cases hw
      · rw [cw6 h hab h5 h6 h7] at hw ⊢
        by_cases h8 : firstF (rsOf (whole x) way) ≠ a ∨ lastT (rsOf (whole x) way) ≠ b
        · rw [if_pos h8] at hw; cases hw
        · rw [if_neg h8]
          simp only [not_or, Classical.not_not] at h8
          have hin := chain_in h6
          have hrl : (rsOf (whole x) way).length = way.length := by simp [rsOf]
          have hch : chainS (whole x) way = linkE 0 none (rsOf (whole x) way) := by unfold chainS; rw [if_pos hin]
          have hmem := rs_mem hin
          rw [hch] at h6 ⊢
          cases hw2 : rsOf (whole x) way with
          | nil => rw [hw2] at hrl; simp at hrl; omega
          | cons r rs =>
            rw [hw2] at h6 h8 hrl hmem
            simp only [List.length_cons] at hrl
            obtain ⟨k, k1, k2⟩ := linkE_path h rs r 0 none hmem (by omega) (by omega) h6
            rw [h8.2] at k1
            have e1 : r.1 = a := h8.1
            rw [e1] at k1
            have := (D_dist h hP a0 a1 b0 b1).2 _ k1
            omega
    · rw [cw4 h hab h5 h6] at hw
      exact (h6 hw).elim
noncomputable def topS (x : Int × List RR) (a : Int) : List Int := (List.range x.1.toNat).map fun (k : Nat) => D x a ((k : Int) + 1) - D x a 0
theorem topS_len : (topS x a).length = x.1.toNat := by simp [topS]
theorem topS_of (t0 : 0 ≤ t) (t1 : t ≤ x.1) : ofS (topS x a) t = D x a t - D x a 0 := by
  unfold ofS
  by_cases e : t = 0
  · subst e; simp
  · rw [if_neg e]
    have e2 : t - 1 = ((t - 1).toNat : Int) := by omega
    rw [e2, ix_nat (show (t - 1).toNat < (topS x a).length by rw [topS_len]; omega)]
    have e3 : (((t - 1).toNat : Nat) : Int) + 1 = t := by omega
    simp only [topS, List.getElem_map, List.getElem_range, e3, Option.getD_some]
theorem topS_true (h : csheet x = 0) (hP : Pot x) (a0 : 0 ≤ a) (a1 : a ≤ x.1) : cspeeds x (topS x a) = 0 := by
  obtain ⟨h1, h2, h3, _⟩ := csheet_ok h
  refine pot_true h (by rw [topS_len]; omega) fun r hr => ?_
  have hok := whole_ok h r hr
  rw [topS_of hok.1 hok.2.1, topS_of hok.2.2.1 hok.2.2.2.1]
  have := D_rule h hP a0 a1 hr
  omega
theorem ways_l1 (h : csheet x = 0) (hP : Pot x) (a0 : 0 ≤ a) (a1 : a ≤ x.1) {M : List (List Int)} (hM : MD x M) : ∀ (m k : Nat), k ≤ x.1.toNat → x.1.toNat - k < m →
    law01_SpeedWays_l1 F x a M m ((List.range k).map fun (k : Nat) => D x a ((k : Int) + 1) - D x a 0) ((k : Int) + 1) = some (topS x a)
  | 0, k, _, hm => by omega
  | m + 1, k, hk, hm => by
    obtain ⟨h1, h2, h3, _⟩ := csheet_ok h
    unfold law01_SpeedWays_l1
    rw [w64_in (n := x.1 + 1) (by omega)]
    by_cases hlt : k < x.1.toNat
    · obtain ⟨r1, f1, _, f2⟩ := hM a a0 a1
      rw [if_pos (by simp; omega), f1]
      simp only [Option.bind_eq_bind, Option.bind_some]
      rw [f2 ((k : Int) + 1) (by omega) (by omega), f2 0 (by omega) (by omega)]
      simp only [Option.bind_some]
      have b1 := D_bd h hP (a := a) (t := (k : Int) + 1) a0 a1 (by omega) (by omega)
      have b2 := D_bd h hP (a := a) (t := 0) a0 a1 (by omega) (by omega)
      rw [w64_in (n := D x a ((k : Int) + 1) - D x a 0) (by omega), app_some (by simp only [List.length_map, List.length_range, List.length_cons, List.length_nil]; omega), w64_in (by omega)]
      simp only [Option.bind_some]
      have e : ((List.range k).map fun (k : Nat) => D x a ((k : Int) + 1) - D x a 0) ++ [D x a ((k : Int) + 1) - D x a 0] = (List.range (k + 1)).map fun (k : Nat) => D x a ((k : Int) + 1) - D x a 0 := by simp [List.range_succ]
      rw [e]
      exact ways_l1 h hP a0 a1 hM m (k + 1) (by omega) (by omega)
    · have : k = x.1.toNat := by omega
      subst this
      rw [if_neg (by simp; omega)]
      rfl
theorem speedWays_true (x : Int × List RR) (ts : Ar 3 (KI .u8)) (bys : List (KI .u16)) (names : List Int) (hts : ∀ y ∈ ts.l, (Lit.int .u8 y.v).wf = true) (hby : ∀ y ∈ bys, (Lit.int .u16 y.v).wf = true) : law01_SpeedWays FF x ts bys names = some true := by
  have hby := fun y hy => wf_u16 (hby y hy)
  unfold law01_SpeedWays
  have ex : (x.1, x.2) = x := rfl
  simp only [ex, Option.bind_eq_bind]
  rcases fine_cases (x := x) hF1 with ⟨e, h, hP, hl⟩ | e
  · rw [e]
    simp only [Option.bind_some, Bool.not_true, Bool.false_or]
    by_cases hc : (decide (40 < (bys.length : Int)) || decide (60 < (names.length : Int))) = true
    · rw [if_pos hc, worksF]
      rfl
    · rw [if_neg hc]
      simp only [Bool.or_eq_true, decide_eq_true_eq, not_or] at hc
      obtain ⟨h1, h2, h3, _⟩ := csheet_ok h
      have ht : ∀ i : Nat, i < 3 → ∃ y : KI .u8, ix ts.l (i : Int) = some y ∧ 0 ≤ y.v ∧ y.v ≤ 255 := fun i hi => by
        have hlen := ts.h
        exact ⟨_, ix_nat (show i < ts.l.length by omega), wf_u8 (hts _ (List.getElem_mem _))⟩
      obtain ⟨ya, ea, ya0, ya1⟩ := ht 0 (by omega)
      obtain ⟨yb, eb, yb0, yb1⟩ := ht 1 (by omega)
      obtain ⟨yc, ec, yc0, yc1⟩ := ht 2 (by omega)
      simp only [Int.natCast_zero] at ea
      have eb' : ix ts.l 1 = some yb := eb
      have ec' : ix ts.l 2 = some yc := ec
      rw [ea, eb', ec']
      simp only [Option.bind_some]
      rw [w64_in (n := x.1 + 1) (by omega), w64_in (n := ya.v) (by omega), w64_in (n := yb.v) (by omega), w64_in (n := yc.v) (by omega), rem_in (by omega), rem_in (by omega), rem_in (by omega)]
      simp only [Option.bind_some]
      have ka := tmod_in (n := x.1 + 1) ya0 (by omega)
      have kb := tmod_in (n := x.1 + 1) yb0 (by omega)
      have kc := tmod_in (n := x.1 + 1) yc0 (by omega)
      generalize ya.v.tmod (x.1 + 1) = a at ka
      generalize yb.v.tmod (x.1 + 1) = b at kb
      generalize yc.v.tmod (x.1 + 1) = c at kc
      obtain ⟨n1, w1, _, _⟩ := way_eq h hP (a := a) (b := b) (by omega) (by omega) (by omega) (by omega) hFF
      obtain ⟨n2, w2, _, _⟩ := way_eq h hP (a := b) (b := c) (by omega) (by omega) (by omega) (by omega) hFF
      obtain ⟨n3, w3, w4, w5⟩ := way_eq h hP (a := a) (b := c) (by omega) (by omega) (by omega) (by omega) hFF
      have b1 := D_bd h hP (a := a) (t := b) (by omega) (by omega) (by omega) (by omega)
      have b2 := D_bd h hP (a := b) (t := c) (by omega) (by omega) (by omega) (by omega)
      have b3 := D_bd h hP (a := a) (t := 0) (by omega) (by omega) (by omega) (by omega)
      have b4 := D_bd h hP (a := a) (t := c) (by omega) (by omega) (by omega) (by omega)
      have tri := D_tri h hP (a := a) (t := b) (u := c) (by omega) (by omega) (by omega) (by omega) (by omega) (by omega)
      have self := D_self h hP (a := a) (by omega) (by omega)
      obtain ⟨v, v1, v2, v3, v4⟩ := true_eq h hP (bys := bys) hby (by omega) hF1
      have q1 := v3.bd h hP (Int.le_refl _) (i := a) (by omega) (by omega)
      have q2 := v3.bd h hP (Int.le_refl _) (i := c) (by omega) (by omega)
      have q3 := v3 a c (by omega) (by omega) (by omega) (by omega)
      obtain ⟨M, m1, _, hM⟩ := far_pot h hF1 hP
      have htop := topS_true h hP (a := a) (by omega) (by omega)
      have hl1 := ways_l1 (F := FF) h hP (a := a) (by omega) (by omega) (M := M) hM FF 0 (Nat.zero_le _) (Nat.lt_of_le_of_lt (show x.1.toNat - 0 ≤ 21 by omega) (by decide))
      simp only [List.range_zero, List.map_nil, Int.natCast_zero, Int.zero_add] at hl1
      rw [w1, w2, w3]
      simp only [Option.bind_some, decide_true, Bool.not_true, Bool.false_eq_true, if_false]
      rw [w64_in (n := D x a b + D x b c) (by omega)]
      have e1 : decide (D x a b + D x b c < D x a c) = false := decide_eq_false (by omega)
      rw [e1]
      simp only [Bool.false_eq_true, if_false, refWay_eq hF1 (way := n3) (by omega), w4, v1, Option.bind_some, of_eq (s := v) (t := c) (by omega) (by omega) (by omega), of_eq (s := v) (t := a) (by omega) (by omega) (by omega), decide_true, Bool.not_true]
      rw [w64_in (n := ofS v c - ofS v a) (by omega)]
      have e2 : decide (D x a c < ofS v c - ofS v a) = false := decide_eq_false (by omega)
      rw [e2]
      simp only [Bool.false_eq_true, if_false, checkWay_eq hF1 (way := names) (by omega), Option.bind_some]
      rw [if_neg]
      · rw [m1]
        simp only [Option.bind_some]
        rw [hl1]
        have tl : ((topS x a).length : Int) = x.1 := by rw [topS_len]; omega
        simp only [Option.bind_some, speeds_eq hF2, htop, decide_true, if_true, of_eq (s := topS x a) (t := c) (by omega) (by omega) (by omega), of_eq (s := topS x a) (t := a) (by omega) (by omega) (by omega), topS_of (x := x) (a := a) (t := c) (by omega) (by omega), topS_of (x := x) (a := a) (t := a) (by omega) (by omega)]
        rw [self, w64_in (by omega), if_pos (by rw [decide_eq_true_eq]; omega), worksF]
        rfl
      · simp only [Bool.and_eq_true, decide_eq_true_eq, not_and, Int.not_lt]
        exact fun hw => cway_ge h hP (by omega) (by omega) (by omega) (by omega) hw
  · rw [e]
    simp only [Option.bind_some, Bool.not_false, Bool.true_or, if_true]
    rw [worksF]
    rfl
end
end Go.Proofs.Ythppacohnciinaa
