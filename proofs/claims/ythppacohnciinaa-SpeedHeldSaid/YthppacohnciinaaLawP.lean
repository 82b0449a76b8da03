/-
  Laws in plain Lean, with no program in sight. Condition: each section says its own.
-/
import Derived.Test.YthppacohnciinaaLawO
import Derived.Test.YthppacohnciinaaArgs2
import Derived.Test.YthppacohnciinaaPureK
set_option linter.unusedVariables false
set_option linter.unusedSimpArgs false
/-! SpeedHeld, in plain words. No condition. -/
namespace Go.Proofs.Ythppacohnciinaa
open Go Go.Md Go.RowKit
section
variable {x : Int × List RR} {F : Nat} {a b t : Int}
/-! ### SpeedHeld -/
theorem held_one (h : csheet x = 0) (hP : Pot x) {s : List Int} (hs : cspeeds x s = 0) {u : Int} (u0 : 0 ≤ u) (u1 : u < x.1) :
    ix s (w64 (w64 (1 + u) - 1)) = some (ofS s (1 + u)) ∧ -D x (1 + u) 0 ≤ ofS s (1 + u) ∧ ofS s (1 + u) ≤ D x 0 (1 + u) := by
  obtain ⟨h1, h2, h3, _⟩ := csheet_ok h
  have hl := (true_pot hs).2.1
  have z : ofS s 0 = 0 := rfl
  have e1 := true_dist h hP hs (a := 0) (b := 1 + u) (by omega) (by omega) (by omega) (by omega)
  have e2 := true_dist h hP hs (a := 1 + u) (b := 0) (by omega) (by omega) (by omega) (by omega)
  rw [z] at e1 e2
  rw [w64_in (n := 1 + u) (by omega)]
  exact ⟨ix_of (by omega) (by omega) (by omega), by omega, by omega⟩
theorem held_l1 (h : csheet x = 0) (hP : Pot x) {v given : List Int} {u : Int} (u0 : 0 ≤ u) (u1 : u < x.1) (hv : cspeeds x v = 0) (hF : 1000 ≤ F) (m : Nat) :
    law01_SpeedHeld_l1 F x given u ((-D x (1 + u) 0, D x 0 (1 + u)), 0) v (m + 3) 0 = some (.inr ()) := by
  have ex : (x.1, x.2) = x := rfl
  have step : ∀ (s : List Int) (y : Int) (k : Nat), ix [v, given] y = some s → (y = 0 → cspeeds x s = 0) → y < 2 → law01_SpeedHeld_l1 F x given u ((-D x (1 + u) 0, D x 0 (1 + u)), 0) v (k + 1) y = law01_SpeedHeld_l1 F x given u ((-D x (1 + u) 0, D x 0 (1 + u)), 0) v k (w64 (y + 1)) := by
    intro s y k e h0 hy
    conv => lhs; unfold law01_SpeedHeld_l1
    rw [if_pos (by simpa using hy), e]
    simp only [ex, Option.bind_eq_bind, Option.bind_some, speeds_eq (show 200 < F by omega), refSpeeds_eq (show 200 < F by omega), decide_true, Bool.not_true, Bool.false_or]
    have c1 : ¬ ((decide (y = 0) && !decide (cspeeds x s = 0)) = true) := by
      simp only [Bool.and_eq_true, decide_eq_true_eq, Bool.not_eq_true', decide_eq_false_iff_not, not_and, Classical.not_not]
      exact h0
    rw [if_neg c1]
    by_cases hs : cspeeds x s = 0
    · obtain ⟨e1, e2, e3⟩ := held_one h hP hs u0 u1
      rw [if_pos (by simpa using hs), e1]
      simp only [Option.bind_some]
      rw [if_neg (by simp; omega)]
      simp only [Option.bind_some]
      rw [if_neg (by simp; omega)]
    · rw [if_neg (by simpa using hs)]
      simp only [Option.bind_some]
      rw [if_neg (by simp)]
  rw [step v 0 (m + 2) rfl (fun _ => hv) (by omega), show w64 (0 + 1) = 1 from rfl, step given 1 (m + 1) rfl (fun e => by omega) (by omega), show w64 (1 + 1) = 2 from rfl]
  unfold law01_SpeedHeld_l1
  rw [if_neg (by decide)]
theorem speedHeld_true (x : Int × List RR) (bys : List (KI .u16)) (given : List Int) (u : Int) (hby : ∀ y ∈ bys, (Lit.int .u16 y.v).wf = true) (hu : (Lit.int .u8 u).wf = true) : law01_SpeedHeld FF x bys given u = some true := by
  have hby := fun y hy => wf_u16 (hby y hy)
  have hu := wf_u8 hu
  unfold law01_SpeedHeld
  have ex : (x.1, x.2) = x := rfl
  simp only [ex, Option.bind_eq_bind]
  rcases fine_cases (x := x) hF1 with ⟨e, h, hP, hl⟩ | e
  · rw [e]
    simp only [Option.bind_some, Bool.not_true, Bool.false_or]
    by_cases hc : (decide (40 < (bys.length : Int)) || decide (40 < (given.length : Int))) = true
    · rw [if_pos hc, worksF]
      rfl
    · rw [if_neg hc]
      simp only [Bool.or_eq_true, decide_eq_true_eq, not_or] at hc
      obtain ⟨h1, h2, h3, _⟩ := csheet_ok h
      have hu2 := tmod_in (n := x.1) hu.1 (by omega)
      simp only [Ends_eq hFF, en2 h hP, Option.bind_some, refSpeeds_eq hF2, speeds_eq hF2, ends_true h hP, decide_true, Bool.not_true, Bool.false_eq_true, if_false]
      rw [w64_in (n := u) (by omega), rem_in (by omega)]
      simp only [Option.bind_some]
      generalize u.tmod x.1 = k at hu2
      have ht : inR 1 x.1 (1 + k) = true := by simp [inR]; omega
      have ew : w64 (1 + k) = 1 + k := w64_in (by omega)
      obtain ⟨n1, w1, w2, w3⟩ := way_eq h hP (a := 0) (b := 1 + k) (by omega) (by omega) (by omega) (by omega) hFF
      obtain ⟨n2, w4, w5, w6⟩ := way_eq h hP (a := 1 + k) (b := 0) (by omega) (by omega) (by omega) (by omega) hFF
      have ho1 := ofS_ends (high := false) (t := 1 + k) h hP (by omega) (by omega)
      have ho2 := ofS_ends (high := true) (t := 1 + k) h hP (by omega) (by omega)
      rw [if_neg (by simp)] at ho1
      rw [if_pos rfl] at ho2
      have b1 := D_bd h hP (a := 1 + k) (t := 0) (by omega) (by omega) (by omega) (by omega)
      obtain ⟨v, v1, v2, v3, v4⟩ := true_eq h hP (bys := bys) hby (by omega) hF1
      have hl1 := held_l1 h hP (v := v) (given := given) (u := k) hu2.1 hu2.2 v4 hF1 (FF - 3)
      rw [show FF - 3 + 3 = FF by decide] at hl1
      simp only [ew, span_eq hFF, sp3 h ht hP, w1, w4, Option.bind_some, decide_true, Bool.not_true, Bool.false_eq_true, if_false]
      rw [ix_of (s := endsL x false) (k := 1 + k) (by omega) (by rw [endsL_len]; omega) (by rw [endsL_len]; omega), ix_of (s := endsL x true) (k := 1 + k) (by omega) (by rw [endsL_len]; omega) (by rw [endsL_len]; omega)]
      simp only [Option.bind_some, ho1, ho2, law01_rg, decide_true, Bool.not_true, Bool.false_eq_true, if_false]
      rw [w64_in (n := 0 - -D x (1 + k) 0) (by omega)]
      have e4 : decide (D x (1 + k) 0 = 0 - -D x (1 + k) 0) = true := by rw [decide_eq_true_eq]; omega
      rw [e4]
      simp only [Bool.not_true, Bool.false_eq_true, if_false, refWay_eq hF1 (way := n1) (by omega), refWay_eq hF1 (way := n2) (by omega), w2, w5, Option.bind_some, decide_true]
      rw [v1]
      simp only [Option.bind_some]
      rw [hl1, worksF]
      rfl
  · rw [e]
    simp only [Option.bind_some, Bool.not_false, Bool.true_or, if_true]
    rw [worksF]
    rfl

end
end Go.Proofs.Ythppacohnciinaa
