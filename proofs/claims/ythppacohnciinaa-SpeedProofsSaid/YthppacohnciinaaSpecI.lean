/-
  SpeedEither, in plain words: there are either true speeds, or a circle. No condition.
-/
import Derived.Test.YthppacohnciinaaSpecH
namespace Go.Proofs.Ythppacohnciinaa
open Go Go.Md Go.RowKit
abbrev FF : Nat := 100000000000000000
theorem worksF : law01_Works FF = some true := by kernel_rfl
theorem speedEither_true (x : Int × List RR) (s names : List Int) : law01_SpeedEither FF x s names = some true := by
  unfold law01_SpeedEither law01_great
  simp only [Option.bind_eq_bind, Option.bind_some, refSheet_eq (x := (x.1, x.2)) (show 100 < FF by decide)]
  have e : csheet (x.1, x.2) = csheet x := rfl
  rw [e]
  by_cases hg : 70 < x.2.length
  · have : decide (70 < (x.2.length : Int)) = true := by simp; omega
    simp only [this, Bool.not_true, gd, cond_false, Option.bind_some, Bool.true_or, if_true, worksF]
  · have : decide (70 < (x.2.length : Int)) = false := by simp; omega
    simp only [this, Bool.not_false, gd, cond_true, Option.bind_some, Bool.false_or]
    by_cases hc : ((!decide (csheet x = 0)) || decide (40 < (s.length : Int)) || decide (60 < (names.length : Int))) = true
    · rw [if_pos hc, worksF]
      rfl
    · rw [if_neg hc]
      simp only [Bool.or_eq_true, Bool.not_eq_true', decide_eq_false_iff_not, decide_eq_true_eq, not_or, Classical.not_not] at hc
      obtain ⟨⟨hx, hs⟩, hn⟩ := hc
      have ex : (x.1, x.2) = x := rfl
      rw [ex]
      rcases circ_eq hx (F := FF) (by decide) with ⟨hP, e1⟩ | ⟨hP, e0, a, e1, hci⟩
      · rw [e1, (ends_eq hx (F := FF) (by decide) false).1 hP]
        simp only [Option.bind_some]
        rw [if_neg (by decide), if_pos (by decide), if_pos (by decide), refSpeeds_eq (by decide), ends_true hx hP]
        simp only [Option.bind_some]
        rw [if_pos (by decide), checkCircle_eq (by decide) (by omega)]
        simp only [Option.bind_some]
        rw [if_pos (by simp only [Bool.not_eq_true', decide_eq_false_iff_not]; exact fun h => circle_no_pot h hP), worksF]
        rfl
      · rw [e1, (ends_eq hx (F := FF) (by decide) false).2 hP]
        simp only [Option.bind_some]
        have hl := hci.len
        rw [if_pos (by decide), if_pos (by decide), if_pos (by decide), checkCircle_eq (by decide) (by simp; omega), refCircle_eq (by decide) (by simp; omega), circ_ok hx hci]
        simp only [Option.bind_some]
        rw [if_pos (by decide), if_pos (by decide), speeds_eq (by decide)]
        simp only [Option.bind_some]
        rw [if_pos (by
          simp only [Bool.not_eq_true', decide_eq_false_iff_not]
          exact fun h => hP ⟨ofS s, (true_pot h).2.2.2⟩), worksF]
        rfl
end Go.Proofs.Ythppacohnciinaa
