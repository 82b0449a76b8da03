/-
  SpeedSpans and SpeedProofs, in plain words. No condition.
-/
import Derived.Test.YthppacohnciinaaSpecM
import Derived.Test.YthppacohnciinaaSpecI
import Derived.Test.YthppacohnciinaaPureK
namespace Go.Proofs.Ythppacohnciinaa
open Go Go.Md Go.RowKit
section
variable {x : Int × List RR} {F : Nat} {a b t : Int}
theorem longs_l1 {l : List Int} (hl : l.length < 4611686018427387904) : ∀ (m k : Nat), k ≤ l.length → l.length - k < m → law01_longs_l1 F l l m (k : Int) = some (.inr ())
  | 0, k, _, h => by omega
  | m + 1, k, hk, h => by
    unfold law01_longs_l1
    by_cases hlt : k < l.length
    · have e : decide ((k : Int) < (l.length : Int)) = true := by simpa using hlt
      rw [if_pos e, ix_nat hlt]
      simp only [Option.bind_eq_bind, Option.bind_some]
      rw [if_neg (by simp), w64_in (by omega)]
      exact longs_l1 hl m (k + 1) (by omega) (by omega)
    · have e : ¬ decide ((k : Int) < (l.length : Int)) = true := by simpa using hlt
      rw [if_neg e]
theorem longs_same {l : List Int} (hF : l.length < F) (hl : l.length < 4611686018427387904) : law01_longs F l l = some true := by
  unfold law01_longs
  rw [if_neg (by simp)]
  have := longs_l1 (F := F) hl F 0 (Nat.zero_le _) (by omega)
  simp only [Int.natCast_zero] at this
  rw [this]
  rfl
theorem endsS_len {high : Bool} : (endsS x high).1.length ≤ 20 := by
  by_cases h : csheet x = 0
  · by_cases hP : Pot x
    · rw [en2 h hP]
      have := (csheet_ok h).2.2.1
      simp only [endsL_len]
      omega
    · rw [en3 h hP]; simp
  · rw [en1 h]; simp
theorem co1 (h : csheet x ≠ 0) : costS x a b = (0, csheet x) := by unfold costS; rw [if_pos h]
theorem co2 (h : csheet x = 0) (hab : (inR 0 x.1 a && inR 0 x.1 b) = false) : costS x a b = (0, 2) := by unfold costS; rw [if_neg (fun e => e h), if_neg (by rw [hab]; simp)]
theorem co3 (h : csheet x = 0) (hab : (inR 0 x.1 a && inR 0 x.1 b) = true) (hP : Pot x) : costS x a b = (D x a b, 0) := by unfold costS; rw [if_neg (fun e => e h), if_pos hab, if_pos hP]
theorem co4 (h : csheet x = 0) (hab : (inR 0 x.1 a && inR 0 x.1 b) = true) (hP : ¬ Pot x) : costS x a b = (0, 21) := by unfold costS; rw [if_neg (fun e => e h), if_pos hab, if_neg hP]
theorem way_cases (hF : 100000000000000000 ≤ F) : ∃ names, speed_Way F x a b = some (names, (costS x a b).1, (costS x a b).2) ∧ ((costS x a b).2 = 0 → cway x a b names = ((costS x a b).1, 0)) ∧ ((costS x a b).2 ≠ 0 → names = []) ∧ names.length ≤ 60 := by
  by_cases h : csheet x = 0
  · cases hab : (inR 0 x.1 a && inR 0 x.1 b) with
    | false =>
      rw [co2 h hab]
      exact ⟨[], way_out h hab (by omega), fun e => (by cases e), fun _ => rfl, by simp⟩
    | true =>
      have hab' := hab
      simp only [inR, Bool.and_eq_true, decide_eq_true_eq] at hab'
      obtain ⟨⟨a0, a1⟩, b0, b1⟩ := hab'
      by_cases hP : Pot x
      · rw [co3 h hab hP]
        obtain ⟨names, e1, e2, e3⟩ := way_eq h hP a0 a1 b0 b1 hF
        exact ⟨names, e1, fun _ => e2, fun e => (e rfl).elim, e3⟩
      · rw [co4 h hab hP]
        exact ⟨[], way_circ h hab hP (by omega), fun e => (by cases e), fun _ => rfl, by simp⟩
  · rw [co1 h]
    exact ⟨[], way_no h (by omega), fun e => (h e).elim, fun _ => rfl, by simp⟩
theorem great_eq : law01_great x = some (decide (70 < (x.2.length : Int))) := rfl
theorem speedSpans_true (x : Int × List RR) (t u : Int) (high : Bool) (v : Int) : law01_SpeedSpans FF x t u high v = some true := by
  unfold law01_SpeedSpans
  have ex : (x.1, x.2) = x := rfl
  have hFF : 100000000000000000 ≤ FF := Nat.le_refl _
  have hF1 : 1000 ≤ FF := by decide
  simp only [ex, great_eq, Option.bind_eq_bind, Option.bind_some, worksF]
  cases hg : decide (70 < (x.2.length : Int)) with
  | true => rfl
  | false =>
    obtain ⟨names, e1, e2, e3, e4⟩ := way_cases (x := x) (a := t) (b := u) hFF
    have el := endsS_len (x := x) (high := high)
    rw [if_neg (by simp)]
    simp only [span_eq hFF, refSpan_eq hF1, Ends_eq hFF, refEnds_eq hF1, sung_eq hFF, refSung_eq hF1, e1, refCost_eq hF1, Option.bind_some, decide_true, Bool.not_true, Bool.false_eq_true, if_false]
    rw [longs_same (by omega) (by omega)]
    simp only [Option.bind_some, Bool.not_true, Bool.false_eq_true, if_false]
    by_cases h0 : (costS x t u).2 = 0
    · rw [if_neg (by simp [h0]), refWay_eq hF1 (by omega), e2 h0]
      simp
    · rw [if_pos (by simp [h0]), e3 h0]
      simp
theorem speedProofs_true (x : Int × List RR) (t u : Int) (way : List Int) : law01_SpeedProofs FF x t u way = some true := by
  unfold law01_SpeedProofs
  have ex : (x.1, x.2) = x := rfl
  have hF1 : 1000 ≤ FF := by decide
  simp only [ex, great_eq, Option.bind_eq_bind, Option.bind_some, worksF]
  by_cases hg : (decide (70 < (x.2.length : Int)) || decide (80 < (way.length : Int))) = true
  · rw [if_pos hg]
  · rw [if_neg hg]
    simp only [Bool.or_eq_true, decide_eq_true_eq, not_or] at hg
    have hl : way.length < 1000000 := by omega
    simp only [checkWay_eq hF1 hl, refWay_eq hF1 hl, checkCircle_eq hF1 hl, refCircle_eq hF1 hl, refSheet_eq (show 100 < FF by decide), Option.bind_some, decide_true, Bool.not_true, Bool.false_eq_true, if_false]
    by_cases h : csheet x = 0
    · obtain ⟨c1, c2⟩ := clashes_eq h (F := FF) hF1
      rcases circ_eq h hF1 with ⟨hP, e1⟩ | ⟨hP, e0, al, e1, hc⟩
      · rw [e1]
        simp only [Option.bind_some]
        rw [if_neg (by simp [h]), c1 hP]
        rfl
      · have hl := hc.len
        rw [e1]
        simp only [Option.bind_some]
        rw [if_neg (by simp [h]), c2 hP]
        simp only [Option.bind_some]
        rw [if_neg (by simp), if_pos (by simp), refCircle_eq hF1 (by simp; omega), circ_ok h hc]
        rfl
    · rw [circ_no h hF1]
      simp only [Option.bind_some]
      rw [if_pos (by simp [h])]
      simp
end
end Go.Proofs.Ythppacohnciinaa
