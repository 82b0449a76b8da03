/-
  Laws in plain Lean, with no program in sight. Condition: each section says its own.
-/
import Derived.Test.YthppacohnciinaaLawO
import Derived.Test.YthppacohnciinaaArgs2
import Derived.Test.YthppacohnciinaaPureE
set_option linter.unusedVariables false
set_option linter.unusedSimpArgs false
/-! SpeedHeard, in plain words. No condition. -/
namespace Go.Proofs.Ythppacohnciinaa
open Go Go.Md Go.RowKit
section
/-- The sheet of a pipe's two rules. -/
def pipeX (c g : Int) : Int × List RR := (1, [(0, 1, g), (1, 0, 0 - c)])
variable {c g : Int}
theorem pipe_whole : ∀ r, r ∈ whole (pipeX c g) ↔ r = (0, 1, g) ∨ r = (1, 0, 0 - c) ∨ r = (0, 1, 100000) ∨ r = (1, 0, 0) := by
  intro r
  have e : whole (pipeX c g) = [(0, 1, g), (1, 0, 0 - c), (0, 1, 100000), (1, 0, 0)] := rfl
  rw [e]
  simp
theorem pipe_sheet (c1 : 1 ≤ c) (c2 : c ≤ g) (g1 : g ≤ 100000) : csheet (pipeX c g) = 0 := by
  have e1 : okRule 1 (0, 1, g) = true := by simp [okRule, inR]; omega
  have e2 : okRule 1 (1, 0, 0 - c) = true := by simp [okRule, inR]; omega
  have e3 : ([(0, 1, g), (1, 0, 0 - c)] : List RR).all (okRule 1) = true := by simp only [List.all_cons, List.all_nil, e1, e2, Bool.and_self]
  unfold csheet pipeX
  rw [if_neg (by simp), if_pos (show inR 1 20 1 = true from rfl), if_pos e3]
theorem pipe_pot {v : Int} (c1 : 1 ≤ c) (g1 : g ≤ 100000) (v0 : c ≤ v) (v1 : v ≤ g) : ∀ r ∈ whole (pipeX c g), (fun t : Int => if t = 0 then 0 else v) r.2.1 ≤ (fun t : Int => if t = 0 then 0 else v) r.1 + r.2.2 := by
  intro r hr
  rcases (pipe_whole r).1 hr with rfl | rfl | rfl | rfl
  · simp; omega
  · simp; omega
  · simp; omega
  · simp; omega
theorem pipe_D (c1 : 1 ≤ c) (c2 : c ≤ g) (g1 : g ≤ 100000) : Pot (pipeX c g) ∧ D (pipeX c g) 0 1 = g ∧ D (pipeX c g) 1 0 = 0 - c := by
  have hx := pipe_sheet c1 c2 g1
  have hP : Pot (pipeX c g) := ⟨fun t => if t = 0 then 0 else c, pipe_pot c1 g1 (Int.le_refl c) c2⟩
  have x1 : (pipeX c g).1 = 1 := rfl
  have d1 := D_dist hx hP (a := 0) (t := 1) (by omega) (by omega) (by omega) (by omega)
  have d2 := D_dist hx hP (a := 1) (t := 0) (by omega) (by omega) (by omega) (by omega)
  refine ⟨hP, ?_, ?_⟩
  · have u := d1.2 _ (PC.one ((pipe_whole _).2 (.inl rfl)))
    have l := d1.1.pot (p := fun t => if t = 0 then 0 else g) (pipe_pot c1 g1 c2 (Int.le_refl g))
    simp at u l
    omega
  · have u := d2.2 _ (PC.one ((pipe_whole _).2 (.inr (.inl rfl))))
    have l := d2.1.pot (p := fun t => if t = 0 then 0 else c) (pipe_pot c1 g1 (Int.le_refl c) c2)
    simp at u l
    omega
theorem pipe_speeds {v : Int} (c1 : 1 ≤ c) (c2 : c ≤ g) (g1 : g ≤ 100000) : cspeeds (pipeX c g) [v] = 0 ↔ c ≤ v ∧ v ≤ g := by
  have hx := pipe_sheet c1 c2 g1
  have o0 : ofS [v] 0 = 0 := rfl
  have o1 : ofS [v] 1 = v := rfl
  constructor
  · intro h
    have hp := (true_pot h).2.2.2
    have e1 := hp _ ((pipe_whole _).2 (.inl rfl))
    have e2 := hp _ ((pipe_whole _).2 (.inr (.inl rfl)))
    simp only [o0, o1] at e1 e2
    omega
  · rintro ⟨h1, h2⟩
    refine pot_true hx rfl fun r hr => ?_
    rcases (pipe_whole r).1 hr with rfl | rfl | rfl | rfl
    · simp only [o0, o1]; omega
    · simp only [o0, o1]; omega
    · simp only [o0, o1]; omega
    · simp only [o0, o1]; omega
theorem heard_eq {p v l h : Int} (p0 : 1 ≤ p) (p1 : p ≤ 1000000) (l0 : 1 ≤ l) (l1 : l ≤ h) (h1 : h ≤ 1000000) (v0 : 0 ≤ v) (v1 : v ≤ 100000) :
    ref01_Heard p v (l, h) = some (decide ((p * 16000 + h - 1) / h ≤ v) && decide (v ≤ (p * 16000) / l)) := by
  unfold ref01_Heard
  have m1 : l * v ≤ 1000000 * 100000 := Int.mul_le_mul (by omega) v1 v0 (by omega)
  have m2 : h * v ≤ 1000000 * 100000 := Int.mul_le_mul (by omega) v1 v0 (by omega)
  have m3 : 0 ≤ l * v := Int.mul_nonneg (by omega) v0
  have m4 : 0 ≤ h * v := Int.mul_nonneg (by omega) v0
  rw [w64_in (n := l * v) (by omega), w64_in (n := h * v) (by omega), w64_in (n := p * 16000) (by omega)]
  have e1 : (v ≤ (p * 16000) / l) ↔ l * v ≤ p * 16000 := by rw [Int.le_ediv_iff_mul_le (by omega), Int.mul_comm]
  have e2 : ((p * 16000 + h - 1) / h ≤ v) ↔ p * 16000 ≤ h * v := by
    have : (p * 16000 + h - 1) / h < v + 1 ↔ p * 16000 + h - 1 < (v + 1) * h := Int.ediv_lt_iff_lt_mul (by omega)
    rw [Int.add_mul, Int.one_mul, Int.mul_comm v h] at this
    constructor
    · intro h'; have := this.1 (by omega); omega
    · intro h'; have := this.2 (by omega); omega
  simp only [e1, e2]
  by_cases hv : 0 < v
  · rw [decide_eq_true hv, Bool.true_and, Bool.and_comm]
  · have : v = 0 := by omega
    subst this
    have e3 : ¬ p * 16000 ≤ h * 0 := by omega
    rw [decide_eq_false e3, Bool.false_and, decide_eq_false hv]
    rfl
theorem tdiv_pos {a b : Int} (ha : 0 ≤ a) : a.tdiv b = a / b := Int.tdiv_eq_ediv_of_nonneg ha
/-- What the two rules of a pipe are. -/
theorem pipe_rules {F : Nat} (hF : 3 < F) {p l h : Int} (p0 : 1 ≤ p) (p1 : p ≤ 1000000) (l0 : 1 ≤ l) (l1 : l ≤ h) (h1 : h ≤ 1000000) :
    ∃ c q : Int, (p * 16000 + h - 1) / h = c ∧ (p * 16000) / l = q ∧ 1 ≤ c ∧ speed_Pipe F 1 p (l, h) = some (if (if q < 100000 then q else 100000) < c then ([], 17) else ((pipeX c (if q < 100000 then q else 100000)).2, 0)) := by
  refine ⟨_, _, rfl, rfl, ?_, ?_⟩
  · rw [Int.le_ediv_iff_mul_le (by omega)]; omega
  · unfold speed_Pipe speed_up__int64
    rw [turns_eq (by simp; omega) (by simp), tone_eq (by simp; omega) (by simp)]
    have c0 : 1 ≤ (p * 16000 + h - 1) / h := by rw [Int.le_ediv_iff_mul_le (by omega)]; omega
    have c1 : (p * 16000 + h - 1) / h ≤ p * 16000 + h - 1 := Int.ediv_le_self _ (by omega)
    have q0 : 0 ≤ (p * 16000) / l := Int.ediv_nonneg (by omega) (by omega)
    have q1 : (p * 16000) / l ≤ p * 16000 := Int.ediv_le_self _ (by omega)
    have e1 : (inR 1 1000000 p && (inR 1 1000000 l && inR 1 1000000 h)) = true := by simp [inR]; omega
    have e2 : inR 1 20 1 = true := rfl
    simp only [Option.bind_eq_bind, Option.bind_some, List.all_cons, List.all_nil, Bool.and_true, e1, e2, Bool.not_true, Bool.false_or, Bool.false_eq_true, if_false]
    rw [if_neg (by simp; omega), w64_in (n := p * 16000) (by omega), w64_in (n := p * 16000 + h) (by omega), w64_in (n := p * 16000 + h - 1) (by omega), quo_some (show l ≠ 0 by omega), quo_some (show h ≠ 0 by omega), tdiv_pos (by omega), tdiv_pos (by omega)]
    simp only [Option.bind_some]
    rw [w64_in (n := p * 16000 / l) (by omega), w64_in (n := (p * 16000 + h - 1) / h) (by omega), w64_in (n := 0 - (p * 16000 + h - 1) / h) (by omega)]
    simp only [decide_eq_true_eq]
    split <;> split <;> rfl
theorem speedHeard_true (pipe lo wide v : Int) (hp : (Lit.int .u32 pipe).wf = true) (hl : (Lit.int .u32 lo).wf = true) (hw : (Lit.int .u32 wide).wf = true) (hv : (Lit.int .u32 v).wf = true) : law01_SpeedHeard FF pipe lo wide v = some true := by
  have hp := wf_u32 hp
  have hl := wf_u32 hl
  have hw := wf_u32 hw
  have hv := wf_u32 hv
  unfold law01_SpeedHeard law01_rg
  rw [w64_in (n := pipe) (by omega), w64_in (n := lo) (by omega), w64_in (n := wide) (by omega), w64_in (n := v) (by omega)]
  have kp := tmod_in (n := 1000000) hp.1 (by omega)
  have kl := tmod_in (n := 1000000) hl.1 (by omega)
  have kv := tmod_in (n := 100001) hv.1 (by omega)
  generalize pipe.tmod 1000000 = pm at kp
  generalize lo.tmod 1000000 = lm at kl
  generalize v.tmod 100001 = vm at kv
  rw [w64_in (n := 1 + pm) (by omega), w64_in (n := 1 + lm) (by omega), w64_in (n := 1 + lm + wide) (by omega)]
  obtain ⟨h, eh⟩ : ∃ h, h = (if 1 + lm + wide < 1000000 then 1 + lm + wide else 1000000) := ⟨_, rfl⟩
  have h0 : 1 + lm ≤ h ∧ h ≤ 1000000 := by rw [eh]; split <;> omega
  rw [← eh]
  obtain ⟨c, q, ec, eq, c1, epipe⟩ := pipe_rules (F := FF) (by decide) (p := 1 + pm) (l := 1 + lm) (h := h) (by omega) (by omega) (by omega) h0.1 h0.2
  simp only [Option.bind_eq_bind, Option.bind_some, epipe]
  obtain ⟨g, eg⟩ : ∃ g, g = (if q < 100000 then q else 100000) := ⟨_, rfl⟩
  have g0 : g ≤ 100000 ∧ ∀ w, w ≤ 100000 → (w ≤ q ↔ w ≤ g) := by
    rw [eg]
    refine ⟨by split <;> omega, fun w hw => by split <;> omega⟩
  rw [← eg]
  have hear : ∀ w, 0 ≤ w → w ≤ 100000 → ref01_Heard (1 + pm) w (1 + lm, h) = some (decide (c ≤ w) && decide (w ≤ g)) := fun w w0 w1 => by
    rw [heard_eq (by omega) (by omega) (by omega) h0.1 h0.2 w0 w1, ec, eq]
    simp only [g0.2 w w1]
  rw [hear vm kv.1 (by omega)]
  simp only [Option.bind_some, worksF]
  by_cases hgc : g < c
  · rw [if_pos hgc]
    have e : (decide (c ≤ vm) && decide (vm ≤ g)) = false := by
      by_cases a1 : c ≤ vm <;> by_cases a2 : vm ≤ g <;> simp [a1, a2] <;> omega
    simp [e]
  · rw [if_neg hgc]
    have ex : ((1 : Int), (pipeX c g).2) = pipeX c g := rfl
    have elen : ((pipeX c g).2.length : Int) = 2 := rfl
    have hx := pipe_sheet c1 (show c ≤ g by omega) g0.1
    obtain ⟨hP, d1, d2⟩ := pipe_D c1 (show c ≤ g by omega) g0.1
    have ht : inR 1 (pipeX c g).1 1 = true := rfl
    rw [if_neg (by simp)]
    simp only [ex, elen, decide_true, Bool.not_true, Bool.false_eq_true, if_false, Option.bind_some, refSheet_eq (show 100 < FF by decide), hx, span_eq hFF, sp3 hx ht hP, d1, d2, speeds_eq hF2, if_true]
    have ecs : decide (cspeeds (pipeX c g) [vm] = 0) = (decide (c ≤ vm) && decide (vm ≤ g)) := by
      rw [← Bool.decide_and]
      exact decide_eq_decide.2 (pipe_speeds c1 (by omega) g0.1)
    have en : -(0 - c) = c := by omega
    rw [ecs, if_pos (by simp), en, hear c (by omega) (by omega), hear g (by omega) g0.1]
    simp only [Option.bind_some]
    rw [if_pos (by simp; omega), if_pos (by simp; omega)]
    by_cases hcv : c ≤ vm
    · simp [hcv]
    · simp [hcv]
end
end Go.Proofs.Ythppacohnciinaa
