/-
  Laws in plain Lean, with no program in sight. Condition: each section says its own.
-/
import Derived.Test.YthppacohnciinaaLawO
import Derived.Test.YthppacohnciinaaArgs2
import Derived.Test.YthppacohnciinaaPureL
set_option linter.unusedVariables false
set_option linter.unusedSimpArgs false
/-! SpeedNarrower, in plain words. Condition: the sheet takes no more than memory holds. -/
namespace Go.Proofs.Ythppacohnciinaa
open Go Go.Md Go.RowKit
section
variable {x : Int × List RR} {F : Nat} {a b t : Int} {q : RR}
/-- The sheet with one rule more. -/
def more1 (x : Int × List RR) (q : RR) : Int × List RR := (x.1, x.2 ++ [q])
theorem more_whole : ∀ r, r ∈ whole (more1 x q) ↔ r ∈ whole x ∨ r = q := by
  intro r
  simp only [whole, more1, List.mem_append, List.mem_singleton]
  constructor
  · rintro ((h | h) | h)
    · exact .inl (.inl h)
    · exact .inr h
    · exact .inl (.inr h)
  · rintro ((h | h) | h)
    · exact .inl (.inl h)
    · exact .inr h
    · exact .inl (.inr h)
theorem PC.mono {R S : List RR} (h : ∀ r ∈ R, r ∈ S) {a t c : Int} (hp : PC R a t c) : PC S a t c := by
  induction hp with
  | nil => exact .nil
  | snoc _ hr hu ih => exact .snoc ih (h _ hr) hu
theorem more_pc {c : Int} (hp : PC (whole x) a t c) : PC (whole (more1 x q)) a t c := hp.mono fun r hr => (more_whole r).2 (.inl hr)
/-- A way by the rules with one more goes by it, or does not. -/
theorem more_split {v c : Int} (hp : PC (whole (more1 x q)) q.1 v c) : PC (whole x) q.1 v c ∨ ∃ c1 c2, PC (whole (more1 x q)) q.1 q.1 c1 ∧ PC (whole (more1 x q)) q.2.1 v c2 ∧ c = c1 + q.2.2 + c2 := by
  induction hp with
  | nil => exact .inl .nil
  | @snoc u c r h hr hu ih =>
    rcases ih with h1 | ⟨c1, c2, h1, h2, h3⟩
    · rcases (more_whole r).1 hr with hr' | rfl
      · exact .inl (.snoc h1 hr' hu)
      · right
        rw [← hu] at h1
        exact ⟨c, 0, more_pc h1, .nil, by omega⟩
    · exact .inr ⟨c1, c2 + r.2.2, h1, .snoc h2 hr hu, by omega⟩
/-- If the rule allows no less than a way does, each way has one by the rules before that costs no more. -/
theorem more_same {n : Int} (hn : PC (whole x) q.1 q.2.1 n) (hle : n ≤ q.2.2) {v c : Int} (hp : PC (whole (more1 x q)) a v c) : ∃ d, PC (whole x) a v d ∧ d ≤ c := by
  induction hp with
  | nil => exact ⟨0, .nil, by omega⟩
  | @snoc u c r h hr hu ih =>
    obtain ⟨d, h1, h2⟩ := ih
    rcases (more_whole r).1 hr with hr' | rfl
    · exact ⟨d + r.2.2, .snoc h1 hr' hu, by omega⟩
    · rw [← hu] at h1
      exact ⟨d + n, h1.trans hn, by omega⟩
theorem more_pot (h : csheet x = 0) (hP : Pot x) (hz : csheet (more1 x q) = 0) (hle : D x q.1 q.2.1 ≤ q.2.2) : Pot (more1 x q) := by
  have hok := whole_ok hz q ((more_whole q).2 (.inr rfl))
  have x1 : (more1 x q).1 = x.1 := rfl
  obtain ⟨o1, o2, o3, o4, _⟩ := hok
  rw [x1] at o2 o4
  refine ⟨D x q.1, fun r hr => ?_⟩
  rcases (more_whole r).1 hr with hr | rfl
  · exact D_rule h hP o1 o2 hr
  · rw [D_self h hP o1 o2]; omega
theorem more_D_le (h : csheet x = 0) (hP : Pot x) (hz : csheet (more1 x q) = 0) (hQ : Pot (more1 x q)) (a0 : 0 ≤ a) (a1 : a ≤ x.1) (t0 : 0 ≤ t) (t1 : t ≤ x.1) : D (more1 x q) a t ≤ D x a t :=
  (D_dist hz hQ a0 a1 t0 t1).2 _ (more_pc (D_dist h hP a0 a1 t0 t1).1)
theorem more_D_same (h : csheet x = 0) (hP : Pot x) (hz : csheet (more1 x q) = 0) (hQ : Pot (more1 x q)) (hle : D x q.1 q.2.1 ≤ q.2.2) (a0 : 0 ≤ a) (a1 : a ≤ x.1) (t0 : 0 ≤ t) (t1 : t ≤ x.1) : D (more1 x q) a t = D x a t := by
  have hok := whole_ok hz q ((more_whole q).2 (.inr rfl))
  have x1 : (more1 x q).1 = x.1 := rfl
  obtain ⟨o1, o2, o3, o4, _⟩ := hok
  rw [x1] at o2 o4
  obtain ⟨d, d1, d2⟩ := more_same (D_dist h hP o1 o2 o3 o4).1 hle (D_dist hz hQ a0 a1 t0 t1).1
  have := (D_dist h hP a0 a1 t0 t1).2 _ d1
  have := more_D_le h hP hz hQ a0 a1 t0 t1
  omega
theorem more_D_q (h : csheet x = 0) (hP : Pot x) (hz : csheet (more1 x q) = 0) (hQ : Pot (more1 x q)) : D (more1 x q) q.1 q.2.1 = if q.2.2 < D x q.1 q.2.1 then q.2.2 else D x q.1 q.2.1 := by
  have hmem := (more_whole (x := x) q).2 (.inr rfl)
  have hok := whole_ok hz q hmem
  have x1 : (more1 x q).1 = x.1 := rfl
  obtain ⟨o1, o2, o3, o4, _⟩ := hok
  rw [x1] at o2 o4
  by_cases hlt : q.2.2 < D x q.1 q.2.1
  · rw [if_pos hlt]
    have dz := D_dist hz hQ (a := q.1) (t := q.2.1) o1 o2 o3 o4
    have e1 := dz.2 _ (PC.one hmem)
    rcases more_split dz.1 with h1 | ⟨c1, c2, h1, h2, h3⟩
    · have := (D_dist h hP o1 o2 o3 o4).2 _ h1
      omega
    · have := h1.loop hQ
      have := h2.loop hQ
      omega
  · rw [if_neg hlt]
    exact more_D_same h hP hz hQ (by omega) o1 o2 o3 o4
theorem more_true {s : List Int} (h : csheet x = 0) (hs : cspeeds (more1 x q) s = 0) : cspeeds x s = 0 := by
  obtain ⟨_, h2, _, h4⟩ := true_pot hs
  exact pot_true h h2 fun r hr => h4 r ((more_whole r).2 (.inl hr))
theorem speedNarrower_true (x : Int × List RR) (q : RR) (u : Int) (given : List Int) (hl : x.2.length * 24 ≤ 140737488351232) (hu : (Lit.int .u8 u).wf = true) : law01_SpeedNarrower FF x q u given = some true := by
  have hu := wf_u8 hu
  unfold law01_SpeedNarrower
  have ex : (x.1, x.2) = x := rfl
  have eq3 : (q.1, q.2.1, q.2.2) = q := rfl
  have a1 : app 24 ([] : List RR) x.2 = some x.2 := by
    rw [app_some (by simp only [List.length_nil]; omega)]
    rfl
  have a2 : app 24 x.2 [q] = some (x.2 ++ [q]) := app_some (by simp only [List.length_cons, List.length_nil]; omega)
  have em : (x.1, x.2 ++ [q]) = more1 x q := rfl
  have em2 : ((more1 x q).1, (more1 x q).2) = more1 x q := rfl
  simp only [ex, eq3, a1, a2, em, em2, Option.bind_eq_bind, Option.bind_some, worksF]
  rcases fine_cases (x := x) hF1 with ⟨e, h, hP, hl⟩ | e
  · rw [e]
    simp only [Option.bind_some, Bool.not_true, Bool.not_false, gd, cond_true, Bool.false_or, great_eq, refSheet_eq (show 100 < FF by decide)]
    by_cases hg : 70 < (more1 x q).2.length
    · have : decide (70 < ((more1 x q).2.length : Int)) = true := by rw [decide_eq_true_eq]; omega
      simp only [this, Bool.not_true, cond_false, Option.bind_some, Bool.true_or, if_true]
    · have : decide (70 < ((more1 x q).2.length : Int)) = false := decide_eq_false (by omega)
      simp only [this, Bool.not_false, cond_true, Option.bind_some, Bool.false_or]
      by_cases hc : (!decide (csheet (more1 x q) = 0) || decide (40 < (given.length : Int))) = true
      · rw [if_pos hc]
      · rw [if_neg hc]
        simp only [Bool.or_eq_true, Bool.not_eq_true', decide_eq_false_iff_not, decide_eq_true_eq, not_or, Classical.not_not] at hc
        obtain ⟨hz, hgl⟩ := hc
        have hok := whole_ok hz q ((more_whole q).2 (.inr rfl))
        have x1 : (more1 x q).1 = x.1 := rfl
        obtain ⟨o1, o2, o3, o4, _⟩ := hok
        rw [x1] at o2 o4
        obtain ⟨h1, h2, h3, _⟩ := csheet_ok h
        have hu2 := tmod_in (n := x.1) hu.1 (by omega)
        rw [w64_in (n := u) (by omega), rem_in (by omega)]
        simp only [Option.bind_some]
        generalize u.tmod x.1 = k at hu2
        have ht : inR 1 x.1 (1 + k) = true := by simp [inR]; omega
        have ht2 : inR 1 (more1 x q).1 (1 + k) = true := ht
        have ew : w64 (1 + k) = 1 + k := w64_in (by omega)
        obtain ⟨n1, w1, w2, w3⟩ := way_eq h hP (a := q.1) (b := q.2.1) o1 o2 o3 o4 hFF
        simp only [ew, span_eq hFF, sp3 h ht hP, w1, Option.bind_some, decide_true, Bool.not_true, Bool.or_self, Bool.not_false, cond_true, Bool.true_and, speeds_eq hF2, Bool.false_or]
        have hgo : ∀ (K : Option Bool), (((if decide (cspeeds (more1 x q) given = 0) then (some (cspeeds x given)) else some 0 : Option Int).bind fun x15 => if (decide (cspeeds (more1 x q) given = 0) && !decide (x15 = 0)) = true then some false else K)) = K := by
          intro K
          by_cases hs : cspeeds (more1 x q) given = 0
          · have := more_true h hs
            simp [hs, this]
          · simp [hs]
        have hcond : ∀ (b : Bool) (α : Type) (s t : α), (cond b s t) = if b = true then s else t := fun b α s t => by cases b <;> rfl
        simp only [hcond]
        rw [hgo]
        obtain ⟨c1, c2⟩ := clashes_eq hz (F := FF) hF1
        by_cases hQ : Pot (more1 x q)
        · rw [sp3 hz ht2 hQ, c1 hQ]
          obtain ⟨n2, w4, w5, w6⟩ := way_eq hz hQ (a := q.1) (b := q.2.1) o1 o2 o3 o4 hFF
          have dq := more_D_q h hP hz hQ
          have l1 := more_D_le h hP hz hQ (a := 1 + k) (t := 0) (by omega) (by omega) (by omega) (by omega)
          have l2 := more_D_le h hP hz hQ (a := 0) (t := 1 + k) (by omega) (by omega) (by omega) (by omega)
          have l3 := ((D_dist hz hQ (a := 0) (t := 1 + k) (by omega) (by rw [x1]; omega) (by omega) (by rw [x1]; omega)).1.trans (D_dist hz hQ (a := 1 + k) (t := 0) (by omega) (by rw [x1]; omega) (by omega) (by rw [x1]; omega)).1).loop hQ
          simp only [Option.bind_some, Bool.false_eq_true, if_false, w4, decide_true, if_true, law01_inside]
          have i1 : ((decide (-D x (1 + k) 0 ≤ -D (more1 x q) (1 + k) 0) && decide (D (more1 x q) 0 (1 + k) ≤ D x 0 (1 + k))) && decide (-D (more1 x q) (1 + k) 0 ≤ D (more1 x q) 0 (1 + k))) = true := by
            simp only [Bool.and_eq_true, decide_eq_true_eq]
            omega
          rw [if_pos i1, if_pos (by rw [decide_eq_true_eq]; exact dq)]
          by_cases hlt : q.2.2 < D x q.1 q.2.1
          · rw [if_pos (by rw [decide_eq_true_eq]; exact hlt)]
            rfl
          · rw [if_neg (by rw [decide_eq_true_eq]; exact hlt), more_D_same h hP hz hQ (by omega) (a := 1 + k) (t := 0) (by omega) (by omega) (by omega) (by omega), more_D_same h hP hz hQ (by omega) (a := 0) (t := 1 + k) (by omega) (by omega) (by omega) (by omega)]
            simp
        · rw [sp4 hz ht2 hQ, c2 hQ]
          have hlt : q.2.2 < D x q.1 q.2.1 := Classical.byContradiction fun hn => hQ (more_pot h hP hz (by omega))
          simp [hlt]
  · rw [e]
    simp only [Option.bind_some, Bool.not_false, Bool.not_true, gd, cond_false, Bool.true_or, if_true]
end
end Go.Proofs.Ythppacohnciinaa
