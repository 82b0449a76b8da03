/-
  Laws in plain Lean, with no program in sight. Condition: each section says its own.
-/
import Derived.Test.YthppacohnciinaaPureE
import Derived.IntWalk
import Derived.KernelRfl
import Derived.Test.YthppacohnciinaaManD
set_option linter.unusedVariables false
set_option linter.unusedSimpArgs false
/-! What the pure functions compute, in plain words: searches, valid sheets, rules of pipes and springs. Condition: there are enough rounds. -/
namespace Go.Proofs.Ythppacohnciinaa
open Go Go.Md Go.RowKit

theorem w64_in {n : Int} (h : -9223372036854775808 ≤ n ∧ n ≤ 9223372036854775807) : w64 n = n := IntWalk.i64_in n h

/-! ### Searches -/
def idxL {α : Type} (l : List α) (f : α → Option Bool) : Nat → Int → Option (Sum Int Unit)
  | 0, _ => none
  | m + 1, k =>
    if (decide (k < (l.length : Int))) = true then
      (ix l k) >>= fun x => (f x) >>= fun b => if b = true then some (.inl k) else idxL l f m (w64 (k + 1))
    else some (.inr ())

theorem ix_nat {α : Type} {l : List α} {k : Nat} (h : k < l.length) : ix l (k : Int) = some l[k] := by
  simp [ix, List.getElem?_eq_getElem h]

theorem idxL_any {α : Type} {l : List α} {f : α → Option Bool} {p : α → Bool} (hf : ∀ x ∈ l, f x = some (p x)) (hl : l.length < 4611686018427387904) :
    ∀ (m k : Nat), k ≤ l.length → l.length - k < m → ∃ r, idxL l f m (k : Int) = some r ∧ ((l.drop k).any p = true → ∃ j : Nat, r = .inl (j : Int)) ∧ ((l.drop k).any p = false → r = .inr ())
  | 0, k, _, h => by omega
  | m + 1, k, hk, h => by
    unfold idxL
    by_cases hlt : k < l.length
    · have e : decide ((k : Int) < (l.length : Int)) = true := by simpa using hlt
      rw [if_pos e, ix_nat hlt]
      have hd : l.drop k = l[k] :: l.drop (k + 1) := List.drop_eq_getElem_cons hlt
      have hfx := hf l[k] (List.getElem_mem hlt)
      simp only [Option.bind_eq_bind, Option.bind_some, hfx]
      cases hp : p l[k] with
      | true =>
        refine ⟨_, if_pos rfl, fun _ => ⟨k, rfl⟩, fun h => ?_⟩
        rw [hd, List.any_cons, hp] at h
        cases h
      | false =>
        rw [if_neg (by simp), w64_in (by omega)]
        obtain ⟨r, h1, h2, h3⟩ := idxL_any hf hl m (k + 1) (by omega) (by omega)
        refine ⟨r, h1, ?_, ?_⟩ <;> rw [hd, List.any_cons, hp, Bool.false_or] <;> assumption
    · have e : ¬ decide ((k : Int) < (l.length : Int)) = true := by simpa using hlt
      rw [if_neg e]
      have : l.drop k = [] := List.drop_of_length_le (by omega)
      refine ⟨_, rfl, ?_, fun _ => rfl⟩
      rw [this]
      intro h
      cases h

section
variable {α : Type} {f : α → Option Bool} {p : α → Bool}
theorem idx_int {l : List Int} {f : Int → Option Bool} (F : Nat) : ∀ m k, slices_IndexFunc_int_l1 F l f m k = idxL l f m k
  | 0, _ => rfl
  | m + 1, k => by unfold slices_IndexFunc_int_l1 idxL; simp only [idx_int F m]
theorem idx_int64 {l : List Int} {f : Int → Option Bool} (F : Nat) : ∀ m k, slices_IndexFunc_int64_l1 F l f m k = idxL l f m k
  | 0, _ => rfl
  | m + 1, k => by unfold slices_IndexFunc_int64_l1 idxL; simp only [idx_int64 F m]
theorem idx_rule {l : List (Int × Int × Int)} {f : (Int × Int × Int) → Option Bool} (F : Nat) : ∀ m k, slices_IndexFunc_api_SpeedRule_l1 F l f m k = idxL l f m k
  | 0, _ => rfl
  | m + 1, k => by unfold slices_IndexFunc_api_SpeedRule_l1 idxL; simp only [idx_rule F m]

theorem con_int {l : List Int} {f : Int → Option Bool} {p : Int → Bool} {F : Nat} (hf : ∀ x ∈ l, f x = some (p x)) (hF : l.length < F) (hl : l.length < 4611686018427387904) : slices_ContainsFunc_int F l f = some (l.any p) := by
  obtain ⟨r, h1, h2, h3⟩ := idxL_any hf hl F 0 (Nat.zero_le _) (by omega)
  unfold slices_ContainsFunc_int slices_IndexFunc_int
  rw [idx_int]
  simp only [Int.natCast_zero, List.drop_zero] at h1 h2 h3
  rw [h1]
  cases hp : l.any p with
  | true => obtain ⟨j, rfl⟩ := h2 hp; simp [Option.bind_eq_bind]
  | false => obtain rfl := h3 hp; simp [Option.bind_eq_bind]
theorem con_int64 {l : List Int} {f : Int → Option Bool} {p : Int → Bool} {F : Nat} (hf : ∀ x ∈ l, f x = some (p x)) (hF : l.length < F) (hl : l.length < 4611686018427387904) : slices_ContainsFunc_int64 F l f = some (l.any p) := by
  obtain ⟨r, h1, h2, h3⟩ := idxL_any hf hl F 0 (Nat.zero_le _) (by omega)
  unfold slices_ContainsFunc_int64 slices_IndexFunc_int64
  rw [idx_int64]
  simp only [Int.natCast_zero, List.drop_zero] at h1 h2 h3
  rw [h1]
  cases hp : l.any p with
  | true => obtain ⟨j, rfl⟩ := h2 hp; simp [Option.bind_eq_bind]
  | false => obtain rfl := h3 hp; simp [Option.bind_eq_bind]
theorem con_rule {l : List (Int × Int × Int)} {f : (Int × Int × Int) → Option Bool} {p : (Int × Int × Int) → Bool} {F : Nat} (hf : ∀ x ∈ l, f x = some (p x)) (hF : l.length < F) (hl : l.length < 4611686018427387904) : slices_ContainsFunc_api_SpeedRule F l f = some (l.any p) := by
  obtain ⟨r, h1, h2, h3⟩ := idxL_any hf hl F 0 (Nat.zero_le _) (by omega)
  unfold slices_ContainsFunc_api_SpeedRule slices_IndexFunc_api_SpeedRule
  rw [idx_rule]
  simp only [Int.natCast_zero, List.drop_zero] at h1 h2 h3
  rw [h1]
  cases hp : l.any p with
  | true => obtain ⟨j, rfl⟩ := h2 hp; simp [Option.bind_eq_bind]
  | false => obtain rfl := h3 hp; simp [Option.bind_eq_bind]
end

def inR (lo hi n : Int) : Bool := decide (lo ≤ n) && decide (n ≤ hi)
theorem any_inR {lo hi : Int} (l : List Int) : (!l.any fun n => decide (n < lo) || decide (hi < n)) = l.all (inR lo hi) := by
  induction l with
  | nil => rfl
  | cons a l ih =>
    simp only [List.any_cons, List.all_cons, Bool.not_or, ih, inR]
    congr 1
    by_cases h1 : a < lo <;> by_cases h2 : hi < a <;> simp [h1, h2] <;> omega
theorem turns_eq {F : Nat} {lo hi : Int} {l : List Int} (hF : l.length < F) (hl : l.length < 4611686018427387904) : speed_turns F lo hi l = some (l.all (inR lo hi)) := by
  unfold speed_turns
  rw [con_int (f := fun y => speed_turns_1 y lo hi) (p := fun n => decide (n < lo) || decide (hi < n)) (fun x _ => rfl) hF hl]
  simp only [Option.bind_eq_bind, Option.bind_some, any_inR]
theorem within_eq {F : Nat} {lo hi : Int} {l : List Int} (hF : l.length < F) (hl : l.length < 4611686018427387904) : speed_within F lo hi l = some (l.all (inR lo hi)) := by
  unfold speed_within
  rw [con_int64 (f := fun y => speed_within_1 y lo hi) (p := fun n => decide (n < lo) || decide (hi < n)) (fun x _ => rfl) hF hl]
  simp only [Option.bind_eq_bind, Option.bind_some, any_inR]

/-! ### Lists that are compared -/
theorem rules_l1 {F : Nat} {l : List (Int × Int × Int)} (hl : l.length < 4611686018427387904) : ∀ (m k : Nat), k ≤ l.length → l.length - k < m → law01_rules_l1 F l l m (k : Int) = some (.inr ())
  | 0, k, _, h => by omega
  | m + 1, k, hk, h => by
    unfold law01_rules_l1
    by_cases hlt : k < l.length
    · have e : decide ((k : Int) < (l.length : Int)) = true := by simpa using hlt
      rw [if_pos e, ix_nat hlt]
      simp only [Option.bind_eq_bind, Option.bind_some]
      rw [if_neg (by simp), w64_in (by omega)]
      exact rules_l1 hl m (k + 1) (by omega) (by omega)
    · have e : ¬ decide ((k : Int) < (l.length : Int)) = true := by simpa using hlt
      rw [if_neg e]
theorem rules_same {F : Nat} {l : List (Int × Int × Int)} (hF : l.length < F) (hl : l.length < 4611686018427387904) : law01_rules F l l = some true := by
  unfold law01_rules
  rw [if_neg (by simp)]
  have := rules_l1 (F := F) hl F 0 (Nat.zero_le _) (by omega)
  simp only [Int.natCast_zero] at this
  rw [this]
  rfl

/-! ### Pipes and springs -/
theorem tone_eq {F : Nat} {l : List Int} (hF : l.length < F) (hl : l.length < 4611686018427387904) : speed_tone F l = some (l.all (inR 1 1000000)) := by
  unfold speed_tone
  rw [within_eq hF hl]
  rfl
theorem quo_some {a b : Int} (h : b ≠ 0) : quo a b = some (w64 (a.tdiv b)) := by simp [quo, h]

theorem pipe_same {F : Nat} (hF : 3 < F) (t p : Int) (r : Int × Int) : ∃ l e, speed_Pipe F t p r = some (l, e) ∧ ref01_Pipe t p r = some (l, e) ∧ l.length ≤ 2 := by
  unfold speed_Pipe ref01_Pipe ref01_tone
  rw [turns_eq (by simp; omega) (by simp), tone_eq (by simp; omega) (by simp)]
  simp only [Option.bind_eq_bind, Option.bind_some, List.all_cons, List.all_nil, Bool.and_true, inR]
  by_cases h1 : decide (1 ≤ t) && decide (t ≤ 20)
  · have h1' : ¬ ((decide (t < 1)) || (decide (20 < t))) = true := by simp at h1 ⊢; omega
    rw [if_neg (by rw [h1]; simp), if_neg h1']
    by_cases h2 : ((decide (1 ≤ p) && decide (p ≤ 1000000)) && ((decide (1 ≤ r.1) && decide (r.1 ≤ 1000000)) && (decide (1 ≤ r.2) && decide (r.2 ≤ 1000000)))) = true
    · simp only [Bool.and_eq_true, decide_eq_true_eq] at h2
      obtain ⟨⟨a1, a2⟩, ⟨a3, a4⟩, a5, a6⟩ := h2
      simp only [a1, a2, a3, a4, a5, a6, decide_true, Bool.and_self, Bool.not_true, Bool.false_or, gd, cond_true, Option.bind_some, Bool.not_false]
      by_cases h3 : r.2 < r.1
      · simp only [h3, decide_true, if_true]
        exact ⟨_, _, rfl, rfl, by simp⟩
      · simp only [h3, decide_false, Bool.false_eq_true, if_false]
        unfold speed_up__int64
        rw [quo_some (show r.1 ≠ 0 by omega), quo_some (show r.2 ≠ 0 by omega)]
        simp only [Option.bind_eq_bind, Option.bind_some]
        generalize (if w64 ((w64 (p * 16000)).tdiv r.1) < 100000 then w64 ((w64 (p * 16000)).tdiv r.1) else 100000) = g
        generalize w64 ((w64 (w64 (w64 (p * 16000) + r.2) - 1)).tdiv r.2) = q
        by_cases h4 : g < q
        · simp only [h4, decide_true, if_true]
          exact ⟨_, _, rfl, rfl, by simp⟩
        · simp only [h4, decide_false, Bool.false_eq_true, if_false]
          exact ⟨_, _, rfl, rfl, by simp⟩
    · refine ⟨[], 3, ?_, ?_, by simp⟩
      · rw [if_pos (by simp only [Bool.not_eq_true] at h2; rw [h2]; rfl)]
      · simp only [Bool.and_eq_true, decide_eq_true_eq, not_and] at h2
        by_cases b1 : 1 ≤ p ∧ p ≤ 1000000
        · simp only [b1.1, b1.2, decide_true, Bool.and_self, Bool.not_true, gd, Bool.not_false, cond_true, Option.bind_some, Bool.false_or]
          by_cases b2 : 1 ≤ r.1 ∧ r.1 ≤ 1000000
          · simp only [b2.1, b2.2, decide_true, Bool.and_self, Bool.not_true, Bool.not_false, cond_true, Option.bind_some, Bool.false_or]
            have b3 : (decide (1 ≤ r.2) && decide (r.2 ≤ 1000000)) = false := by simp; omega
            rw [b3]
            rfl
          · have b3 : (decide (1 ≤ r.1) && decide (r.1 ≤ 1000000)) = false := by simp; omega
            rw [b3]
            rfl
        · have b3 : (decide (1 ≤ p) && decide (p ≤ 1000000)) = false := by simp; omega
          rw [b3]
          rfl
  · have h1' : ((decide (t < 1)) || (decide (20 < t))) = true := by simp at h1 ⊢; omega
    simp only [Bool.not_eq_true] at h1
    rw [if_pos (by rw [h1]; rfl), if_pos h1']
    exact ⟨_, _, rfl, rfl, by simp⟩

theorem spring_l1 {F : Nat} {b d : Int} (hb : b ≤ 20) : ∀ (m : Nat) (y : List (Int × Int × Int)) (k : Int), 1 ≤ k → b - k < m → k ≤ b → y.length ≤ 2 * k.toNat → ∃ z, speed_Spring_l1 F b d m y k = some z ∧ ref01_Spring_l1 F b d m y k = some z ∧ z.length ≤ 100
  | 0, y, k, h1, h2, h3, h4 => by omega
  | m + 1, y, k, h1, h2, h3, h4 => by
    unfold speed_Spring_l1 ref01_Spring_l1
    by_cases hk : k < b
    · rw [if_pos (by simpa using hk), if_pos (by simpa using hk)]
      have ha : app 24 y ([(k, w64 (k + 1), 0), (w64 (k + 1), k, d)] : List (Int × Int × Int)) = some (y ++ [(k, w64 (k + 1), 0), (w64 (k + 1), k, d)]) := by
        unfold app
        rw [if_pos (by simp only [List.length_cons, List.length_nil]; omega)]
      rw [ha]
      simp only [Option.bind_eq_bind, Option.bind_some]
      rw [w64_in (by omega)]
      exact spring_l1 hb m _ (k + 1) (by omega) (by omega) (by omega) (by simp only [List.length_append, List.length_cons, List.length_nil]; omega)
    · rw [if_neg (by simpa using hk), if_neg (by simpa using hk)]
      exact ⟨y, rfl, rfl, by omega⟩

theorem spring_same {F : Nat} (hF : 50 < F) (a b d : Int) : ∃ l e, speed_Spring F a b d = some (l, e) ∧ ref01_Spring F a b d = some (l, e) ∧ l.length ≤ 100 := by
  unfold speed_Spring ref01_Spring
  rw [turns_eq (by simp; omega) (by simp), within_eq (by simp; omega) (by simp)]
  simp only [Option.bind_eq_bind, Option.bind_some, List.all_cons, List.all_nil, Bool.and_true]
  have e1 : ((!(inR 1 20 a && inR 1 20 b)) || decide (b ≤ a)) = !(inR 1 20 a && inR 1 20 b && decide (a < b)) := by
    have : decide (b ≤ a) = !decide (a < b) := by by_cases h : a < b <;> simp [h] <;> omega
    rw [this]
    cases inR 1 20 a <;> cases inR 1 20 b <;> cases decide (a < b) <;> rfl
  have e2 : (((((decide (a < 1)) || (decide (20 < a))) || (decide (b < 1))) || (decide (20 < b))) || (decide (b ≤ a))) = !(inR 1 20 a && inR 1 20 b && decide (a < b)) := by
    rw [← e1]
    congr 1
    unfold inR
    by_cases h1 : a < 1 <;> by_cases h2 : 20 < a <;> by_cases h3 : b < 1 <;> by_cases h4 : 20 < b <;> simp [h1, h2, h3, h4] <;> omega
  have e3 : ((decide (d < 0)) || (decide (100000 < d))) = !inR 0 100000 d := by
    unfold inR
    by_cases h1 : d < 0 <;> by_cases h2 : 100000 < d <;> simp [h1, h2] <;> omega
  rw [e1, e2, e3]
  cases h : (inR 1 20 a && inR 1 20 b && decide (a < b)) with
  | false => exact ⟨_, _, rfl, rfl, by simp⟩
  | true =>
    simp only [inR, Bool.and_eq_true, decide_eq_true_eq] at h
    obtain ⟨⟨⟨a1, a2⟩, a3, a4⟩, a5⟩ := h
    cases inR 0 100000 d with
    | false => exact ⟨_, _, rfl, rfl, by simp⟩
    | true =>
      obtain ⟨z, h3, h4, h5⟩ := spring_l1 (F := F) (d := d) a4 F [] a a1 (by omega) (by omega) (by simp)
      rw [h3, h4]
      exact ⟨z, 0, rfl, rfl, h5⟩

theorem works : law01_Works 1000 = some true := by kernel_rfl

/-- SpeedPipes, in plain words. -/
theorem speedPipes_true (x0 x1 : Int) (x2 : Int × Int) (x3 x4 : Int) : law01_SpeedPipes 1000 x0 x1 x2 x3 x4 = some true := by
  obtain ⟨l, e, h1, h2, h3⟩ := pipe_same (F := 1000) (by decide) x0 x1 (x2.1, x2.2)
  obtain ⟨l', e', h4, h5, h6⟩ := spring_same (F := 1000) (by decide) x0 x3 x4
  unfold law01_SpeedPipes
  rw [h1, h2, h4, h5]
  simp only [Option.bind_eq_bind, Option.bind_some]
  rw [rules_same (by omega) (by omega), rules_same (by omega) (by omega), works]
  simp
end Go.Proofs.Ythppacohnciinaa

/-! Valid sheets, their whole rules, and true speeds, in plain words. Condition: there are enough rounds. -/
namespace Go.Proofs.Ythppacohnciinaa
open Go Go.Md Go.RowKit

/-! ### Valid sheets -/
def okRule (T : Int) (r : Int × Int × Int) : Bool := inR 0 T r.1 && inR 0 T r.2.1 && !decide (r.1 = r.2.1) && inR (-100000) 100000 r.2.2
def csheet (x : Int × List (Int × Int × Int)) : Int :=
  if 60 < x.2.length then 6 else if inR 1 20 x.1 = true then (if x.2.all (okRule x.1) = true then 0 else 3) else 2

theorem bad_eq {F : Nat} (hF : 3 < F) (T : Int) (s : List (Int × Int × Int)) (r : Int × Int × Int) : speed_CheckSheet_1 F r (T, s) = some (!okRule T r) := by
  unfold speed_CheckSheet_1
  rw [turns_eq (by simp; omega) (by simp), within_eq (by simp; omega) (by simp)]
  simp only [Option.bind_eq_bind, Option.bind_some, List.all_cons, List.all_nil, Bool.and_true, okRule]
  cases h1 : inR 0 T r.1 <;> cases h2 : inR 0 T r.2.1 <;> by_cases h3 : r.1 = r.2.1 <;> cases h4 : inR (-100000) 100000 r.2.2 <;> simp [gd, h3]

theorem any_not {α : Type} {p : α → Bool} (l : List α) : (l.any fun x => !p x) = !l.all p := by
  induction l with
  | nil => rfl
  | cons a l ih => simp [ih, Bool.not_and]

theorem checkSheet_eq {F : Nat} (hF : 100 < F) (x : Int × List (Int × Int × Int)) : speed_CheckSheet F x = some (csheet x) := by
  unfold speed_CheckSheet csheet
  by_cases h1 : 60 < x.2.length
  · rw [if_pos (by simp; omega), if_pos h1]
  · rw [if_neg (by simp; omega), if_neg h1, turns_eq (by simp; omega) (by simp)]
    simp only [Option.bind_eq_bind, Option.bind_some, List.all_cons, List.all_nil, Bool.and_true]
    cases h2 : inR 1 20 x.1 with
    | false => simp
    | true =>
      rw [con_rule (p := fun r => !okRule x.1 r) (fun r _ => bad_eq (by omega) x.1 x.2 r) (by omega) (by omega), any_not]
      simp only [Option.bind_some]
      cases x.2.all (okRule x.1) <;> simp

theorem isRule_eq (r : Int × Int × Int) (T : Int) : ref01_IsRule r T = some (okRule T r) := by
  unfold ref01_IsRule okRule inR
  congr 1
  cases decide (0 ≤ r.1) <;> cases decide (r.1 ≤ T) <;> cases decide (0 ≤ r.2.1) <;> cases decide (r.2.1 ≤ T) <;> simp [Bool.and_assoc]

theorem refSheet_l1 {F : Nat} {x : Int × List (Int × Int × Int)} (hl : x.2.length < 4611686018427387904) : ∀ (m k : Nat), k ≤ x.2.length → x.2.length - k < m →
    ref01_CheckSheet_l1 F x m (k : Int) = some (if (x.2.drop k).all (okRule x.1) = true then .inr () else .inl 3)
  | 0, k, _, h => by omega
  | m + 1, k, hk, h => by
    unfold ref01_CheckSheet_l1
    by_cases hlt : k < x.2.length
    · rw [if_pos (by simpa using hlt), ix_nat hlt]
      have hd : x.2.drop k = x.2[k] :: x.2.drop (k + 1) := List.drop_eq_getElem_cons hlt
      simp only [Option.bind_eq_bind, Option.bind_some, isRule_eq]
      rw [hd, List.all_cons]
      cases hp : okRule x.1 x.2[k] with
      | false => simp
      | true =>
        rw [if_neg (by simp), w64_in (by omega)]
        exact (refSheet_l1 hl m (k + 1) (by omega) (by omega)).trans (by rw [Bool.true_and])
    · rw [if_neg (by simpa using hlt), List.drop_of_length_le (by omega)]
      rfl
theorem refSheet_eq {F : Nat} (hF : 100 < F) (x : Int × List (Int × Int × Int)) : ref01_CheckSheet F x = some (csheet x) := by
  unfold ref01_CheckSheet csheet
  by_cases h1 : 60 < x.2.length
  · rw [if_pos (by simp; omega), if_pos h1]
  · rw [if_neg (by simp; omega), if_neg h1]
    cases h2 : inR 1 20 x.1 with
    | false =>
      rw [if_pos (by simp [inR] at h2 ⊢; omega)]
      rfl
    | true =>
      rw [if_neg (by simp [inR] at h2 ⊢; omega)]
      have := refSheet_l1 (F := F) (x := x) (by omega) F 0 (Nat.zero_le _) (by omega)
      simp only [Int.natCast_zero, List.drop_zero] at this
      rw [this]
      cases x.2.all (okRule x.1) <;> rfl

theorem csheet_ok {x : Int × List (Int × Int × Int)} (h : csheet x = 0) : x.2.length ≤ 60 ∧ 1 ≤ x.1 ∧ x.1 ≤ 20 ∧ ∀ r ∈ x.2, okRule x.1 r = true := by
  unfold csheet at h
  split at h
  · cases h
  · rename_i h1
    split at h
    · rename_i h2
      split at h
      · rename_i h3
        simp only [inR, Bool.and_eq_true, decide_eq_true_eq] at h2
        exact ⟨by omega, h2.1, h2.2, List.all_eq_true.1 h3⟩
      · cases h
    · cases h

/-! ### Whole rules -/
def turnR (n : Nat) : List (Int × Int × Int) := (List.range n).flatMap fun (t : Nat) => [(0, (t : Int) + 1, 100000), ((t : Int) + 1, 0, 0)]
theorem turnR_succ (n : Nat) : turnR (n + 1) = turnR n ++ [(0, (n : Int) + 1, 100000), ((n : Int) + 1, 0, 0)] := by simp [turnR, List.range_succ]
theorem turnR_len (n : Nat) : (turnR n).length = 2 * n := by
  induction n with
  | zero => rfl
  | succ n ih => rw [turnR_succ, List.length_append, ih]; simp; omega
def whole (x : Int × List (Int × Int × Int)) : List (Int × Int × Int) := x.2 ++ turnR x.1.toNat

theorem app_some {α : Type} {b : Nat} {l k : List α} (h : (l.length + k.length) * b ≤ 140737488355328) : app b l k = some (l ++ k) := by
  unfold app
  rw [if_pos h]

theorem newNet_l1 {F : Nat} {x : Int × List (Int × Int × Int)} {N : Nat} (hN : x.1 = N) (h20 : N ≤ 20) (hl : x.2.length ≤ 60) (y : (Int × List (Int × Int × Int)) × List (Int × Int × Int)) : ∀ (m k : Nat), k ≤ N → N - k < m →
    speed_newNet_l1 F x m (k : Int) ((x.1, x.2), x.2 ++ turnR k) = some ((x.1, x.2), x.2 ++ turnR N)
  | 0, k, _, h => by omega
  | m + 1, k, hk, h => by
    unfold speed_newNet_l1
    by_cases hlt : k < N
    · rw [if_pos (by simp; omega)]
      have hlen := turnR_len k
      rw [app_some (by simp only [List.length_append, List.length_cons, List.length_nil, hlen]; omega)]
      simp only [Option.bind_eq_bind, Option.bind_some]
      rw [w64_in (by omega), List.append_assoc, ← turnR_succ]
      exact newNet_l1 hN h20 hl y m (k + 1) (by omega) (by omega)
    · have : k = N := by omega
      subst this
      rw [if_neg (by simp; omega)]
theorem newNet_eq {F : Nat} (hF : 100 < F) {x : Int × List (Int × Int × Int)} (h0 : 0 ≤ x.1) (h20 : x.1 ≤ 20) (hl : x.2.length ≤ 60) : speed_newNet F x = some ⟨some ((x.1, x.2), whole x)⟩ := by
  unfold speed_newNet slices_Clone_rules
  rw [app_some (by simp; omega)]
  simp only [Option.bind_eq_bind, Option.bind_some, List.nil_append]
  have := newNet_l1 (F := F) (x := x) (N := x.1.toNat) (by omega) (by omega) hl ((x.1, x.2), []) F 0 (Nat.zero_le _) (by omega)
  simp only [Int.natCast_zero, turnR, List.range_zero, List.flatMap_nil, List.append_nil] at this
  rw [this]
  rfl
theorem all_l1 {F : Nat} {x : Int × List (Int × Int × Int)} {N : Nat} (hN : x.1 = N) (h20 : N ≤ 20) (hl : x.2.length ≤ 60) : ∀ (m k : Nat), k ≤ N → N - k < m →
    ref01_All_l1 F x m (x.2 ++ turnR k) ((k : Int) + 1) = some (x.2 ++ turnR N)
  | 0, k, _, h => by omega
  | m + 1, k, hk, h => by
    unfold ref01_All_l1
    by_cases hlt : k < N
    · rw [if_pos (by simp; omega)]
      have hlen := turnR_len k
      rw [app_some (by simp only [List.length_append, List.length_cons, List.length_nil, hlen]; omega)]
      simp only [Option.bind_eq_bind, Option.bind_some]
      rw [w64_in (by omega), List.append_assoc, ← turnR_succ]
      exact all_l1 hN h20 hl m (k + 1) (by omega) (by omega)
    · have : k = N := by omega
      subst this
      rw [if_neg (by simp; omega)]
theorem all_eq {F : Nat} (hF : 100 < F) {x : Int × List (Int × Int × Int)} (h0 : 0 ≤ x.1) (h20 : x.1 ≤ 20) (hl : x.2.length ≤ 60) : ref01_All F x = some (whole x) := by
  unfold ref01_All
  rw [app_some (by simp; omega)]
  simp only [Option.bind_eq_bind, Option.bind_some, List.nil_append]
  have := all_l1 (F := F) (x := x) (N := x.1.toNat) (by omega) (by omega) hl F 0 (Nat.zero_le _) (by omega)
  simp only [Int.natCast_zero, turnR, List.range_zero, List.flatMap_nil, List.append_nil, Int.zero_add] at this
  rw [this]
  rfl
theorem whole_len {x : Int × List (Int × Int × Int)} (h : csheet x = 0) : (whole x).length ≤ 100 := by
  obtain ⟨h1, h2, h3, _⟩ := csheet_ok h
  simp only [whole, List.length_append, turnR_len]
  omega

theorem Whole_same {F : Nat} (hF : 200 < F) (x : Int × List (Int × Int × Int)) : ∃ l, speed_Whole F x = some (l, csheet x) ∧ ref01_Whole F x = some (l, csheet x) ∧ l.length ≤ 100 := by
  unfold speed_Whole ref01_Whole
  simp only [checkSheet_eq (show 100 < F by omega), refSheet_eq (show 100 < F by omega), Option.bind_eq_bind, Option.bind_some]
  by_cases h : csheet x = 0
  · obtain ⟨h1, h2, h3, _⟩ := csheet_ok h
    have hw := whole_len h
    rw [if_neg (by simp [h]), if_neg (by simp [h]), newNet_eq (by omega) (by omega) h3 h1, all_eq (by omega) (by omega) h3 h1]
    exact ⟨_, by rw [h]; rfl, by rw [h]; rfl, hw⟩
  · rw [if_pos (by simp [h]), if_pos (by simp [h])]
    exact ⟨[], rfl, rfl, by simp⟩

/-! ### True speeds -/
def ofS (s : List Int) (t : Int) : Int := if t = 0 then 0 else (ix s (t - 1)).getD 0
theorem of_eq {s : List Int} {t : Int} (h0 : 0 ≤ t) (h1 : t ≤ s.length) (hl : s.length ≤ 20) : ref01_Of s t = some (ofS s t) := by
  unfold ref01_Of ofS
  by_cases h : t = 0
  · rw [if_pos (by simpa using h), if_pos h]
  · rw [if_neg (by simpa using h), if_neg h, w64_in (by omega)]
    have : (t - 1) = ((t - 1).toNat : Int) := by omega
    rw [this, ix_nat (by omega)]
    rfl
theorem arr_eq {s : List Int} {t : Int} (h0 : 0 ≤ t) (h1 : t ≤ s.length) (hl : s.length ≤ 20) : ix (acopy (aset (Ar.fill 21 0 : Ar 21 Int) 0 0) 1 s).l t = some (ofS s t) := by
  have hs : ((aset (Ar.fill 21 0 : Ar 21 Int) 0 0)).l = List.replicate 21 0 := by decide
  have hl' : (acopy (aset (Ar.fill 21 0 : Ar 21 Int) 0 0) 1 s).l = [0] ++ s ++ List.replicate (20 - s.length) 0 := by
    unfold acopy
    simp only [hs]
    rw [List.take_of_length_le (show s.length ≤ 21 - 1 by omega)]
    simp only [List.drop_replicate]
    congr 2
    omega
  rw [hl']
  unfold ofS
  by_cases h : t = 0
  · subst h; rfl
  · rw [if_neg h]
    have e : t = ((t - 1).toNat + 1 : Nat) := by omega
    have e2 : t - 1 = ((t - 1).toNat : Int) := by omega
    generalize hk : (t - 1).toNat = k at e e2
    have hks : k < s.length := by omega
    rw [e2, ix_nat hks, e]
    unfold ix
    rw [if_pos (by omega)]
    simp only [Int.toNat_natCast, List.singleton_append, List.cons_append, List.nil_append, List.getElem?_cons_succ, Option.getD_some]
    rw [List.getElem?_append_left hks, List.getElem?_eq_getElem hks]

def keepsS (s : List Int) (r : Int × Int × Int) : Bool := decide (ofS s r.2.1 ≤ w64 (ofS s r.1 + r.2.2))
def cspeeds (x : Int × List (Int × Int × Int)) (s : List Int) : Int :=
  if csheet x ≠ 0 then csheet x else if (s.length : Int) ≠ x.1 then 15 else if s.all (inR 0 100000) = true then (if x.2.all (keepsS s) = true then 0 else 17) else 3

theorem speeds_l1 {F : Nat} {x : Int × List (Int × Int × Int)} {s : List Int} (hx : csheet x = 0) (hs : (s.length : Int) = x.1) : ∀ (m k : Nat), k ≤ x.2.length → x.2.length - k < m →
    speed_CheckSpeeds_l1 F x s m (k : Int) = some (if (x.2.drop k).all (keepsS s) = true then .inr () else .inl 17)
  | 0, k, _, h => by omega
  | m + 1, k, hk, h => by
    obtain ⟨h1, h2, h3, h4⟩ := csheet_ok hx
    unfold speed_CheckSpeeds_l1
    by_cases hlt : k < x.2.length
    · rw [if_pos (by simpa using hlt), ix_nat hlt]
      have hd : x.2.drop k = x.2[k] :: x.2.drop (k + 1) := List.drop_eq_getElem_cons hlt
      have hr := h4 _ (List.getElem_mem hlt)
      simp only [okRule, inR, Bool.and_eq_true, decide_eq_true_eq] at hr
      obtain ⟨⟨⟨⟨r1, r2⟩, r3, r4⟩, _⟩, _⟩ := hr
      simp only [Option.bind_eq_bind, Option.bind_some, speed_list_keeps]
      rw [arr_eq r3 (by omega) (by omega), arr_eq r1 (by omega) (by omega)]
      simp only [Option.bind_some]
      rw [hd, List.all_cons]
      show (if (!keepsS s x.2[k]) = true then _ else _) = _
      cases hp : keepsS s x.2[k] with
      | false => simp
      | true =>
        rw [if_neg (by simp), w64_in (by omega)]
        exact (speeds_l1 hx hs m (k + 1) (by omega) (by omega)).trans (by rw [Bool.true_and])
    · rw [if_neg (by simpa using hlt), List.drop_of_length_le (by omega)]
      rfl

theorem refSpeeds_l1 {F : Nat} {s : List Int} (hl : s.length ≤ 40) : ∀ (m k : Nat), k ≤ s.length → s.length - k < m →
    ref01_CheckSpeeds_l1 F s m (k : Int) = some (if (s.drop k).all (inR 0 100000) = true then .inr () else .inl 3)
  | 0, k, _, h => by omega
  | m + 1, k, hk, h => by
    unfold ref01_CheckSpeeds_l1
    by_cases hlt : k < s.length
    · rw [if_pos (by simpa using hlt), ix_nat hlt]
      have hd : s.drop k = s[k] :: s.drop (k + 1) := List.drop_eq_getElem_cons hlt
      simp only [Option.bind_eq_bind, Option.bind_some]
      rw [hd, List.all_cons]
      have ih := refSpeeds_l1 (F := F) hl m (k + 1) (by omega) (by omega)
      by_cases a1 : s[k] < 0
      · simp only [a1, decide_true, if_true, Option.bind_some]
        rw [if_neg]
        simp only [inR, Bool.and_eq_true, decide_eq_true_eq, not_and]
        omega
      · simp only [a1, decide_false, Bool.false_eq_true, if_false, Option.bind_some]
        by_cases a2 : 100000 < s[k]
        · simp only [a2, decide_true, if_true]
          rw [if_neg]
          simp only [inR, Bool.and_eq_true, decide_eq_true_eq, not_and]
          omega
        · simp only [a2, decide_false, Bool.false_eq_true, if_false]
          rw [w64_in (by omega)]
          have : inR 0 100000 s[k] = true := by simp [inR]; omega
          rw [this, Bool.true_and]
          exact ih
    · rw [if_neg (by simpa using hlt), List.drop_of_length_le (by omega)]
      rfl

theorem refSpeeds_l2 {F : Nat} {x : Int × List (Int × Int × Int)} {s : List Int} (hx : csheet x = 0) (hs : (s.length : Int) = x.1) : ∀ (m k : Nat), k ≤ x.2.length → x.2.length - k < m →
    ref01_CheckSpeeds_l2 F x s m (k : Int) = some (if (x.2.drop k).all (keepsS s) = true then .inr () else .inl 17)
  | 0, k, _, h => by omega
  | m + 1, k, hk, h => by
    obtain ⟨h1, h2, h3, h4⟩ := csheet_ok hx
    unfold ref01_CheckSpeeds_l2
    by_cases hlt : k < x.2.length
    · rw [if_pos (by simpa using hlt), ix_nat hlt]
      have hd : x.2.drop k = x.2[k] :: x.2.drop (k + 1) := List.drop_eq_getElem_cons hlt
      have hr := h4 _ (List.getElem_mem hlt)
      simp only [okRule, inR, Bool.and_eq_true, decide_eq_true_eq] at hr
      obtain ⟨⟨⟨⟨r1, r2⟩, r3, r4⟩, _⟩, _⟩ := hr
      simp only [Option.bind_eq_bind, Option.bind_some]
      rw [of_eq r3 (by omega) (by omega), of_eq r1 (by omega) (by omega)]
      simp only [Option.bind_some]
      rw [hd, List.all_cons]
      have e : decide (w64 (ofS s x.2[k].1 + x.2[k].2.2) < ofS s x.2[k].2.1) = !keepsS s x.2[k] := by
        unfold keepsS
        by_cases h : ofS s x.2[k].2.1 ≤ w64 (ofS s x.2[k].1 + x.2[k].2.2) <;> simp [h] <;> omega
      rw [e]
      cases hp : keepsS s x.2[k] with
      | false => simp
      | true =>
        rw [if_neg (by simp), w64_in (by omega)]
        exact (refSpeeds_l2 hx hs m (k + 1) (by omega) (by omega)).trans (by rw [Bool.true_and])
    · rw [if_neg (by simpa using hlt), List.drop_of_length_le (by omega)]
      rfl

theorem cs1 {x : Int × List (Int × Int × Int)} {s : List Int} (h : csheet x ≠ 0) : cspeeds x s = csheet x := by unfold cspeeds; rw [if_pos h]
theorem cs2 {x : Int × List (Int × Int × Int)} {s : List Int} (h : csheet x = 0) (h5 : (s.length : Int) ≠ x.1) : cspeeds x s = 15 := by unfold cspeeds; rw [if_neg (fun e => e h), if_pos h5]
theorem cs3 {x : Int × List (Int × Int × Int)} {s : List Int} (h : csheet x = 0) (h5 : (s.length : Int) = x.1) : cspeeds x s = if s.all (inR 0 100000) = true then (if x.2.all (keepsS s) = true then 0 else 17) else 3 := by unfold cspeeds; rw [if_neg (fun e => e h), if_neg (fun e => e h5)]
theorem speeds_eq {F : Nat} (hF : 200 < F) (x : Int × List (Int × Int × Int)) (s : List Int) : speed_CheckSpeeds F x s = some (cspeeds x s) := by
  unfold speed_CheckSpeeds
  simp only [checkSheet_eq (show 100 < F by omega), Option.bind_eq_bind, Option.bind_some]
  by_cases h : csheet x = 0
  · obtain ⟨h1, h2, h3, _⟩ := csheet_ok h
    rw [if_neg (by simp [h])]
    by_cases h5 : (s.length : Int) = x.1
    · rw [if_neg (by simp [h5]), within_eq (by omega) (by omega), cs3 h h5]
      simp only [Option.bind_some]
      cases h6 : s.all (inR 0 100000) with
      | false => rfl
      | true =>
        have := speeds_l1 (F := F) h h5 F 0 (Nat.zero_le _) (by omega)
        simp only [Int.natCast_zero, List.drop_zero] at this
        rw [this]
        cases x.2.all (keepsS s) <;> rfl
    · rw [if_pos (by simp [h5]), cs2 h h5]
  · rw [if_pos (by simp [h]), cs1 h]
theorem refSpeeds_eq {F : Nat} (hF : 200 < F) (x : Int × List (Int × Int × Int)) (s : List Int) : ref01_CheckSpeeds F x s = some (cspeeds x s) := by
  unfold ref01_CheckSpeeds
  simp only [refSheet_eq (show 100 < F by omega), Option.bind_eq_bind, Option.bind_some]
  by_cases h : csheet x = 0
  · obtain ⟨h1, h2, h3, _⟩ := csheet_ok h
    rw [if_neg (by simp [h])]
    by_cases h5 : (s.length : Int) = x.1
    · rw [if_neg (by simp [h5]), cs3 h h5]
      have t1 := refSpeeds_l1 (F := F) (s := s) (by omega) F 0 (Nat.zero_le _) (by omega)
      have t2 := refSpeeds_l2 (F := F) h h5 F 0 (Nat.zero_le _) (by omega)
      simp only [Int.natCast_zero, List.drop_zero] at t1 t2
      rw [t1]
      cases h6 : s.all (inR 0 100000) with
      | false => rfl
      | true =>
        simp only [if_true, Option.bind_some]
        rw [t2]
        cases x.2.all (keepsS s) <;> rfl
    · rw [if_pos (by simp [h5]), cs2 h h5]
  · rw [if_pos (by simp [h]), cs1 h]

theorem speedSheets_true (x : Int × List (Int × Int × Int)) (s : List Int) : law01_SpeedSheets 1000 x s = some true := by
  unfold law01_SpeedSheets law01_great
  simp only [Option.bind_eq_bind, Option.bind_some]
  split
  · rw [works]; rfl
  · obtain ⟨l, h1, h2, h3⟩ := Whole_same (F := 1000) (by decide) x
    simp only [h1, h2, checkSheet_eq (show 100 < 1000 by decide), refSheet_eq (show 100 < 1000 by decide), speeds_eq (show 200 < 1000 by decide), refSpeeds_eq (show 200 < 1000 by decide), Option.bind_some]
    rw [rules_same (by omega) (by omega), works]
    simp
end Go.Proofs.Ythppacohnciinaa

/-! Going all rules again and again: the rules by which speeds became less, and circles among them, in plain words. No condition. -/
namespace Go.Proofs.Ythppacohnciinaa
namespace BF

/-- A rule with its name. -/
abbrev Rl := Int × Int × Int × Int
def NEV : Int := 1125899906842624
/-- Speeds, the rule by which each became so, and in which round. -/
structure St where
  f : Int → Int
  b : Int → Option Rl
  r : Int → Nat
def up {α : Type} (g : Int → α) (i : Int) (v : α) : Int → α := fun t => if t = i then v else g t
theorem up_same {α : Type} {g : Int → α} {i : Int} {v : α} : up g i v i = v := by simp [up]
theorem up_ne {α : Type} {g : Int → α} {i t : Int} {v : α} (h : t ≠ i) : up g i v t = g t := by simp [up, h]

def cnd (f : Int → Int) (p : Rl) : Prop := f p.2.1 ≠ NEV ∧ f p.2.1 + p.2.2.2 < f p.2.2.1
instance {f : Int → Int} {p : Rl} : Decidable (cnd f p) := by unfold cnd; infer_instance
def rel (K : Nat) (s : St) (p : Rl) : St := if cnd s.f p then ⟨up s.f p.2.2.1 (s.f p.2.1 + p.2.2.2), up s.b p.2.2.1 (some p), up s.r p.2.2.1 K⟩ else s
def pass (R : List Rl) (K : Nat) (s : St) : St := R.foldl (rel K) s
def start : St := ⟨fun _ => 0, fun _ => none, fun _ => 0⟩
/-- From a turn back by the rules: where to, what it costs, in how many steps. -/
inductive Back (b : Int → Option Rl) : Int → Int → Int → Nat → Prop
  | one {v : Int} {p : Rl} (h : b v = some p) : Back b v p.2.1 p.2.2.2 1
  | more {v u c : Int} {n : Nat} {p : Rl} (h : b v = some p) (k : Back b p.2.1 u c n) : Back b v u (p.2.2.2 + c) (n + 1)

theorem Back.snoc {b : Int → Option Rl} {v u c : Int} {n : Nat} (h : Back b v u c n) {p : Rl} (hp : b u = some p) : Back b v p.2.1 (c + p.2.2.2) (n + 1) := by
  induction h with
  | one h => exact .more h (.one hp)
  | more h k ih =>
    have := ih hp
    rw [Int.add_assoc]
    exact .more h this
theorem Back.pos {b : Int → Option Rl} {v u c : Int} {n : Nat} (h : Back b v u c n) : 1 ≤ n := by cases h <;> omega
theorem Back.start {b : Int → Option Rl} {v u c : Int} {n : Nat} (h : Back b v u c n) : ∃ p, b v = some p := by cases h <;> exact ⟨_, by assumption⟩

/-- What holds within round K: 'done' rules were gone in it, 'left' ones not yet. -/
structure Inv (N : Int → Prop) (K : Nat) (done left : List Rl) (s : St) : Prop where
  i1 : ∀ v, s.b v = none ↔ s.r v = 0
  i2 : ∀ v p, s.b v = some p → p ∈ done ++ left ∧ p.2.2.1 = v ∧ s.f p.2.1 + p.2.2.2 ≤ s.f v
  i3 : ∀ v p, s.b v = some p → s.r v ≤ s.r p.2.1 + 1
  i4d : ∀ q ∈ done, s.r q.2.1 + 1 ≤ K → s.f q.2.2.1 ≤ s.f q.2.1 + q.2.2.2
  i4l : ∀ q ∈ left, s.r q.2.1 + 2 ≤ K → s.f q.2.2.1 ≤ s.f q.2.1 + q.2.2.2
  i5 : ∀ v c n, Back s.b v v c n → c < 0
  i6 : ∀ v, s.r v ≤ K
  i7 : ∀ v, s.f v ≤ 0

theorem cyc {s : St} {p : Rl} (h : ∀ v q, s.b v = some q → s.f q.2.1 + q.2.2.2 ≤ s.f v) (hne : p.2.1 ≠ p.2.2.1) (hc : cnd s.f p) :
    ∀ {v u c n}, Back (up s.b p.2.2.1 (some p)) v u c n →
      up s.f p.2.2.1 (s.f p.2.1 + p.2.2.2) u + c < up s.f p.2.2.1 (s.f p.2.1 + p.2.2.2) v ∨
      (up s.f p.2.2.1 (s.f p.2.1 + p.2.2.2) u + c ≤ up s.f p.2.2.1 (s.f p.2.1 + p.2.2.2) v ∧ u ≠ p.2.2.1 ∧ (v ≠ p.2.2.1 → Back s.b v u c n)) := by
  obtain ⟨_, hlt⟩ := hc
  intro v u c n hb
  induction hb with
  | @one v q hq =>
    by_cases hv : v = p.2.2.1
    · subst hv
      rw [up_same] at hq
      cases hq
      refine .inr ⟨?_, hne, fun h => (h rfl).elim⟩
      rw [up_same, up_ne hne]
      exact Int.le_refl _
    · rw [up_ne hv] at hq
      have h2 := h v q hq
      rw [up_ne hv]
      by_cases hu : q.2.1 = p.2.2.1
      · left
        rw [hu, up_same]
        rw [hu] at h2
        omega
      · right
        rw [up_ne hu]
        exact ⟨h2, hu, fun _ => .one hq⟩
  | @more v u c n q hq k ih =>
    have step : up s.f p.2.2.1 (s.f p.2.1 + p.2.2.2) q.2.1 + q.2.2.2 < up s.f p.2.2.1 (s.f p.2.1 + p.2.2.2) v ∨
        (up s.f p.2.2.1 (s.f p.2.1 + p.2.2.2) q.2.1 + q.2.2.2 ≤ up s.f p.2.2.1 (s.f p.2.1 + p.2.2.2) v ∧ q.2.1 ≠ p.2.2.1) := by
      by_cases hv : v = p.2.2.1
      · subst hv
        rw [up_same] at hq
        cases hq
        right
        rw [up_same, up_ne hne]
        exact ⟨Int.le_refl _, hne⟩
      · rw [up_ne hv] at hq
        have h2 := h v q hq
        rw [up_ne hv]
        by_cases hu : q.2.1 = p.2.2.1
        · left
          rw [hu, up_same]
          rw [hu] at h2
          omega
        · right
          rw [up_ne hu]
          exact ⟨h2, hu⟩
    rcases ih with ih | ⟨ih1, ih2, ih3⟩
    · left
      rcases step with h1 | ⟨h1, _⟩ <;> omega
    · rcases step with h1 | ⟨h1, h2⟩
      · left; omega
      · right
        refine ⟨by omega, ih2, fun hv => ?_⟩
        rw [up_ne hv] at hq
        exact .more hq (ih3 h2)

theorem Inv.rel {N : Int → Prop} {K : Nat} {done left : List Rl} {s : St} {p : Rl} (hK : 1 ≤ K) (h : Inv N K done (p :: left) s) (hne : p.2.1 ≠ p.2.2.1) : Inv N K (done ++ [p]) left (rel K s p) := by
  unfold BF.rel
  by_cases hc : cnd s.f p
  · rw [if_pos hc]
    have hc' := hc
    obtain ⟨_, hlt⟩ := hc'
    have hmono : ∀ v, up s.f p.2.2.1 (s.f p.2.1 + p.2.2.2) v ≤ s.f v := fun v => by
      by_cases hv : v = p.2.2.1
      · subst hv; rw [up_same]; omega
      · rw [up_ne hv]; exact Int.le_refl _
    have hr : K ≤ s.r p.2.1 + 1 := by
      rcases Nat.lt_or_ge (s.r p.2.1 + 1) K with h' | h'
      · have := h.i4l p (by simp) (by omega)
        omega
      · exact h'
    refine ⟨?_, ?_, ?_, ?_, ?_, ?_, ?_, ?_⟩
    · intro v
      by_cases hv : v = p.2.2.1
      · subst hv; simp only [up_same]; constructor
        · intro h; cases h
        · intro h; omega
      · simp only [up_ne hv]; exact h.i1 v
    · intro v q hq
      dsimp only at hq ⊢
      by_cases hv : v = p.2.2.1
      · subst hv
        rw [up_same] at hq
        cases hq
        refine ⟨by simp, rfl, ?_⟩
        simp only [up_same, up_ne hne]
        exact Int.le_refl _
      · rw [up_ne hv] at hq
        obtain ⟨h1, h2, h3⟩ := h.i2 v q hq
        refine ⟨by simp only [List.mem_append, List.mem_cons, List.not_mem_nil, or_false] at h1 ⊢; rcases h1 with h1 | h1 | h1 <;> simp [h1], h2, ?_⟩
        simp only [up_ne hv]
        have := hmono q.2.1
        omega
    · intro v q hq
      dsimp only at hq ⊢
      by_cases hv : v = p.2.2.1
      · subst hv
        rw [up_same] at hq
        cases hq
        simp only [up_same, up_ne hne]
        exact hr
      · rw [up_ne hv] at hq
        have h3 := h.i3 v q hq
        simp only [up_ne hv]
        by_cases hu : q.2.1 = p.2.2.1
        · rw [hu, up_same]
          have := h.i6 v
          omega
        · rw [up_ne hu]; exact h3
    · intro q hq hrq
      dsimp only at hrq ⊢
      have hu : q.2.1 ≠ p.2.2.1 := fun e => by rw [e, up_same] at hrq; omega
      simp only [up_ne hu] at hrq ⊢
      have := hmono q.2.2.1
      rcases List.mem_append.1 hq with hq | hq
      · have := h.i4d q hq hrq
        omega
      · simp only [List.mem_singleton] at hq
        subst hq
        rw [up_same]
        exact Int.le_refl _
    · intro q hq hrq
      dsimp only at hrq ⊢
      have hu : q.2.1 ≠ p.2.2.1 := fun e => by rw [e, up_same] at hrq; omega
      simp only [up_ne hu] at hrq ⊢
      have := hmono q.2.2.1
      have := h.i4l q (by simp [hq]) hrq
      omega
    · intro v c n hb
      dsimp only at hb
      rcases cyc (fun v q hq => (h.i2 v q hq).2.2) hne hc hb with h1 | ⟨h1, h2, h3⟩
      · omega
      · by_cases hv : v = p.2.2.1
        · exact (h2 hv).elim
        · exact h.i5 v c n (h3 hv)
    · intro v
      by_cases hv : v = p.2.2.1
      · subst hv; simp only [up_same]; exact Nat.le_refl _
      · simp only [up_ne hv]; exact h.i6 v
    · intro v
      exact Int.le_trans (hmono v) (h.i7 v)
  · rw [if_neg hc]
    have hle : s.f p.2.2.1 ≤ s.f p.2.1 + p.2.2.2 := by
      have h7 := h.i7 p.2.1
      unfold cnd at hc
      have : s.f p.2.1 ≠ NEV := by unfold NEV; omega
      simp only [not_and, Int.not_lt] at hc
      exact hc this
    refine ⟨h.i1, fun v q hq => ?_, h.i3, fun q hq hrq => ?_, fun q hq => h.i4l q (by simp [hq]), h.i5, h.i6, h.i7⟩
    · obtain ⟨h1, h2, h3⟩ := h.i2 v q hq
      exact ⟨by simp only [List.mem_append, List.mem_cons, List.not_mem_nil, or_false] at h1 ⊢; rcases h1 with h1 | h1 | h1 <;> simp [h1], h2, h3⟩
    · rcases List.mem_append.1 hq with hq | hq
      · exact h.i4d q hq hrq
      · simp only [List.mem_singleton] at hq
        subst hq
        exact hle

theorem Inv.go {N : Int → Prop} {K : Nat} (hK : 1 ≤ K) : ∀ (left done : List Rl) (s : St), (∀ p ∈ left, p.2.1 ≠ p.2.2.1) → Inv N K done left s → Inv N K (done ++ left) [] (left.foldl (BF.rel K) s)
  | [], done, s, _, h => by simpa using h
  | p :: left, done, s, hne, h => by
    have h1 := h.rel hK (hne p (by simp))
    have := Inv.go hK left (done ++ [p]) _ (fun q hq => hne q (by simp [hq])) h1
    simpa using this
theorem Inv.pass {N : Int → Prop} {K : Nat} {R : List Rl} {s : St} (hne : ∀ p ∈ R, p.2.1 ≠ p.2.2.1) (h : Inv N K R [] s) : Inv N (K + 1) R [] (pass R (K + 1) s) := by
  have h0 : Inv N (K + 1) [] R s := ⟨h.i1, by simpa using h.i2, h.i3, by simp, fun q hq hr => h.i4d q hq (by omega), h.i5, fun v => Nat.le_succ_of_le (h.i6 v), h.i7⟩
  have := Inv.go (by omega) R [] s hne h0
  simpa [BF.pass] using this
theorem Inv.zero {N : Int → Prop} {R : List Rl} : Inv N 0 R [] start := by
  refine ⟨fun v => by simp [start], fun v p h => by simp [start] at h, fun v p h => by simp [start] at h, fun q _ h => by omega, by simp, fun v c n h => ?_, fun v => by simp [start], fun v => by simp [start]⟩
  obtain ⟨p, hp⟩ := h.start
  simp [start] at hp

/-- Round after round. -/
def passes (R : List Rl) : Nat → St
  | 0 => start
  | K + 1 => pass R (K + 1) (passes R K)
theorem Inv.passes {N : Int → Prop} {R : List Rl} (hne : ∀ p ∈ R, p.2.1 ≠ p.2.2.1) : ∀ K, Inv N K R [] (passes R K)
  | 0 => Inv.zero
  | K + 1 => (Inv.passes hne K).pass hne

/-- What was changed in a round bears its number. -/
theorem pass_same {K : Nat} {v : Int} : ∀ (R : List Rl) (s : St), (R.foldl (rel K) s).r v ≠ K → (R.foldl (rel K) s).f v = s.f v ∧ (R.foldl (rel K) s).r v = s.r v ∧ (R.foldl (rel K) s).b v = s.b v
  | [], s, _ => ⟨rfl, rfl, rfl⟩
  | p :: R, s, h => by
    simp only [List.foldl_cons] at h ⊢
    have ih := pass_same (K := K) R (rel K s p) h
    unfold rel at ih h ⊢
    by_cases hc : cnd s.f p
    · simp only [if_pos hc] at ih h ⊢
      by_cases hv : v = p.2.2.1
      · subst hv
        simp only [up_same] at ih
        exact (h ih.2.1).elim
      · simpa only [up_ne hv] using ih
    · simp only [if_neg hc] at ih h ⊢
      exact ih
theorem pass_le {K : Nat} {v : Int} : ∀ (R : List Rl) (s : St), (R.foldl (rel K) s).f v ≤ s.f v ∧ (s.r v ≠ K → (R.foldl (rel K) s).r v = K → (R.foldl (rel K) s).f v < s.f v)
  | [], s => ⟨Int.le_refl _, fun h k => (h k).elim⟩
  | p :: R, s => by
    simp only [List.foldl_cons]
    have ih := pass_le (K := K) (v := v) R (rel K s p)
    unfold rel at ih ⊢
    by_cases hc : cnd s.f p
    · simp only [if_pos hc] at ih ⊢
      have hlt := hc.2
      by_cases hv : v = p.2.2.1
      · subst hv
        simp only [up_same] at ih
        exact ⟨by omega, fun _ _ => by omega⟩
      · simpa only [up_ne hv] using ih
    · simp only [if_neg hc] at ih ⊢
      exact ih

/-- A chain of as many steps as the round's number. -/
theorem Inv.chain {N : Int → Prop} {K : Nat} {done left : List Rl} {s : St} (h : Inv N K done left s) : ∀ (n : Nat) (v : Int), n + 1 ≤ s.r v → ∃ u c, Back s.b v u c (n + 1) ∧ s.r v ≤ s.r u + (n + 1)
  | n, v, hr => by
    have hb : s.b v ≠ none := fun e => by have := (h.i1 v).1 e; omega
    obtain ⟨p, hp⟩ := Option.ne_none_iff_exists'.1 hb
    have h3 := h.i3 v p hp
    cases n with
    | zero => exact ⟨_, _, .one hp, h3⟩
    | succ n =>
      obtain ⟨u, c, h4, h5⟩ := Inv.chain h n p.2.1 (by omega)
      exact ⟨u, _, .more hp h4, by omega⟩
end BF
end Go.Proofs.Ythppacohnciinaa

/-! A circle of rules is found just if no speeds are true, in plain words. Condition: there are enough rounds. -/
namespace Go.Proofs.Ythppacohnciinaa
open Go Go.Md Go.RowKit
open BF (Rl St Back Inv rel pass passes NEV)

/-! ### Speeds of all turns, and the names by which they became so -/
def gA (X : Ar 21 Int) (t : Int) : Int := (ix X.l t).getD 0
theorem ixA {X : Ar 21 Int} {t : Int} (h0 : 0 ≤ t) (h1 : t ≤ 20) : ix X.l t = some (gA X t) := ix_ar h0 h1
theorem gA_set {X : Ar 21 Int} {i v t : Int} (i0 : 0 ≤ i) (i1 : i ≤ 20) (t0 : 0 ≤ t) (t1 : t ≤ 20) : gA (aset X i v) t = if t = i then v else gA X t := by
  have hX := X.h
  unfold gA ix aset
  simp only [if_pos t0, List.getElem?_set]
  by_cases h : t = i
  · subst h
    rw [if_pos rfl, if_pos (by omega), if_pos rfl]
    rfl
  · rw [if_neg (by omega), if_neg h]
theorem arExt {X Y : Ar 21 Int} (h : ∀ t, 0 ≤ t → t ≤ 20 → gA X t = gA Y t) : X = Y := by
  obtain ⟨a, ha⟩ := X
  obtain ⟨b, hb⟩ := Y
  congr 1
  apply List.ext_getElem (by omega)
  intro i h1 h2
  have := h i (by omega) (by omega)
  simpa [gA, ix, List.getElem?_eq_getElem h1, List.getElem?_eq_getElem h2] using this
theorem mget_put {l : List (Int × Int)} {k v t : Int} : mget 0 (mput l k v) t = if t = k then v else mget 0 l t := by
  induction l with
  | nil =>
    simp only [mput, mget]
    by_cases h : t = k
    · rw [if_pos h, if_pos h.symm]
    · rw [if_neg h, if_neg (Ne.symm h)]
  | cons p l ih =>
    obtain ⟨a, b⟩ := p
    simp only [mput]
    by_cases h : a = k
    · subst h
      simp only [if_true, mget]
      by_cases h2 : t = a
      · rw [if_pos h2, if_pos h2.symm]
      · rw [if_neg h2, if_neg (Ne.symm h2), if_neg (Ne.symm h2)]
    · simp only [if_neg h, mget, ih]
      by_cases h2 : a = t
      · subst h2; rw [if_pos rfl, if_pos rfl, if_neg h]
      · rw [if_neg h2, if_neg h2]

structure Rep (X : Ar 21 Int) (l : List (Int × Int)) (s : St) : Prop where
  f : ∀ t, 0 ≤ t → t ≤ 20 → gA X t = s.f t
  b : ∀ t p, s.b t = some p → mget 0 l t = p.1
def Bd (c : Int) (s : St) : Prop := ∀ v, -c ≤ s.f v ∧ s.f v ≤ NEV
/-- Rules between turns from 0 to 20, that allow at most so much. -/
def OKr (T : Int) (r : Int × Int × Int) : Prop := 0 ≤ r.1 ∧ r.1 ≤ T ∧ 0 ≤ r.2.1 ∧ r.2.1 ≤ T ∧ r.1 ≠ r.2.1 ∧ -100000 ≤ r.2.2 ∧ r.2.2 ≤ 100000

theorem Rep.step {X : Ar 21 Int} {l : List (Int × Int)} {s : St} {K : Nat} {c T : Int} {p : Rl} (h : Rep X l s) (hb : Bd c s) (hc : c ≤ 1152921504606846976) (hT : T ≤ 20) (hp : OKr T p.2) :
    Rep (stepB (X, l) p).1 (stepB (X, l) p).2 (rel K s p) := by
  obtain ⟨h1, h2, h3, h4, h5, h6, h7⟩ := hp
  have ea : (ix X.l p.2.1).getD 0 = s.f p.2.1 := h.f _ h1 (by omega)
  have eb : (ix X.l p.2.2.1).getD 0 = s.f p.2.2.1 := h.f _ h3 (by omega)
  have hf := hb p.2.1
  have hw : w64 (s.f p.2.1 + p.2.2.2) = s.f p.2.1 + p.2.2.2 := w64_in (by unfold NEV at hf; omega)
  unfold stepB rel
  simp only [ea, eb, hw]
  by_cases hcn : BF.cnd s.f p
  · have hcn' := hcn
    obtain ⟨c1, c2⟩ := hcn'
    rw [if_pos hcn, if_pos (by unfold NEV at c1; simp [c1]; omega)]
    refine ⟨fun t t0 t1 => ?_, fun t q hq => ?_⟩
    · rw [gA_set h3 (by omega) t0 t1]
      simp only [BF.up]
      split
      · rfl
      · exact h.f t t0 t1
    · simp only [BF.up] at hq
      rw [mget_put]
      split
      · rename_i e
        rw [if_pos e] at hq
        cases hq
        rfl
      · rename_i e
        rw [if_neg e] at hq
        exact h.b t q hq
  · rw [if_neg hcn, if_neg]
    · exact h
    · unfold BF.cnd NEV at hcn
      simp only [Bool.and_eq_true, Bool.not_eq_true', decide_eq_false_iff_not, not_and]
      intro a1 a2
      exact hcn ⟨a1, by omega⟩
theorem Bd.rel {c : Int} {s : St} {K : Nat} {p : Rl} (h : Bd c s) (hc : 0 ≤ c) (hm : -100000 ≤ p.2.2.2) : Bd (c + 100000) (rel K s p) := by
  intro v
  have h1 := h v
  have h2 := h p.2.1
  have h3 := h p.2.2.1
  unfold BF.rel
  by_cases hcn : BF.cnd s.f p
  · rw [if_pos hcn]
    simp only [BF.up]
    have := hcn.2
    split <;> omega
  · rw [if_neg hcn]
    omega
theorem Rep.fold {K : Nat} {T : Int} (hT : T ≤ 20) : ∀ (R : List Rl) (X : Ar 21 Int) (l : List (Int × Int)) (s : St) (c : Int), (∀ p ∈ R, OKr T p.2) → 0 ≤ c → c + 100000 * R.length ≤ 1152921504606846976 → Rep X l s → Bd c s →
    Rep (R.foldl stepB (X, l)).1 (R.foldl stepB (X, l)).2 (R.foldl (rel K) s) ∧ Bd (c + 100000 * R.length) (R.foldl (rel K) s)
  | [], X, l, s, c, _, _, _, h, hb => ⟨h, by simpa using hb⟩
  | p :: R, X, l, s, c, hR, hc, hlen, h, hb => by
    have hp := hR p (by simp)
    simp only [List.foldl_cons]
    have e : (p :: R).length = R.length + 1 := rfl
    have := Rep.fold (K := K) hT R (stepB (X, l) p).1 (stepB (X, l) p).2 (rel K s p) (c + 100000) (fun q hq => hR q (by simp [hq])) (by omega) (by rw [e] at hlen; omega) (h.step hb (by omega) hT hp) (hb.rel hc hp.2.2.2.2.2.1)
    rw [e]
    refine ⟨this.1, ?_⟩
    have h2 := this.2
    have : c + 100000 + 100000 * (R.length : Int) = c + 100000 * ((R.length + 1 : Nat) : Int) := by omega
    rwa [this] at h2

/-! ### The rules of a valid sheet -/
theorem whole_ok {x : Int × List (Int × Int × Int)} (h : csheet x = 0) : ∀ r ∈ whole x, OKr x.1 r := by
  obtain ⟨_, h2, h3, h4⟩ := csheet_ok h
  intro r hr
  rcases List.mem_append.1 hr with hr | hr
  · have := h4 r hr
    simp only [okRule, inR, Bool.and_eq_true, decide_eq_true_eq, Bool.not_eq_true', decide_eq_false_iff_not] at this
    obtain ⟨⟨⟨⟨a, b⟩, c, d⟩, e⟩, f, g⟩ := this
    exact ⟨a, b, c, d, e, f, g⟩
  · obtain ⟨t, ht, hr⟩ := List.mem_flatMap.1 hr
    have ht := List.mem_range.1 ht
    simp only [List.mem_cons, List.not_mem_nil, or_false] at hr
    rcases hr with rfl | rfl
    · unfold OKr; simp only; omega
    · unfold OKr; simp only; omega
theorem en_mem {l : List (Int × Int × Int)} {p : Rl} (h : p ∈ en l) : p.2 ∈ l ∧ ix l p.1 = some p.2 ∧ 0 ≤ p.1 ∧ p.1 < l.length := by
  obtain ⟨i, hi, e⟩ := List.getElem_of_mem h
  rw [en_len] at hi
  have h1 : (en l)[i]? = some p := by rw [← e]; exact List.getElem?_eq_getElem _
  rw [en_get, List.getElem?_eq_getElem hi] at h1
  simp only [Option.map_some, Option.some.injEq] at h1
  subst h1
  exact ⟨List.getElem_mem hi, ix_nat hi, by simp, by simpa using hi⟩
def Rs (x : Int × List (Int × Int × Int)) : List Rl := en (whole x)
theorem Rs_ok {x : Int × List (Int × Int × Int)} (h : csheet x = 0) : ∀ p ∈ Rs x, OKr x.1 p.2 := fun p hp => whole_ok h _ (en_mem hp).1
theorem Rs_len {x : Int × List (Int × Int × Int)} (h : csheet x = 0) : (Rs x).length ≤ 100 := by
  unfold Rs
  rw [en_len]
  exact whole_len h
theorem Rs_ne {x : Int × List (Int × Int × Int)} (h : csheet x = 0) : ∀ p ∈ Rs x, p.2.1 ≠ p.2.2.1 := fun p hp => (Rs_ok h p hp).2.2.2.2.1
/-- Some speeds keep all rules. -/
def Pot (x : Int × List (Int × Int × Int)) : Prop := ∃ p : Int → Int, ∀ r ∈ whole x, p r.2.1 ≤ p r.1 + r.2.2

/-! ### A step -/
theorem step_eq {x : Int × List (Int × Int × Int)} (h : csheet x = 0) (X : Ar 21 Int) (l : List (Int × Int)) :
    speed_net_step (whole x) X l = some (((Rs x).foldl stepB (X, l)).1, ((Rs x).foldl stepB (X, l)).2, !decide (((Rs x).foldl stepB (X, l)).1 = X)) := by
  unfold speed_net_step
  rw [if_pos]
  · rfl
  · obtain ⟨_, _, h3, _⟩ := csheet_ok h
    refine List.all_eq_true.2 fun r hr => ?_
    obtain ⟨a, b, c, d, _⟩ := whole_ok h r hr
    simp only [tR, Bool.and_eq_true, decide_eq_true_eq]
    omega
/-- What a step changes. -/
theorem step_rep {x : Int × List (Int × Int × Int)} (h : csheet x = 0) {X : Ar 21 Int} {l : List (Int × Int)} {s : St} {K : Nat} {c : Int} (hr : Rep X l s) (hb : Bd c s) (hc : 0 ≤ c) (hc2 : c ≤ 1000000000000) :
    ∃ X' l' m, speed_net_step (whole x) X l = some (X', l', m) ∧ Rep X' l' (pass (Rs x) K s) ∧ Bd (c + 10000000) (pass (Rs x) K s) ∧ (m = false ↔ ∀ t, 0 ≤ t → t ≤ 20 → (pass (Rs x) K s).f t = s.f t) := by
  obtain ⟨_, _, h3, _⟩ := csheet_ok h
  have hlen := Rs_len h
  have := Rep.fold (K := K) h3 (Rs x) X l s c (Rs_ok h) hc (by omega) hr hb
  refine ⟨_, _, _, step_eq h X l, this.1, fun v => ?_, ?_⟩
  · have := this.2 v
    unfold pass
    omega
  · simp only [Bool.not_eq_false', decide_eq_true_eq]
    constructor
    · intro e t t0 t1
      have h1 := this.1.f t t0 t1
      rw [e, hr.f t t0 t1] at h1
      exact h1.symm
    · intro e
      exact arExt fun t t0 t1 => by rw [this.1.f t t0 t1, hr.f t t0 t1]; exact e t t0 t1
theorem pass_fix {K : Nat} : ∀ (R : List Rl) (s : St), (∀ p ∈ R, 0 ≤ p.2.2.1 ∧ p.2.2.1 ≤ 20) → (∀ v, 0 ≤ v → v ≤ 20 → (R.foldl (rel K) s).f v = s.f v) → ∀ p ∈ R, ¬ BF.cnd s.f p
  | [], _, _, _, p, hp => by simp at hp
  | q :: R, s, hR, hf, p, hp => by
    simp only [List.foldl_cons] at hf
    by_cases hc : BF.cnd s.f q
    · exfalso
      obtain ⟨q0, q1⟩ := hR q (by simp)
      have h1 := hf _ q0 q1
      have h2 := (BF.pass_le (K := K) (v := q.2.2.1) R (rel K s q)).1
      have h3 : (rel K s q).f q.2.2.1 < s.f q.2.2.1 := by
        unfold rel
        rw [if_pos hc]
        simp only [BF.up_same]
        exact hc.2
      omega
    · have e : rel K s q = s := by unfold rel; rw [if_neg hc]
      rw [e] at hf
      rcases List.mem_cons.1 hp with rfl | hp
      · exact hc
      · exact pass_fix R s (fun r hr => hR r (by simp [hr])) hf p hp
theorem fix_pot {x : Int × List (Int × Int × Int)} (h : csheet x = 0) {s : St} {K : Nat} (hneg : ∀ v, s.f v ≤ 0) (hf : ∀ t, 0 ≤ t → t ≤ 20 → (pass (Rs x) K s).f t = s.f t) : Pot x := by
  obtain ⟨_, _, h3, _⟩ := csheet_ok h
  refine ⟨s.f, fun r hr => ?_⟩
  obtain ⟨i, hi, e⟩ := List.getElem_of_mem hr
  have hm : ((i : Int), r) ∈ Rs x := by
    have : (en (whole x))[i]? = some ((i : Int), r) := by rw [en_get, List.getElem?_eq_getElem hi, e]; rfl
    exact List.mem_of_getElem? this
  have := pass_fix (Rs x) s (fun p hp => by have := Rs_ok h p hp; exact ⟨this.2.2.1, by have := this.2.2.2.1; omega⟩) hf _ hm
  unfold BF.cnd at this
  have hn := hneg r.1
  simp only [not_and, Int.not_lt] at this
  exact this (by unfold NEV; omega)

/-! ### Back by the rules -/
theorem pot_back {x : Int × List (Int × Int × Int)} {s : St} {K : Nat} {N : Int → Prop} (hI : Inv N K (Rs x) [] s) {p : Int → Int} (hp : ∀ r ∈ whole x, p r.2.1 ≤ p r.1 + r.2.2) {v u c : Int} {n : Nat} (hb : Back s.b v u c n) : p v ≤ p u + c := by
  induction hb with
  | @one v q hq =>
    obtain ⟨h1, h2, _⟩ := hI.i2 v q hq
    have h1' : q ∈ Rs x := by simpa using h1
    have := hp _ (en_mem h1').1
    rw [h2] at this
    exact this
  | @more v u c n q hq _ ih =>
    obtain ⟨h1, h2, _⟩ := hI.i2 v q hq
    have h1' : q ∈ Rs x := by simpa using h1
    have := hp _ (en_mem h1').1
    rw [h2] at this
    omega
theorem no_pot {x : Int × List (Int × Int × Int)} {s : St} {K : Nat} {N : Int → Prop} (hI : Inv N K (Rs x) [] s) {v c : Int} {n : Nat} (hb : Back s.b v v c n) : ¬ Pot x := by
  rintro ⟨p, hp⟩
  have h1 := pot_back hI hp hb
  have h2 := hI.i5 v c n hb
  omega

theorem nodup_len : ∀ (N : Nat) (M : List Int), M.Nodup → (∀ w ∈ M, 0 ≤ w ∧ w < N) → M.length ≤ N
  | 0, M, _, h => by
    cases M with
    | nil => simp
    | cons a M => have := h a (by simp); omega
  | N + 1, M, hn, h => by
    have h1 := nodup_len N (M.filter fun w => !decide (w = (N : Int))) (hn.filter _) (fun w hw => by
      simp only [List.mem_filter, Bool.not_eq_true', decide_eq_false_iff_not] at hw
      have := h w hw.1
      omega)
    have h2 : M.length ≤ (M.filter fun w => !decide (w = (N : Int))).length + 1 := by
      clear h h1
      induction M with
      | nil => simp
      | cons a M ih =>
        simp only [List.nodup_cons] at hn
        by_cases ha : a = (N : Int)
        · have e : (M.filter fun w => !decide (w = (N : Int))) = M := by
            refine List.filter_eq_self.2 fun w hw => ?_
            simp only [Bool.not_eq_true', decide_eq_false_iff_not]
            rintro rfl
            exact hn.1 (ha ▸ hw)
          rw [List.filter_cons, ha, if_neg (by simp), e]
          exact Nat.le_refl _
        · rw [List.filter_cons, if_pos (by simp [ha]), List.length_cons, List.length_cons]
          have := ih hn.2
          omega
    omega

/-- Where the walk back comes twice. -/
theorem twice {x : Int × List (Int × Int × Int)} (hx : csheet x = 0) {s : St} {K : Nat} {N : Int → Prop} (hI : Inv N K (Rs x) [] s) : ∀ (d : Nat) (M : List Int) (u : Int), M.Nodup → (∀ w ∈ M, 0 ≤ w ∧ w ≤ x.1) → 0 ≤ u → u ≤ x.1 →
    (∀ w ∈ M, ∃ c n, Back s.b w u c n ∧ n ≤ M.length) → x.1 + 1 ≤ s.r u + M.length → x.1 + 1 - M.length < d → ∃ w c n, Back s.b w w c n
  | 0, M, u, hn, hM, u0, u1, _, _, hd => by
    have := nodup_len (x.1 + 1).toNat M hn (fun w hw => by have := hM w hw; omega)
    omega
  | d + 1, M, u, hn, hM, u0, u1, hB, hr, hd => by
    by_cases hu : u ∈ M
    · obtain ⟨c, n, h1, _⟩ := hB u hu
      exact ⟨u, c, n, h1⟩
    · have hn' : (u :: M).Nodup := by simp [hn, hu]
      have hM' : ∀ w ∈ u :: M, 0 ≤ w ∧ w ≤ x.1 := fun w hw => by
        rcases List.mem_cons.1 hw with rfl | hw
        · exact ⟨u0, u1⟩
        · exact hM w hw
      have hl := nodup_len (x.1 + 1).toNat (u :: M) hn' (fun w hw => by have := hM' w hw; omega)
      simp only [List.length_cons] at hl
      have hb : s.b u ≠ none := fun e => by have := (hI.i1 u).1 e; omega
      obtain ⟨p, hp⟩ := Option.ne_none_iff_exists'.1 hb
      obtain ⟨h1, h2, h3⟩ := hI.i2 u p hp
      have hok := Rs_ok hx p (by simpa using h1)
      have h4 := hI.i3 u p hp
      refine twice hx hI d (u :: M) p.2.1 hn' hM' hok.1 hok.2.1 (fun w hw => ?_) (by simp only [List.length_cons]; omega) (by simp only [List.length_cons]; omega)
      rcases List.mem_cons.1 hw with rfl | hw
      · exact ⟨_, 1, .one hp, by simp⟩
      · obtain ⟨c, n, h5, h6⟩ := hB w hw
        exact ⟨_, _, h5.snoc hp, by simp only [List.length_cons]; omega⟩
theorem stamp_no_pot {x : Int × List (Int × Int × Int)} (hx : csheet x = 0) {s : St} {K : Nat} {N : Int → Prop} (hI : Inv N K (Rs x) [] s) {v : Int} (v0 : 0 ≤ v) (v1 : v ≤ x.1) (hr : x.1 + 1 ≤ s.r v) : ¬ Pot x := by
  obtain ⟨w, c, n, h⟩ := twice hx hI ((x.1 + 1).toNat + 1) [] v (by simp) (by simp) v0 v1 (by simp) (by simpa using hr) (by simp; omega)
  exact no_pot hI h
end Go.Proofs.Ythppacohnciinaa

/-! What the search for a circle returns, in plain words. Condition: there are enough rounds. -/
namespace Go.Proofs.Ythppacohnciinaa
open Go Go.Md Go.RowKit
open BF (Rl St Back Inv rel pass passes NEV)

/-! ### Lists that are reversed -/
def revI (l : List Int) (i : Nat) : List Int := (List.range l.length).map fun t => if t < i ∨ l.length - i ≤ t then l.getD (l.length - 1 - t) 0 else l.getD t 0
theorem revI_len {l : List Int} {i : Nat} : (revI l i).length = l.length := by simp [revI]
theorem revI_get {l : List Int} {i t : Nat} (h : t < l.length) : (revI l i)[t]? = some (if t < i ∨ l.length - i ≤ t then l.getD (l.length - 1 - t) 0 else l.getD t 0) := by
  simp [revI, List.getElem?_map, List.getElem?_range, h]
theorem revI_zero {l : List Int} : revI l 0 = l := by
  apply List.ext_getElem?
  intro t
  by_cases h : t < l.length
  · rw [revI_get h, if_neg (by omega), List.getElem?_eq_getElem h, List.getD_eq_getElem?_getD, List.getElem?_eq_getElem h]
    rfl
  · rw [List.getElem?_eq_none (by rw [revI_len]; omega), List.getElem?_eq_none (by omega)]
theorem revI_end {l : List Int} {i : Nat} (h : l.length ≤ 2 * i + 1) : revI l i = l.reverse := by
  apply List.ext_getElem?
  intro t
  by_cases ht : t < l.length
  · rw [revI_get ht, List.getElem?_reverse ht]
    have h1 : l.length - 1 - t < l.length := by omega
    rw [List.getElem?_eq_getElem h1]
    split
    · rw [List.getD_eq_getElem?_getD, List.getElem?_eq_getElem h1]; rfl
    · have : t = l.length - 1 - t := by omega
      rw [List.getD_eq_getElem?_getD]
      conv => lhs; rw [this]
      rw [List.getElem?_eq_getElem h1]
      rfl
  · rw [List.getElem?_eq_none (by rw [revI_len]; omega), List.getElem?_eq_none (by simp; omega)]
theorem revI_step {l : List Int} {i : Nat} (h : 2 * i + 1 < l.length) : rset (rset (revI l i) (i : Int) (l.getD (l.length - 1 - i) 0)) ((l.length : Int) - 1 - i) (l.getD i 0) = revI l (i + 1) := by
  have e : ((l.length : Int) - 1 - i).toNat = l.length - 1 - i := by omega
  unfold rset
  apply List.ext_getElem?
  intro t
  rw [e, List.getElem?_set, List.getElem?_set, Int.toNat_natCast]
  simp only [List.length_set, revI_len]
  by_cases ht : t < l.length
  · rw [revI_get ht, revI_get ht]
    by_cases h1 : l.length - 1 - i = t
    · subst h1
      rw [if_pos rfl, if_pos ht, if_pos (by omega)]
      congr 2
      omega
    · rw [if_neg h1]
      by_cases h2 : i = t
      · subst h2
        rw [if_pos rfl, if_pos (by omega), if_pos (by omega)]
      · rw [if_neg h2]
        congr 1
        have : (t < i ∨ l.length - i ≤ t) ↔ (t < i + 1 ∨ l.length - (i + 1) ≤ t) := by omega
        simp only [this]
  · rw [if_neg (by omega), if_neg (by omega), List.getElem?_eq_none (by rw [revI_len]; omega), List.getElem?_eq_none (by rw [revI_len]; omega)]
theorem reverse_l1 {l : List Int} (hl : l.length < 1000000) : ∀ (m i : Nat), l.length < m + i → 2 * i ≤ l.length + 1 → slices_Reverse_l1 m (revI l i) (i : Int) ((l.length : Int) - 1 - i) = some l.reverse
  | 0, i, h, h2 => by omega
  | m + 1, i, h, h2 => by
    unfold slices_Reverse_l1
    by_cases hi : 2 * i + 1 < l.length
    · rw [if_pos (by simp; omega)]
      have e1 : ix (revI l i) ((l.length : Int) - 1 - i) = some (l.getD (l.length - 1 - i) 0) := by
        have : ((l.length : Int) - 1 - i) = ((l.length - 1 - i : Nat) : Int) := by omega
        unfold ix
        rw [if_pos (by omega), this, Int.toNat_natCast, revI_get (by omega), if_neg (by omega)]
      have e2 : ix (revI l i) (i : Int) = some (l.getD i 0) := by
        unfold ix
        rw [if_pos (by omega), Int.toNat_natCast, revI_get (by omega), if_neg (by omega)]
      rw [e1, e2]
      simp only [Option.bind_eq_bind, Option.bind_some]
      rw [revI_step hi, w64_in (by omega), w64_in (by omega)]
      have := reverse_l1 hl m (i + 1) (by omega) (by omega)
      have e3 : ((l.length : Int) - 1 - (i : Int) - 1) = (l.length : Int) - 1 - ((i + 1 : Nat) : Int) := by omega
      rw [e3]
      exact this
    · rw [if_neg (by simp; omega), revI_end (by omega)]
theorem reverse_eq {F : Nat} {l : List Int} (hF : l.length < F) (hl : l.length < 1000000) : slices_Reverse F l = some l.reverse := by
  unfold slices_Reverse
  rw [w64_in (by omega)]
  have := reverse_l1 hl F 0 (by omega) (by omega)
  rw [revI_zero] at this
  simpa using this

theorem gA_fill {v t : Int} (t0 : 0 ≤ t) (t1 : t ≤ 20) : gA (Ar.fill 21 v : Ar 21 Int) t = v := by
  unfold gA ix
  rw [if_pos t0]
  show ((List.replicate 21 v)[t.toNat]?).getD 0 = v
  rw [List.getElem?_replicate, if_pos (by omega)]
  rfl

/-! ### The rounds -/
def nn (x : Int × List (Int × Int × Int)) : Nat := x.1.toNat + 1
def Pn (x : Int × List (Int × Int × Int)) (K : Nat) : St := passes (Rs x) K
theorem Pn_inv {x : Int × List (Int × Int × Int)} (h : csheet x = 0) (K : Nat) : Inv (fun _ => True) K (Rs x) [] (Pn x K) := Inv.passes (Rs_ne h) K

theorem circle_l1 {x : Int × List (Int × Int × Int)} (h : csheet x = 0) : ∀ (m k : Nat) (X : Ar 21 Int) (l : List (Int × Int)) (more : Bool), k ≤ nn x → nn x - k < m → Rep X l (Pn x k) → Bd (10000000 * k) (Pn x k) →
    (1 ≤ k → (more = false ↔ ∀ t, 0 ≤ t → t ≤ 20 → (Pn x k).f t = (Pn x (k - 1)).f t)) →
    ∃ X' l' more', speed_net_circle_l1 (whole x) (nn x : Int) m (k : Int) X l more = some (X', l', more') ∧ Rep X' l' (Pn x (nn x)) ∧ Bd (10000000 * (nn x : Int)) (Pn x (nn x)) ∧
      (more' = false ↔ ∀ t, 0 ≤ t → t ≤ 20 → (Pn x (nn x)).f t = (Pn x (nn x - 1)).f t)
  | 0, k, _, _, _, _, hm, _, _, _ => by omega
  | m + 1, k, X, l, more, hk, hm, hr, hb, hmo => by
    obtain ⟨_, _, h3, _⟩ := csheet_ok h
    unfold speed_net_circle_l1
    by_cases hlt : k < nn x
    · rw [if_pos (by simpa using hlt)]
      have hn : nn x ≤ 21 := by unfold nn; omega
      obtain ⟨X', l', m', e, h1, h2, h4⟩ := step_rep (K := k + 1) h hr hb (by omega) (by omega)
      rw [e]
      simp only [Option.bind_eq_bind, Option.bind_some]
      rw [w64_in (by omega)]
      have h2' : Bd (10000000 * ((k + 1 : Nat) : Int)) (Pn x (k + 1)) := by
        have : 10000000 * (k : Int) + 10000000 = 10000000 * ((k + 1 : Nat) : Int) := by omega
        rw [← this]
        exact h2
      exact circle_l1 h m (k + 1) X' l' m' (by omega) (by omega) h1 h2' (fun _ => h4)
    · have : k = nn x := by omega
      subst this
      rw [if_neg (by simp)]
      exact ⟨X, l, more, rfl, hr, hb, hmo (by unfold nn; omega)⟩

theorem circle_l2 {X Y : Ar 21 Int} : ∀ (m k : Nat), k ≤ 21 → 21 - k < m → (∃ t : Int, (k : Int) ≤ t ∧ t ≤ 20 ∧ gA X t ≠ gA Y t) → ∃ t, speed_net_circle_l2 X Y m (k : Int) = some t ∧ 0 ≤ t ∧ t ≤ 20 ∧ gA X t ≠ gA Y t
  | 0, k, _, hm, _ => by omega
  | m + 1, k, hk, hm, ⟨t, t0, t1, ht⟩ => by
    unfold speed_net_circle_l2
    rw [if_pos (by simp; omega), ixA (X := X) (by omega) (by omega), ixA (X := Y) (by omega) (by omega)]
    simp only [Option.bind_eq_bind, Option.bind_some]
    by_cases e : gA X (k : Int) = gA Y (k : Int)
    · rw [if_neg (by simp [e]), w64_in (by omega)]
      have : t ≠ k := fun e2 => ht (by rw [e2]; exact e)
      exact circle_l2 m (k + 1) (by omega) (by omega) ⟨t, by omega, t1, ht⟩
    · rw [if_pos (by simp [e])]
      exact ⟨_, rfl, by omega, by omega, e⟩

theorem from_eq {x : Int × List (Int × Int × Int)} (h : csheet x = 0) {X : Ar 21 Int} {l : List (Int × Int)} {s : St} {K : Nat} {N : Int → Prop} (hI : Inv N K (Rs x) [] s) (hr : Rep X l s) {u : Int} {p : Rl} (hp : s.b u = some p) :
    speed_from (whole x) l u = some (p.1, p.2.1) ∧ p ∈ Rs x ∧ p.2.2.1 = u := by
  obtain ⟨h1, h2, _⟩ := hI.i2 u p hp
  have h1' : p ∈ Rs x := by simpa using h1
  have hok := Rs_ok h p h1'
  obtain ⟨_, _, h3, _⟩ := csheet_ok h
  refine ⟨?_, h1', h2⟩
  unfold speed_from
  rw [if_pos (key_ok (by have := hok.2.2.1; omega) (by have := hok.2.2.2.1; omega)), hr.b u p hp, (en_mem h1').2.1]
  rfl

theorem circle_l3 {x : Int × List (Int × Int × Int)} (h : csheet x = 0) {X : Ar 21 Int} {l : List (Int × Int)} {s : St} {K : Nat} {N : Int → Prop} (hI : Inv N K (Rs x) [] s) (hr : Rep X l s) : ∀ (m : Nat) (M : List Int) (seen : Ar 21 Int) (u : Int), M.Nodup → (∀ w ∈ M, 0 ≤ w ∧ w ≤ x.1) → 0 ≤ u → u ≤ x.1 →
    (∀ w ∈ M, ∃ c n, Back s.b w u c n ∧ n ≤ M.length) → x.1 + 1 ≤ s.r u + M.length → x.1 + 1 - M.length < m → (∀ t, 0 ≤ t → t ≤ 20 → gA seen t = if t ∈ M then 1 else 0) →
    ∃ e c n, speed_net_circle_l3 (whole x) l m seen u = some e ∧ Back s.b e e c n ∧ (n : Int) ≤ x.1 + 1 ∧ 0 ≤ e ∧ e ≤ x.1
  | 0, M, seen, u, hn, hM, u0, u1, _, _, hd, _ => by
    have := nodup_len (x.1 + 1).toNat M hn (fun w hw => by have := hM w hw; omega)
    omega
  | m + 1, M, seen, u, hn, hM, u0, u1, hB, hst, hd, hs => by
    obtain ⟨_, _, h3, _⟩ := csheet_ok h
    unfold speed_net_circle_l3
    rw [ixA (X := seen) u0 (by omega), hs u u0 (by omega)]
    simp only [Option.bind_eq_bind, Option.bind_some]
    by_cases hu : u ∈ M
    · rw [if_pos hu, if_neg (by decide)]
      obtain ⟨c, n, h1, h2⟩ := hB u hu
      have hl := nodup_len (x.1 + 1).toNat M hn (fun w hw => by have := hM w hw; omega)
      exact ⟨u, c, n, rfl, h1, by omega, u0, u1⟩
    · rw [if_neg hu, if_pos (by decide)]
      have hn' : (u :: M).Nodup := by simp [hn, hu]
      have hM' : ∀ w ∈ u :: M, 0 ≤ w ∧ w ≤ x.1 := fun w hw => by
        rcases List.mem_cons.1 hw with rfl | hw
        · exact ⟨u0, u1⟩
        · exact hM w hw
      have hl := nodup_len (x.1 + 1).toNat (u :: M) hn' (fun w hw => by have := hM' w hw; omega)
      simp only [List.length_cons] at hl
      have hb : s.b u ≠ none := fun e => by have := (hI.i1 u).1 e; omega
      obtain ⟨p, hp⟩ := Option.ne_none_iff_exists'.1 hb
      obtain ⟨e1, e2, e3⟩ := from_eq h hI hr hp
      have hok := Rs_ok h p e2
      have h4 := hI.i3 u p hp
      rw [e1]
      simp only [Option.bind_some]
      refine circle_l3 h hI hr m (u :: M) (aset seen u 1) p.2.1 hn' hM' hok.1 hok.2.1 (fun w hw => ?_) (by simp only [List.length_cons]; omega) (by simp only [List.length_cons]; omega) (fun t t0 t1 => ?_)
      · rcases List.mem_cons.1 hw with rfl | hw
        · exact ⟨_, 1, .one hp, by simp⟩
        · obtain ⟨c, n, h5, h6⟩ := hB w hw
          exact ⟨_, _, h5.snoc hp, by simp only [List.length_cons]; omega⟩
      · rw [gA_set u0 (by omega) t0 t1, hs t t0 t1]
        by_cases e : t = u
        · subst e; simp
        · simp [e]

/-! ### Rules that follow each other -/
def Lk : List Rl → Prop
  | [] => True
  | [_] => True
  | p :: q :: l => p.2.2.1 = q.2.1 ∧ Lk (q :: l)
def sumM (l : List Rl) : Int := (l.map fun p => p.2.2.2).sum
/-- A circle of rules: from the turn e to it. -/
structure Circ (x : Int × List (Int × Int × Int)) (e : Int) (a : List Rl) : Prop where
  lk : Lk a
  mem : ∀ p ∈ a, p ∈ Rs x
  hd : a.head?.map (fun p => p.2.1) = some e
  tl : a.getLast?.map (fun p => p.2.2.1) = some e
  neg : sumM a < 0
  len : a.length ≤ 21

theorem circle_l4 {x : Int × List (Int × Int × Int)} (h : csheet x = 0) {X : Ar 21 Int} {l : List (Int × Int)} {s : St} {K : Nat} {N : Int → Prop} (hI : Inv N K (Rs x) [] s) (hr : Rep X l s) {e : Int} : ∀ (m k : Nat) (u : Int) (a : List Rl) (c : Int),
    Back s.b u e c k → k ≤ m → a.length + k ≤ 21 →
    ((a = [] ∧ u = e) ∨ (Back s.b e u (sumM a) a.length ∧ Lk a ∧ (∀ p ∈ a, p ∈ Rs x) ∧ a.head?.map (fun p => p.2.1) = some u ∧ a.getLast?.map (fun p => p.2.2.1) = some e)) →
    ∃ a', speed_net_circle_l4 (whole x) l e m u ((a.map (·.1)).reverse) = some ((a'.map (·.1)).reverse) ∧ Circ x e a'
  | 0, k, u, a, c, hb, hk, _, _ => by have := hb.pos; omega
  | m + 1, k, u, a, c, hb, hk, hlen, ha => by
    obtain ⟨p, hp⟩ := hb.start
    obtain ⟨e1, e2, e3⟩ := from_eq h hI hr hp
    have acc : Back s.b e p.2.1 (sumM (p :: a)) (p :: a).length ∧ Lk (p :: a) ∧ (∀ q ∈ p :: a, q ∈ Rs x) ∧ (p :: a).head?.map (fun p => p.2.1) = some p.2.1 ∧ (p :: a).getLast?.map (fun p => p.2.2.1) = some e := by
      rcases ha with ⟨rfl, rfl⟩ | ⟨b1, b2, b3, b4, b5⟩
      · refine ⟨?_, trivial, by simpa using e2, rfl, by simpa using e3⟩
        have := Back.one hp
        simpa [sumM] using this
      · cases a with
        | nil => simp at b4
        | cons q a =>
          refine ⟨?_, ⟨?_, b2⟩, ?_, rfl, ?_⟩
          · have := b1.snoc hp
            have e : sumM (p :: q :: a) = sumM (q :: a) + p.2.2.2 := by simp only [sumM, List.map_cons, List.sum_cons]; omega
            rw [e]
            exact this
          · simp only [List.head?_cons, Option.map_some, Option.some.injEq] at b4
            rw [e3, b4]
          · intro r hr'
            rcases List.mem_cons.1 hr' with rfl | hr'
            · exact e2
            · exact b3 r hr'
          · rw [List.getLast?_cons_cons]; exact b5
    have hk1 := hb.pos
    unfold speed_net_circle_l4
    rw [e1]
    simp only [Option.bind_eq_bind, Option.bind_some]
    rw [app_some (by simp only [List.length_reverse, List.length_map, List.length_cons, List.length_nil]; omega)]
    simp only [Option.bind_some]
    have eo : (a.map (·.1)).reverse ++ [p.1] = ((p :: a).map (·.1)).reverse := by simp
    rw [eo]
    by_cases he : p.2.1 = e
    · rw [if_pos (by simpa using he)]
      refine ⟨p :: a, rfl, acc.2.1, acc.2.2.1, by rw [acc.2.2.2.1, he], acc.2.2.2.2, ?_, by simp only [List.length_cons]; omega⟩
      have := acc.1
      rw [he] at this
      exact hI.i5 _ _ _ this
    · rw [if_neg (by simpa using he)]
      cases hb with
      | one h' =>
        rw [hp] at h'
        cases h'
        exact (he rfl).elim
      | more h' k' =>
        rw [hp] at h'
        cases h'
        exact circle_l4 h hI hr m _ p.2.1 (p :: a) _ k' (by omega) (by simp only [List.length_cons]; omega) (.inr acc)

/-- What the search for a circle returns. -/
theorem circle_eq {x : Int × List (Int × Int × Int)} (h : csheet x = 0) {F : Nat} (hF : 200 < F) :
    (speed_net_circle F ((x.1, x.2), whole x) = some [] ∧ Pot x) ∨ (¬ Pot x ∧ ∃ e a, speed_net_circle F ((x.1, x.2), whole x) = some (a.map (·.1)) ∧ Circ x e a) := by
  obtain ⟨_, h2, h3, _⟩ := csheet_ok h
  have hn : ((nn x : Nat) : Int) = x.1 + 1 := by unfold nn; omega
  have h0 : Rep (Ar.fill 21 0 : Ar 21 Int) [] (Pn x 0) := by
    exact ⟨fun t t0 t1 => gA_fill t0 t1, fun t p hp => by simp [Pn, passes, BF.start] at hp⟩
  have hb0 : Bd (10000000 * ((0 : Nat) : Int)) (Pn x 0) := fun v => by simp [Pn, passes, BF.start, NEV]
  obtain ⟨X1, l1, more, e1, r1, b1, m1⟩ := circle_l1 h F 0 _ _ true (Nat.zero_le _) (by omega) h0 hb0 (fun h => by omega)
  unfold speed_net_circle
  simp only [w64_in (show -9223372036854775808 ≤ x.1 + 1 ∧ x.1 + 1 ≤ 9223372036854775807 by omega)]
  rw [hn] at e1
  rw [show ((0 : Nat) : Int) = 0 from rfl] at e1
  rw [e1]
  simp only [Option.bind_eq_bind, Option.bind_some]
  have hI1 := Pn_inv h (nn x)
  cases hmore : more with
  | false =>
    left
    refine ⟨rfl, ?_⟩
    have hfix := m1.1 hmore
    have hn1 : nn x = (nn x - 1) + 1 := by unfold nn; omega
    refine fix_pot (s := Pn x (nn x - 1)) (K := nn x) h (Pn_inv h (nn x - 1)).i7 (fun t t0 t1 => ?_)
    have := hfix t t0 t1
    rw [← this]
    conv => rhs; rw [hn1]
    show _ = (passes (Rs x) (nn x - 1 + 1)).f t
    rw [passes, ← hn1]
    rfl
  | true =>
    right
    rw [if_neg (by simp)]
    -- some turn became less in the last round
    have hch : ∃ v, 0 ≤ v ∧ v ≤ 20 ∧ (Pn x (nn x)).f v ≠ (Pn x (nn x - 1)).f v := by
      apply Classical.byContradiction
      intro hno
      have : more = false := m1.2 fun t t0 t1 => Classical.byContradiction fun hne => hno ⟨t, t0, t1, hne⟩
      rw [hmore] at this
      cases this
    have hstamp : ∀ K v, (Pn x (K + 1)).f v ≠ (Pn x K).f v → (Pn x (K + 1)).r v = K + 1 := fun K v hne =>
      Classical.byContradiction fun hr => hne (BF.pass_same (Rs x) (Pn x K) hr).1
    have hnode : ∀ K v, (Pn x K).r v ≠ 0 → 0 ≤ v ∧ v ≤ x.1 := fun K v hr => by
      have hI := Pn_inv h K
      have hb : (Pn x K).b v ≠ none := fun e => hr ((hI.i1 v).1 e)
      obtain ⟨p, hp⟩ := Option.ne_none_iff_exists'.1 hb
      obtain ⟨h1, h2, _⟩ := hI.i2 v p hp
      have hok := Rs_ok h p (by simpa using h1)
      rw [← h2]
      exact ⟨hok.2.2.1, hok.2.2.2.1⟩
    have hn1 : nn x = (nn x - 1) + 1 := by unfold nn; omega
    obtain ⟨v, v0, v1, hv⟩ := hch
    have hrv : (Pn x (nn x)).r v = nn x := by
      have := hstamp (nn x - 1) v (by rw [← hn1]; exact hv)
      rw [← hn1] at this
      exact this
    have hvn := hnode (nn x) v (by rw [hrv]; unfold nn; omega)
    have hnp : ¬ Pot x := stamp_no_pot h hI1 hvn.1 hvn.2 (by rw [hrv]; omega)
    obtain ⟨X2, l2, m2, e2, r2, b2, hm2⟩ := step_rep (K := nn x + 1) h r1 b1 (by omega) (by omega)
    rw [e2]
    simp only [Option.bind_some]
    have hI2 := Pn_inv h (nn x + 1)
    have r2' : Rep X2 l2 (Pn x (nn x + 1)) := r2
    -- the next round still changes something
    have hch2 : ∃ t, ((0 : Nat) : Int) ≤ t ∧ t ≤ 20 ∧ gA X2 t ≠ gA X1 t := by
      apply Classical.byContradiction
      intro hno
      refine hnp (fix_pot (s := Pn x (nn x)) (K := nn x + 1) h hI1.i7 fun t t0 t1 => ?_)
      apply Classical.byContradiction
      intro hne
      refine hno ⟨t, by omega, t1, ?_⟩
      rw [r2.f t t0 t1, r1.f t t0 t1]
      exact hne
    obtain ⟨t, e3, t0, t1, ht⟩ := circle_l2 (X := X2) (Y := X1) F 0 (by omega) (by omega) hch2
    rw [show ((0 : Nat) : Int) = 0 from rfl] at e3
    rw [e3]
    simp only [Option.bind_some]
    have hrt : (Pn x (nn x + 1)).r t = nn x + 1 := hstamp (nn x) t (by
      intro e
      apply ht
      rw [r2.f t t0 t1, r1.f t t0 t1]
      exact e)
    have htn := hnode (nn x + 1) t (by rw [hrt]; omega)
    obtain ⟨e, c, n, e4, hb, hbn, he0, he1⟩ := circle_l3 h hI2 r2' F [] (Ar.fill 21 0 : Ar 21 Int) t (by simp) (by simp) htn.1 htn.2 (by simp) (by rw [hrt]; simp; omega) (by simp; omega) (fun w w0 w1 => by
      rw [gA_fill w0 w1]
      simp)
    rw [e4]
    simp only [Option.bind_some]
    obtain ⟨a, e5, hc⟩ := circle_l4 h hI2 r2' F n e [] c hb (by omega) (by simp; omega) (.inl ⟨rfl, rfl⟩)
    simp only [List.map_nil, List.reverse_nil] at e5
    rw [e5]
    simp only [Option.bind_some]
    have hl := hc.len
    rw [reverse_eq (by simp; omega) (by simp; omega)]
    exact ⟨hnp, e, a, by simp, hc⟩
end Go.Proofs.Ythppacohnciinaa

/-! What a way of rules costs, and whether rules are a circle, in plain words. Condition: there are enough rounds. -/
namespace Go.Proofs.Ythppacohnciinaa
open Go Go.Md Go.RowKit

abbrev RR := Int × Int × Int
def linkE : Int → Option Int → List RR → Int × Int
  | c, _, [] => (c, 0)
  | c, p, r :: rs => if p = none ∨ p = some r.1 then linkE (w64 (c + r.2.2)) (some r.2.1) rs else (0, 16)
theorem linkE_err : ∀ (rs : List RR) (c : Int) (p : Option Int), (linkE c p rs).2 ≠ 0 → linkE c p rs = (0, 16)
  | [], c, p, h => by simp [linkE] at h
  | r :: rs, c, p, h => by
    unfold linkE at h ⊢
    split
    · rename_i hp
      rw [if_pos hp] at h
      exact linkE_err rs _ _ h
    · rfl
theorem linkE_go {c : Int} {r : RR} {rs : List RR} : linkE c none (r :: rs) = linkE (w64 (c + r.2.2)) (some r.2.1) rs := by
  rw [linkE, if_pos (.inl rfl)]
theorem linkE_ok {c t : Int} {r : RR} {rs : List RR} (h : r.1 = t) : linkE c (some t) (r :: rs) = linkE (w64 (c + r.2.2)) (some r.2.1) rs := by
  rw [linkE, if_pos (.inr (by rw [h]))]
theorem linkE_no {c t : Int} {r : RR} {rs : List RR} (h : r.1 ≠ t) : linkE c (some t) (r :: rs) = (0, 16) := by
  rw [linkE, if_neg]
  simp only [reduceCtorEq, Option.some.injEq, false_or]
  exact fun e => h e.symm
theorem w64_succ {k : Nat} (h : k < 1000000) : w64 ((k : Int) + 1) = ((k + 1 : Nat) : Int) := by
  rw [w64_in (by omega)]
  rfl
def inAll (all : List RR) (way : List Int) : Bool := way.all fun i => decide (0 ≤ i) && decide (i < all.length)
def rsOf (all : List RR) (way : List Int) : List RR := way.map fun i => (ix all i).getD (0, 0, 0)
def chainS (all : List RR) (way : List Int) : Int × Int := if inAll all way = true then linkE 0 none (rsOf all way) else (0, 3)
def firstF (rs : List RR) : Int := match rs with | [] => 0 | r :: _ => r.1
def lastT (rs : List RR) : Int := match rs.getLast? with | none => 0 | some r => r.2.1

theorem firstF_get : ∀ {rs : List RR} (h : 0 < rs.length), firstF rs = (rs[0]).1
  | r :: rs, _ => rfl
theorem ix_in {all : List RR} {i : Int} (h0 : 0 ≤ i) (h1 : i < all.length) : ix all i = some ((ix all i).getD (0, 0, 0)) := by
  have e : i = (i.toNat : Int) := by omega
  rw [e, ix_nat (by omega)]
  rfl
theorem ix_rs {all : List RR} {way : List Int} (h : inAll all way = true) {k : Nat} (hk : k < way.length) : ix all way[k] = some ((rsOf all way)[k]'(by simpa [rsOf] using hk)) := by
  have := List.all_eq_true.1 h _ (List.getElem_mem hk)
  simp only [Bool.and_eq_true, decide_eq_true_eq] at this
  rw [ix_in this.1 this.2]
  simp [rsOf]

section
variable {F : Nat} {all : List RR} {way : List Int}
theorem chain_l1 (hl : way.length < 1000000) : ∀ (m k : Nat), k ≤ way.length → way.length - k < m →
    ref01_chain_l1 F way all m (k : Int) = some (if inAll all (way.drop k) = true then .inr () else .inl (0, 3))
  | 0, k, _, h => by omega
  | m + 1, k, hk, h => by
    unfold ref01_chain_l1
    by_cases hlt : k < way.length
    · rw [if_pos (by simpa using hlt), ix_nat hlt]
      have hd : way.drop k = way[k] :: way.drop (k + 1) := List.drop_eq_getElem_cons hlt
      have ih := chain_l1 hl m (k + 1) (by omega) (by omega)
      simp only [Option.bind_eq_bind, Option.bind_some]
      unfold inAll at ih ⊢
      rw [hd, List.all_cons]
      by_cases a1 : way[k] < 0
      · simp only [a1, decide_true, if_true, Option.bind_some]
        rw [if_neg]
        simp only [Bool.and_eq_true, decide_eq_true_eq, not_and]
        omega
      · simp only [a1, decide_false, Bool.false_eq_true, if_false, Option.bind_some]
        by_cases a2 : (all.length : Int) ≤ way[k]
        · simp only [a2, decide_true, if_true]
          rw [if_neg]
          simp only [Bool.and_eq_true, decide_eq_true_eq, not_and]
          omega
        · simp only [a2, decide_false, Bool.false_eq_true, if_false]
          rw [w64_in (by omega)]
          have : (decide (0 ≤ way[k]) && decide (way[k] < (all.length : Int))) = true := by simp; omega
          rw [this, Bool.true_and]
          exact ih
    · rw [if_neg (by simpa using hlt), List.drop_of_length_le (by omega)]
      rfl
def prevT (rs : List RR) (k : Nat) : Option Int := if k = 0 then none else rs[k - 1]?.map fun r => r.2.1
theorem chain_l2 (hin : inAll all way = true) (hl : way.length < 1000000) : ∀ (m k : Nat) (c : Int), k ≤ way.length → way.length - k < m →
    ref01_chain_l2 F way all m c (k : Int) = some (if (linkE c (prevT (rsOf all way) k) ((rsOf all way).drop k)).2 = 0 then .inr (linkE c (prevT (rsOf all way) k) ((rsOf all way).drop k)).1 else .inl (0, 16))
  | 0, k, _, _, h => by omega
  | m + 1, k, c, hk, h => by
    have hrl : (rsOf all way).length = way.length := by simp [rsOf]
    unfold ref01_chain_l2
    by_cases hlt : k < way.length
    · rw [if_pos (by simpa using hlt), ix_nat hlt]
      have hd : (rsOf all way).drop k = (rsOf all way)[k]'(by omega) :: (rsOf all way).drop (k + 1) := List.drop_eq_getElem_cons (by omega)
      have ih := chain_l2 hin hl m (k + 1) (w64 (c + ((rsOf all way)[k]'(by omega)).2.2)) (by omega) (by omega)
      have hp : prevT (rsOf all way) (k + 1) = some ((rsOf all way)[k]'(by omega)).2.1 := by
        unfold prevT
        rw [if_neg (by omega), Nat.add_sub_cancel, List.getElem?_eq_getElem (by omega)]
        rfl
      rw [hp] at ih
      simp only [Option.bind_eq_bind, Option.bind_some, ix_rs hin hlt]
      rw [hd, w64_succ (show k < 1000000 by omega)]
      by_cases h0 : k = 0
      · subst h0
        have ep : prevT (rsOf all way) 0 = none := rfl
        rw [if_neg (by simp), ep, linkE_go]
        simp only [Option.bind_some, Bool.false_eq_true, if_false]
        exact ih
      · rw [if_pos (by simp; omega), w64_in (by omega)]
        have e1 : ((k : Int) - 1) = ((k - 1 : Nat) : Int) := by omega
        rw [e1, ix_nat (show k - 1 < way.length by omega)]
        simp only [Option.bind_some, ix_rs hin (show k - 1 < way.length by omega)]
        have hp0 : prevT (rsOf all way) k = some ((rsOf all way)[k - 1]'(by omega)).2.1 := by
          unfold prevT
          rw [if_neg h0, List.getElem?_eq_getElem (by omega)]
          rfl
        rw [hp0]
        by_cases he : ((rsOf all way)[k]'(by omega)).1 = ((rsOf all way)[k - 1]'(by omega)).2.1
        · rw [if_neg (by simp [he]), linkE_ok he]
          exact ih
        · rw [if_pos (by simp [he]), linkE_no he]
          rfl
    · rw [if_neg (by simpa using hlt), List.drop_of_length_le (by omega)]
      simp [linkE]
theorem chain_eq {x : Int × List RR} (hx : csheet x = 0) (hF : 1000 ≤ F) (hl : way.length ≤ 100) : ref01_chain F x way = some (chainS (whole x) way) := by
  obtain ⟨h1, h2, h3, _⟩ := csheet_ok hx
  unfold ref01_chain chainS
  rw [all_eq (x := (x.1, x.2)) (by omega) (by simp; omega) h3 h1]
  simp only [Option.bind_eq_bind, Option.bind_some]
  have t1 := chain_l1 (F := F) (all := whole (x.1, x.2)) (way := way) (by omega) F 0 (Nat.zero_le _) (by omega)
  simp only [Int.natCast_zero, List.drop_zero] at t1
  rw [t1]
  have ew : whole (x.1, x.2) = whole x := rfl
  rw [ew]
  cases hin : inAll (whole x) way with
  | false => rfl
  | true =>
    rw [if_pos rfl, if_pos rfl]
    simp only [Option.bind_some]
    have t2 := chain_l2 (F := F) hin (by omega) F 0 0 (Nat.zero_le _) (by omega)
    simp only [Int.natCast_zero, List.drop_zero] at t2
    rw [t2]
    have e : prevT (rsOf (whole x) way) 0 = none := rfl
    rw [e]
    by_cases h0 : (linkE 0 none (rsOf (whole x) way)).2 = 0
    · rw [if_pos h0]
      show some ((linkE 0 none (rsOf (whole x) way)).1, (0 : Int)) = some (linkE 0 none (rsOf (whole x) way))
      conv => rhs; rw [← Prod.eta (linkE 0 none (rsOf (whole x) way))]
      rw [h0]
    · rw [if_neg h0, linkE_err _ _ _ h0]
      rfl

/-! ### The program's own -/
def lastR (rs : List RR) (k : Nat) : RR := if k = 0 then (0, 0, 0) else (rs[k - 1]?).getD (0, 0, 0)
def firstR (rs : List RR) (k : Nat) : RR := if k = 0 then (0, 0, 0) else (rs[0]?).getD (0, 0, 0)
theorem follow_l1 {x0 : (Int × List RR) × List RR} (hall : x0.2 = all) (hne : ∀ r ∈ all, r.1 ≠ r.2.1) (hin : inAll all way = true) (hl : way.length < 1000000) : ∀ (m k : Nat) (c : Int), k ≤ way.length → way.length - k < m →
    speed_net_follow_l1 F x0 way m c (k : Int) (firstR (rsOf all way) k) (lastR (rsOf all way) k) = some (if (linkE c (prevT (rsOf all way) k) ((rsOf all way).drop k)).2 = 0 then .inr ((linkE c (prevT (rsOf all way) k) ((rsOf all way).drop k)).1, firstR (rsOf all way) way.length, lastR (rsOf all way) way.length) else .inl (0, 0, 0, 16))
  | 0, k, _, _, h => by omega
  | m + 1, k, c, hk, h => by
    have hrl : (rsOf all way).length = way.length := by simp [rsOf]
    unfold speed_net_follow_l1
    by_cases hlt : k < way.length
    · rw [if_pos (by simpa using hlt), ix_nat hlt]
      have hd : (rsOf all way).drop k = (rsOf all way)[k]'(by omega) :: (rsOf all way).drop (k + 1) := List.drop_eq_getElem_cons (by omega)
      have ih := follow_l1 hall hne hin hl m (k + 1) (w64 (c + ((rsOf all way)[k]'(by omega)).2.2)) (by omega) (by omega)
      have hp : prevT (rsOf all way) (k + 1) = some ((rsOf all way)[k]'(by omega)).2.1 := by
        unfold prevT
        rw [if_neg (by omega), Nat.add_sub_cancel, List.getElem?_eq_getElem (by omega)]
        rfl
      have hlr : lastR (rsOf all way) (k + 1) = (rsOf all way)[k]'(by omega) := by
        unfold lastR
        rw [if_neg (by omega), Nat.add_sub_cancel, List.getElem?_eq_getElem (by omega)]
        rfl
      rw [hp, hlr] at ih
      simp only [Option.bind_eq_bind, Option.bind_some, hall, ix_rs hin hlt]
      rw [hd, w64_succ (show k < 1000000 by omega)]
      have hz : ∀ (j : Nat) (hj : j < way.length), (rsOf all way)[j]'(by omega) ≠ (0, 0, 0) := fun j hj e => by
        have h1 := ix_rs hin hj
        rw [e] at h1
        obtain ⟨_, _, h2⟩ := ix_spec h1
        exact hne _ (List.mem_of_getElem? h2) rfl
      by_cases h0 : k = 0
      · subst h0
        have e1 : firstR (rsOf all way) 0 = (0, 0, 0) := rfl
        have e2 : lastR (rsOf all way) 0 = (0, 0, 0) := rfl
        have e3 : firstR (rsOf all way) (0 + 1) = (rsOf all way)[0]'(by omega) := by
          unfold firstR
          rw [if_neg (by omega), List.getElem?_eq_getElem (by omega)]
          rfl
        rw [e3] at ih
        have ep : prevT (rsOf all way) 0 = none := rfl
        rw [e1, e2, ep, linkE_go, if_neg (by simp), if_pos (by simp)]
        simp only [Option.bind_some]
        exact ih
      · have hp0 : prevT (rsOf all way) k = some ((rsOf all way)[k - 1]'(by omega)).2.1 := by
          unfold prevT
          rw [if_neg h0, List.getElem?_eq_getElem (by omega)]
          rfl
        have e2 : lastR (rsOf all way) k = (rsOf all way)[k - 1]'(by omega) := by
          unfold lastR
          rw [if_neg h0, List.getElem?_eq_getElem (by omega)]
          rfl
        have e1 : firstR (rsOf all way) k = (rsOf all way)[0]'(by omega) := by
          unfold firstR
          rw [if_neg h0, List.getElem?_eq_getElem (by omega)]
          rfl
        have e3 : firstR (rsOf all way) (k + 1) = (rsOf all way)[0]'(by omega) := by
          unfold firstR
          rw [if_neg (by omega), List.getElem?_eq_getElem (by omega)]
          rfl
        rw [e3] at ih
        rw [hp0, e1, e2]
        have z1 := hz (k - 1) (by omega)
        have z0 := hz 0 (by omega)
        by_cases he : ((rsOf all way)[k]'(by omega)).1 = ((rsOf all way)[k - 1]'(by omega)).2.1
        · rw [if_neg (by simp [he]), linkE_ok he, if_neg (by rw [decide_eq_true_eq]; exact z0)]
          simp only [Option.bind_some]
          exact ih
        · rw [if_pos (by simp only [Bool.and_eq_true, Bool.not_eq_true', decide_eq_false_iff_not]; exact ⟨z1, he⟩), linkE_no he]
          rfl
    · have : k = way.length := by omega
      subst this
      rw [if_neg (by simp), List.drop_of_length_le (by omega)]
      simp [linkE]
/-- Where a way comes from, where it leads, what it costs, and the error. -/
def followS (all : List RR) (way : List Int) : Int × Int × Int × Int :=
  if inAll all way = true then (if (linkE 0 none (rsOf all way)).2 = 0 then (firstF (rsOf all way), lastT (rsOf all way), (linkE 0 none (rsOf all way)).1, 0) else (0, 0, 0, 16)) else (0, 0, 0, 3)
theorem follow_eq {x : Int × List RR} (hx : csheet x = 0) (hF : 1000 ≤ F) (hl : way.length ≤ 100) : speed_net_follow F ((x.1, x.2), whole x) way = some (followS (whole x) way) := by
  unfold speed_net_follow followS
  rw [con_int (f := fun y => speed_net_follow_1 y ⟨some ((x.1, x.2), whole x)⟩) (p := fun y => !(decide (0 ≤ y) && decide (y < (whole x).length))) (fun y _ => by
    unfold speed_net_follow_1
    simp only [Option.bind_eq_bind, Option.bind_some]
    by_cases h1 : y < 0 <;> by_cases h2 : ((whole x).length : Int) ≤ y <;> simp [h1, h2] <;> omega) (by omega) (by omega), any_not]
  simp only [Option.bind_eq_bind, Option.bind_some]
  show (if (!inAll (whole x) way) = true then _ else _) = _
  cases hin : inAll (whole x) way with
  | false => rfl
  | true =>
    rw [if_neg (by simp), if_pos rfl]
    have hne : ∀ r ∈ whole x, r.1 ≠ r.2.1 := fun r hr => (whole_ok hx r hr).2.2.2.2.1
    have t := follow_l1 (F := F) (x0 := ((x.1, x.2), whole x)) rfl hne hin (by omega) F 0 0 (Nat.zero_le _) (by omega)
    simp only [Int.natCast_zero, List.drop_zero] at t
    have e : prevT (rsOf (whole x) way) 0 = none := rfl
    rw [e] at t
    have e1 : firstR (rsOf (whole x) way) 0 = (0, 0, 0) := rfl
    have e2 : lastR (rsOf (whole x) way) 0 = (0, 0, 0) := rfl
    rw [e1, e2] at t
    rw [t]
    have hrl : (rsOf (whole x) way).length = way.length := by simp [rsOf]
    by_cases h0 : (linkE 0 none (rsOf (whole x) way)).2 = 0
    · rw [if_pos h0, if_pos h0]
      simp only [Option.bind_some, Option.some.injEq]
      congr 1
      · unfold firstR firstF
        cases hw : rsOf (whole x) way with
        | nil => rw [hw] at hrl; simp at hrl; simp [← hrl]
        | cons r rs => rw [hw] at hrl; simp at hrl; simp [← hrl]
      · congr 1
        unfold lastR lastT
        rw [List.getLast?_eq_getElem?]
        rw [hrl]
        by_cases h1 : way.length = 0
        · rw [if_pos h1]
          have : rsOf (whole x) way = [] := List.eq_nil_of_length_eq_zero (by omega)
          simp [this]
        · rw [if_neg h1, List.getElem?_eq_getElem (by omega)]
          rfl
    · rw [if_neg h0, if_neg h0]
      rfl

def ccircle (x : Int × List RR) (way : List Int) : Int :=
  if csheet x ≠ 0 then csheet x else if inR 1 60 way.length = true then
    (if (chainS (whole x) way).2 ≠ 0 then (chainS (whole x) way).2 else if firstF (rsOf (whole x) way) ≠ lastT (rsOf (whole x) way) then 16 else if 0 ≤ (chainS (whole x) way).1 then 14 else 0)
  else 6
theorem followS_err : (followS all way).2.2.2 = (chainS all way).2 ∧ ((chainS all way).2 = 0 → (followS all way).1 = firstF (rsOf all way) ∧ (followS all way).2.1 = lastT (rsOf all way) ∧ (followS all way).2.2.1 = (chainS all way).1) := by
  unfold followS chainS
  by_cases hin : inAll all way = true
  · rw [if_pos hin, if_pos hin]
    by_cases h0 : (linkE 0 none (rsOf all way)).2 = 0
    · rw [if_pos h0]
      exact ⟨h0.symm, fun _ => ⟨rfl, rfl, rfl⟩⟩
    · rw [if_neg h0]
      refine ⟨?_, fun h => (h0 h).elim⟩
      rw [linkE_err _ _ _ h0]
  · rw [if_neg hin, if_neg hin]
    exact ⟨rfl, fun h => by cases h⟩
section
variable {x : Int × List RR}
theorem cc1 (h : csheet x ≠ 0) : ccircle x way = csheet x := by unfold ccircle; rw [if_pos h]
theorem cc2 (h : csheet x = 0) (h4 : inR 1 60 way.length = false) : ccircle x way = 6 := by unfold ccircle; rw [if_neg (fun e => e h), if_neg (by rw [h4]; simp)]
theorem cc3 (h : csheet x = 0) (h4 : inR 1 60 way.length = true) (h5 : (chainS (whole x) way).2 ≠ 0) : ccircle x way = (chainS (whole x) way).2 := by
  unfold ccircle; rw [if_neg (fun e => e h), if_pos h4, if_pos h5]
theorem cc4 (h : csheet x = 0) (h4 : inR 1 60 way.length = true) (h5 : (chainS (whole x) way).2 = 0) (h6 : firstF (rsOf (whole x) way) ≠ lastT (rsOf (whole x) way)) : ccircle x way = 16 := by
  unfold ccircle; rw [if_neg (fun e => e h), if_pos h4, if_neg (fun e => e h5), if_pos h6]
theorem cc5 (h : csheet x = 0) (h4 : inR 1 60 way.length = true) (h5 : (chainS (whole x) way).2 = 0) (h6 : firstF (rsOf (whole x) way) = lastT (rsOf (whole x) way)) : ccircle x way = if 0 ≤ (chainS (whole x) way).1 then 14 else 0 := by
  unfold ccircle; rw [if_neg (fun e => e h), if_pos h4, if_neg (fun e => e h5), if_neg (fun e => e h6)]
theorem checkCircle_eq (hF : 1000 ≤ F) (hl : way.length < 1000000) : speed_CheckCircle F x way = some (ccircle x way) := by
  unfold speed_CheckCircle
  simp only [checkSheet_eq (show 100 < F by omega), Option.bind_eq_bind, Option.bind_some]
  by_cases h : csheet x = 0
  · obtain ⟨h1, h2, h3, _⟩ := csheet_ok h
    rw [if_neg (by simp [h]), turns_eq (by simp; omega) (by simp)]
    simp only [Option.bind_some, List.all_cons, List.all_nil, Bool.and_true]
    cases h4 : inR 1 60 way.length with
    | false => rw [cc2 h h4]; rfl
    | true =>
      have h4' := h4
      simp only [inR, Bool.and_eq_true, decide_eq_true_eq] at h4'
      have ew : whole (x.1, x.2) = whole x := rfl
      rw [if_neg (by simp), newNet_eq (x := (x.1, x.2)) (by omega) (by simp; omega) h3 h1, ew]
      simp only [Option.bind_some, follow_eq h hF (show way.length ≤ 100 by omega)]
      obtain ⟨e1, e2⟩ := followS_err (all := whole x) (way := way)
      rw [e1]
      by_cases h5 : (chainS (whole x) way).2 = 0
      · obtain ⟨a1, a2, a3⟩ := e2 h5
        rw [if_neg (by simp [h5]), a1, a2, a3]
        by_cases h6 : firstF (rsOf (whole x) way) = lastT (rsOf (whole x) way)
        · rw [if_neg (by simp [h6]), cc5 h h4 h5 h6]
          by_cases h7 : 0 ≤ (chainS (whole x) way).1
          · rw [if_pos (by simpa using h7), if_pos h7]
          · rw [if_neg (by simpa using h7), if_neg h7]
        · rw [if_pos (by simp [h6]), cc4 h h4 h5 h6]
      · rw [if_pos (by simp [h5]), cc3 h h4 h5]
  · rw [if_pos (by simp [h]), cc1 h]
theorem refCircle_eq (hF : 1000 ≤ F) (hl : way.length < 1000000) : ref01_CheckCircle F x way = some (ccircle x way) := by
  unfold ref01_CheckCircle
  simp only [refSheet_eq (show 100 < F by omega), Option.bind_eq_bind, Option.bind_some]
  by_cases h : csheet x = 0
  · obtain ⟨h1, h2, h3, _⟩ := csheet_ok h
    have e0 : ((decide ((way.length : Int) < 1)) || (decide (60 < (way.length : Int)))) = !inR 1 60 way.length := by
      unfold inR
      by_cases a1 : (way.length : Int) < 1 <;> by_cases a2 : 60 < (way.length : Int) <;> simp [a1, a2] <;> omega
    rw [if_neg (by simp [h]), e0]
    cases h4 : inR 1 60 way.length with
    | false => rw [cc2 h h4]; rfl
    | true =>
      have h4' := h4
      simp only [inR, Bool.and_eq_true, decide_eq_true_eq] at h4'
      have ew : whole (x.1, x.2) = whole x := rfl
      rw [if_neg (by simp), chain_eq (x := (x.1, x.2)) h hF (by omega), ew]
      simp only [Option.bind_some]
      by_cases h5 : (chainS (whole x) way).2 = 0
      · rw [if_neg (by simp [h5]), all_eq (x := (x.1, x.2)) (by omega) (by simp; omega) h3 h1, ew]
        have hin : inAll (whole x) way = true := by
          unfold chainS at h5
          split at h5
          · assumption
          · cases h5
        have hrl : (rsOf (whole x) way).length = way.length := by simp [rsOf]
        have e1 : w64 ((way.length : Int) - 1) = ((way.length - 1 : Nat) : Int) := by rw [w64_in (by omega)]; omega
        have z0 : ix way 0 = some (way[0]'(by omega)) := ix_nat (k := 0) (by omega)
        rw [z0, e1, ix_nat (show way.length - 1 < way.length by omega)]
        simp only [Option.bind_some, ix_rs hin (show 0 < way.length by omega), ix_rs hin (show way.length - 1 < way.length by omega)]
        have f1 : firstF (rsOf (whole x) way) = ((rsOf (whole x) way)[0]'(by omega)).1 := by
          exact firstF_get _
        have f2 : lastT (rsOf (whole x) way) = ((rsOf (whole x) way)[way.length - 1]'(by omega)).2.1 := by
          unfold lastT
          rw [List.getLast?_eq_getElem?, List.getElem?_eq_getElem (by omega)]
          simp [hrl]
        rw [← f1, ← f2]
        by_cases h6 : firstF (rsOf (whole x) way) = lastT (rsOf (whole x) way)
        · rw [if_neg (by simp [h6]), cc5 h h4 h5 h6]
          by_cases h7 : 0 ≤ (chainS (whole x) way).1
          · rw [if_pos (by simpa using h7), if_pos (by simpa using h7)]
          · rw [if_neg (by simpa using h7), if_neg (by simpa using h7)]
        · rw [if_pos (by simp [h6]), cc4 h h4 h5 h6]
      · rw [if_pos (by simp [h5]), cc3 h h4 h5]
  · rw [if_pos (by simp [h]), cc1 h]
end
end
end Go.Proofs.Ythppacohnciinaa
