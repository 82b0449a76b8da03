/-
  What the pure functions compute, in plain words: searches, valid sheets, rules of pipes and springs. Condition: there are enough rounds.
-/
import Derived.Test.YthppacohnciinaaPureE
import Derived.IntWalk
import Derived.KernelRfl
namespace Go.Proofs.Ythppacohnciinaa
open Go Go.Md Go.RowKit

theorem w64_in {n : Int} (h : -9223372036854775808 ≤ n ∧ n ≤ 9223372036854775807) : w64 n = n := IntWalk.i64_in n h

/-! ### Searches -/
def idxL {α : Type} (l : List α) (f : α → Option Bool) : Nat → Int → Option (Sum Int Unit)
  | 0, _ => none
  | m + 1, k =>
    if (decide (k < (l.length : Int))) = true then
      (ix l k) >>= fun x => (f x) >>= fun b => if b = true then some (.inl k) else idxL l f m (w64 (k + 1))
    else some (.inr ())

theorem ix_nat {α : Type} {l : List α} {k : Nat} (h : k < l.length) : ix l (k : Int) = some l[k] := by
  simp [ix, List.getElem?_eq_getElem h]

theorem idxL_any {α : Type} {l : List α} {f : α → Option Bool} {p : α → Bool} (hf : ∀ x ∈ l, f x = some (p x)) (hl : l.length < 4611686018427387904) :
    ∀ (m k : Nat), k ≤ l.length → l.length - k < m → ∃ r, idxL l f m (k : Int) = some r ∧ ((l.drop k).any p = true → ∃ j : Nat, r = .inl (j : Int)) ∧ ((l.drop k).any p = false → r = .inr ())
  | 0, k, _, h => by omega
  | m + 1, k, hk, h => by
    unfold idxL
    by_cases hlt : k < l.length
    · have e : decide ((k : Int) < (l.length : Int)) = true := by simpa using hlt
      rw [if_pos e, ix_nat hlt]
      have hd : l.drop k = l[k] :: l.drop (k + 1) := List.drop_eq_getElem_cons hlt
      have hfx := hf l[k] (List.getElem_mem hlt)
      simp only [Option.bind_eq_bind, Option.bind_some, hfx]
      cases hp : p l[k] with
      | true =>
        refine ⟨_, if_pos rfl, fun _ => ⟨k, rfl⟩, fun h => ?_⟩
        rw [hd, List.any_cons, hp] at h
        cases h
      | false =>
        rw [if_neg (by simp), w64_in (by omega)]
        obtain ⟨r, h1, h2, h3⟩ := idxL_any hf hl m (k + 1) (by omega) (by omega)
        refine ⟨r, h1, ?_, ?_⟩ <;> rw [hd, List.any_cons, hp, Bool.false_or] <;> assumption
    · have e : ¬ decide ((k : Int) < (l.length : Int)) = true := by simpa using hlt
      rw [if_neg e]
      have : l.drop k = [] := List.drop_of_length_le (by omega)
      refine ⟨_, rfl, ?_, fun _ => rfl⟩
      rw [this]
      intro h
      cases h

section
variable {α : Type} {f : α → Option Bool} {p : α → Bool}
theorem idx_int {l : List Int} {f : Int → Option Bool} (F : Nat) : ∀ m k, slices_IndexFunc_int_l1 F l f m k = idxL l f m k
  | 0, _ => rfl
  | m + 1, k => by unfold slices_IndexFunc_int_l1 idxL; simp only [idx_int F m]
theorem idx_int64 {l : List Int} {f : Int → Option Bool} (F : Nat) : ∀ m k, slices_IndexFunc_int64_l1 F l f m k = idxL l f m k
  | 0, _ => rfl
  | m + 1, k => by unfold slices_IndexFunc_int64_l1 idxL; simp only [idx_int64 F m]
theorem idx_rule {l : List (Int × Int × Int)} {f : (Int × Int × Int) → Option Bool} (F : Nat) : ∀ m k, slices_IndexFunc_api_SpeedRule_l1 F l f m k = idxL l f m k
  | 0, _ => rfl
  | m + 1, k => by unfold slices_IndexFunc_api_SpeedRule_l1 idxL; simp only [idx_rule F m]

theorem con_int {l : List Int} {f : Int → Option Bool} {p : Int → Bool} {F : Nat} (hf : ∀ x ∈ l, f x = some (p x)) (hF : l.length < F) (hl : l.length < 4611686018427387904) : slices_ContainsFunc_int F l f = some (l.any p) := by
  obtain ⟨r, h1, h2, h3⟩ := idxL_any hf hl F 0 (Nat.zero_le _) (by omega)
  unfold slices_ContainsFunc_int slices_IndexFunc_int
  rw [idx_int]
  simp only [Int.natCast_zero, List.drop_zero] at h1 h2 h3
  rw [h1]
  cases hp : l.any p with
  | true => obtain ⟨j, rfl⟩ := h2 hp; simp [Option.bind_eq_bind]
  | false => obtain rfl := h3 hp; simp [Option.bind_eq_bind]
theorem con_int64 {l : List Int} {f : Int → Option Bool} {p : Int → Bool} {F : Nat} (hf : ∀ x ∈ l, f x = some (p x)) (hF : l.length < F) (hl : l.length < 4611686018427387904) : slices_ContainsFunc_int64 F l f = some (l.any p) := by
  obtain ⟨r, h1, h2, h3⟩ := idxL_any hf hl F 0 (Nat.zero_le _) (by omega)
  unfold slices_ContainsFunc_int64 slices_IndexFunc_int64
  rw [idx_int64]
  simp only [Int.natCast_zero, List.drop_zero] at h1 h2 h3
  rw [h1]
  cases hp : l.any p with
  | true => obtain ⟨j, rfl⟩ := h2 hp; simp [Option.bind_eq_bind]
  | false => obtain rfl := h3 hp; simp [Option.bind_eq_bind]
theorem con_rule {l : List (Int × Int × Int)} {f : (Int × Int × Int) → Option Bool} {p : (Int × Int × Int) → Bool} {F : Nat} (hf : ∀ x ∈ l, f x = some (p x)) (hF : l.length < F) (hl : l.length < 4611686018427387904) : slices_ContainsFunc_api_SpeedRule F l f = some (l.any p) := by
  obtain ⟨r, h1, h2, h3⟩ := idxL_any hf hl F 0 (Nat.zero_le _) (by omega)
  unfold slices_ContainsFunc_api_SpeedRule slices_IndexFunc_api_SpeedRule
  rw [idx_rule]
  simp only [Int.natCast_zero, List.drop_zero] at h1 h2 h3
  rw [h1]
  cases hp : l.any p with
  | true => obtain ⟨j, rfl⟩ := h2 hp; simp [Option.bind_eq_bind]
  | false => obtain rfl := h3 hp; simp [Option.bind_eq_bind]
end

def inR (lo hi n : Int) : Bool := decide (lo ≤ n) && decide (n ≤ hi)
theorem any_inR {lo hi : Int} (l : List Int) : (!l.any fun n => decide (n < lo) || decide (hi < n)) = l.all (inR lo hi) := by
  induction l with
  | nil => rfl
  | cons a l ih =>
    simp only [List.any_cons, List.all_cons, Bool.not_or, ih, inR]
    congr 1
    by_cases h1 : a < lo <;> by_cases h2 : hi < a <;> simp [h1, h2] <;> omega
theorem turns_eq {F : Nat} {lo hi : Int} {l : List Int} (hF : l.length < F) (hl : l.length < 4611686018427387904) : speed_turns F lo hi l = some (l.all (inR lo hi)) := by
  unfold speed_turns
  rw [con_int (f := fun y => speed_turns_1 y lo hi) (p := fun n => decide (n < lo) || decide (hi < n)) (fun x _ => rfl) hF hl]
  simp only [Option.bind_eq_bind, Option.bind_some, any_inR]
theorem within_eq {F : Nat} {lo hi : Int} {l : List Int} (hF : l.length < F) (hl : l.length < 4611686018427387904) : speed_within F lo hi l = some (l.all (inR lo hi)) := by
  unfold speed_within
  rw [con_int64 (f := fun y => speed_within_1 y lo hi) (p := fun n => decide (n < lo) || decide (hi < n)) (fun x _ => rfl) hF hl]
  simp only [Option.bind_eq_bind, Option.bind_some, any_inR]

/-! ### Lists that are compared -/
theorem rules_l1 {F : Nat} {l : List (Int × Int × Int)} (hl : l.length < 4611686018427387904) : ∀ (m k : Nat), k ≤ l.length → l.length - k < m → law01_rules_l1 F l l m (k : Int) = some (.inr ())
  | 0, k, _, h => by omega
  | m + 1, k, hk, h => by
    unfold law01_rules_l1
    by_cases hlt : k < l.length
    · have e : decide ((k : Int) < (l.length : Int)) = true := by simpa using hlt
      rw [if_pos e, ix_nat hlt]
      simp only [Option.bind_eq_bind, Option.bind_some]
      rw [if_neg (by simp), w64_in (by omega)]
      exact rules_l1 hl m (k + 1) (by omega) (by omega)
    · have e : ¬ decide ((k : Int) < (l.length : Int)) = true := by simpa using hlt
      rw [if_neg e]
theorem rules_same {F : Nat} {l : List (Int × Int × Int)} (hF : l.length < F) (hl : l.length < 4611686018427387904) : law01_rules F l l = some true := by
  unfold law01_rules
  rw [if_neg (by simp)]
  have := rules_l1 (F := F) hl F 0 (Nat.zero_le _) (by omega)
  simp only [Int.natCast_zero] at this
  rw [this]
  rfl

/-! ### Pipes and springs -/
theorem tone_eq {F : Nat} {l : List Int} (hF : l.length < F) (hl : l.length < 4611686018427387904) : speed_tone F l = some (l.all (inR 1 1000000)) := by
  unfold speed_tone
  rw [within_eq hF hl]
  rfl
theorem quo_some {a b : Int} (h : b ≠ 0) : quo a b = some (w64 (a.tdiv b)) := by simp [quo, h]

theorem pipe_same {F : Nat} (hF : 3 < F) (t p : Int) (r : Int × Int) : ∃ l e, speed_Pipe F t p r = some (l, e) ∧ ref01_Pipe t p r = some (l, e) ∧ l.length ≤ 2 := by
  unfold speed_Pipe ref01_Pipe ref01_tone
  rw [turns_eq (by simp; omega) (by simp), tone_eq (by simp; omega) (by simp)]
  simp only [Option.bind_eq_bind, Option.bind_some, List.all_cons, List.all_nil, Bool.and_true, inR]
  by_cases h1 : decide (1 ≤ t) && decide (t ≤ 20)
  · have h1' : ¬ ((decide (t < 1)) || (decide (20 < t))) = true := by simp at h1 ⊢; omega
    rw [if_neg (by rw [h1]; simp), if_neg h1']
    by_cases h2 : ((decide (1 ≤ p) && decide (p ≤ 1000000)) && ((decide (1 ≤ r.1) && decide (r.1 ≤ 1000000)) && (decide (1 ≤ r.2) && decide (r.2 ≤ 1000000)))) = true
    · simp only [Bool.and_eq_true, decide_eq_true_eq] at h2
      obtain ⟨⟨a1, a2⟩, ⟨a3, a4⟩, a5, a6⟩ := h2
      simp only [a1, a2, a3, a4, a5, a6, decide_true, Bool.and_self, Bool.not_true, Bool.false_or, gd, cond_true, Option.bind_some, Bool.not_false]
      by_cases h3 : r.2 < r.1
      · simp only [h3, decide_true, if_true]
        exact ⟨_, _, rfl, rfl, by simp⟩
      · simp only [h3, decide_false, Bool.false_eq_true, if_false]
        unfold speed_up__int64
        rw [quo_some (show r.1 ≠ 0 by omega), quo_some (show r.2 ≠ 0 by omega)]
        simp only [Option.bind_eq_bind, Option.bind_some]
        generalize (if w64 ((w64 (p * 16000)).tdiv r.1) < 100000 then w64 ((w64 (p * 16000)).tdiv r.1) else 100000) = g
        generalize w64 ((w64 (w64 (w64 (p * 16000) + r.2) - 1)).tdiv r.2) = q
        by_cases h4 : g < q
        · simp only [h4, decide_true, if_true]
          exact ⟨_, _, rfl, rfl, by simp⟩
        · simp only [h4, decide_false, Bool.false_eq_true, if_false]
          exact ⟨_, _, rfl, rfl, by simp⟩
    · refine ⟨[], 3, ?_, ?_, by simp⟩
      · rw [if_pos (by simp only [Bool.not_eq_true] at h2; rw [h2]; rfl)]
      · simp only [Bool.and_eq_true, decide_eq_true_eq, not_and] at h2
        by_cases b1 : 1 ≤ p ∧ p ≤ 1000000
        · simp only [b1.1, b1.2, decide_true, Bool.and_self, Bool.not_true, gd, Bool.not_false, cond_true, Option.bind_some, Bool.false_or]
          by_cases b2 : 1 ≤ r.1 ∧ r.1 ≤ 1000000
          · simp only [b2.1, b2.2, decide_true, Bool.and_self, Bool.not_true, Bool.not_false, cond_true, Option.bind_some, Bool.false_or]
            have b3 : (decide (1 ≤ r.2) && decide (r.2 ≤ 1000000)) = false := by simp; omega
            rw [b3]
            rfl
          · have b3 : (decide (1 ≤ r.1) && decide (r.1 ≤ 1000000)) = false := by simp; omega
            rw [b3]
            rfl
        · have b3 : (decide (1 ≤ p) && decide (p ≤ 1000000)) = false := by simp; omega
          rw [b3]
          rfl
  · have h1' : ((decide (t < 1)) || (decide (20 < t))) = true := by simp at h1 ⊢; omega
    simp only [Bool.not_eq_true] at h1
    rw [if_pos (by rw [h1]; rfl), if_pos h1']
    exact ⟨_, _, rfl, rfl, by simp⟩

theorem spring_l1 {F : Nat} {b d : Int} (hb : b ≤ 20) : ∀ (m : Nat) (y : List (Int × Int × Int)) (k : Int), 1 ≤ k → b - k < m → k ≤ b → y.length ≤ 2 * k.toNat → ∃ z, speed_Spring_l1 F b d m y k = some z ∧ ref01_Spring_l1 F b d m y k = some z ∧ z.length ≤ 100
  | 0, y, k, h1, h2, h3, h4 => by omega
  | m + 1, y, k, h1, h2, h3, h4 => by
    unfold speed_Spring_l1 ref01_Spring_l1
    by_cases hk : k < b
    · rw [if_pos (by simpa using hk), if_pos (by simpa using hk)]
      have ha : app 24 y ([(k, w64 (k + 1), 0), (w64 (k + 1), k, d)] : List (Int × Int × Int)) = some (y ++ [(k, w64 (k + 1), 0), (w64 (k + 1), k, d)]) := by
        unfold app
        rw [if_pos (by simp only [List.length_cons, List.length_nil]; omega)]
      rw [ha]
      simp only [Option.bind_eq_bind, Option.bind_some]
      rw [w64_in (by omega)]
      exact spring_l1 hb m _ (k + 1) (by omega) (by omega) (by omega) (by simp only [List.length_append, List.length_cons, List.length_nil]; omega)
    · rw [if_neg (by simpa using hk), if_neg (by simpa using hk)]
      exact ⟨y, rfl, rfl, by omega⟩

theorem spring_same {F : Nat} (hF : 50 < F) (a b d : Int) : ∃ l e, speed_Spring F a b d = some (l, e) ∧ ref01_Spring F a b d = some (l, e) ∧ l.length ≤ 100 := by
  unfold speed_Spring ref01_Spring
  rw [turns_eq (by simp; omega) (by simp), within_eq (by simp; omega) (by simp)]
  simp only [Option.bind_eq_bind, Option.bind_some, List.all_cons, List.all_nil, Bool.and_true]
  have e1 : ((!(inR 1 20 a && inR 1 20 b)) || decide (b ≤ a)) = !(inR 1 20 a && inR 1 20 b && decide (a < b)) := by
    have : decide (b ≤ a) = !decide (a < b) := by by_cases h : a < b <;> simp [h] <;> omega
    rw [this]
    cases inR 1 20 a <;> cases inR 1 20 b <;> cases decide (a < b) <;> rfl
  have e2 : (((((decide (a < 1)) || (decide (20 < a))) || (decide (b < 1))) || (decide (20 < b))) || (decide (b ≤ a))) = !(inR 1 20 a && inR 1 20 b && decide (a < b)) := by
    rw [← e1]
    congr 1
    unfold inR
    by_cases h1 : a < 1 <;> by_cases h2 : 20 < a <;> by_cases h3 : b < 1 <;> by_cases h4 : 20 < b <;> simp [h1, h2, h3, h4] <;> omega
  have e3 : ((decide (d < 0)) || (decide (100000 < d))) = !inR 0 100000 d := by
    unfold inR
    by_cases h1 : d < 0 <;> by_cases h2 : 100000 < d <;> simp [h1, h2] <;> omega
  rw [e1, e2, e3]
  cases h : (inR 1 20 a && inR 1 20 b && decide (a < b)) with
  | false => exact ⟨_, _, rfl, rfl, by simp⟩
  | true =>
    simp only [inR, Bool.and_eq_true, decide_eq_true_eq] at h
    obtain ⟨⟨⟨a1, a2⟩, a3, a4⟩, a5⟩ := h
    cases inR 0 100000 d with
    | false => exact ⟨_, _, rfl, rfl, by simp⟩
    | true =>
      obtain ⟨z, h3, h4, h5⟩ := spring_l1 (F := F) (d := d) a4 F [] a a1 (by omega) (by omega) (by simp)
      rw [h3, h4]
      exact ⟨z, 0, rfl, rfl, h5⟩

theorem works : law01_Works 1000 = some true := by kernel_rfl

/-- SpeedPipes, in plain words. -/
theorem speedPipes_true (x0 x1 : Int) (x2 : Int × Int) (x3 x4 : Int) : law01_SpeedPipes 1000 x0 x1 x2 x3 x4 = some true := by
  obtain ⟨l, e, h1, h2, h3⟩ := pipe_same (F := 1000) (by decide) x0 x1 (x2.1, x2.2)
  obtain ⟨l', e', h4, h5, h6⟩ := spring_same (F := 1000) (by decide) x0 x3 x4
  unfold law01_SpeedPipes
  rw [h1, h2, h4, h5]
  simp only [Option.bind_eq_bind, Option.bind_some]
  rw [rules_same (by omega) (by omega), rules_same (by omega) (by omega), works]
  simp
end Go.Proofs.Ythppacohnciinaa
