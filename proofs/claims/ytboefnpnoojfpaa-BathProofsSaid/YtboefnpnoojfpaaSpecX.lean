/-
  Laws in plain Lean, with no program in sight. Condition: each section says its own.
-/
import Derived.Test.YtboefnpnoojfpaaPureC
import Derived.Test.YtboefnpnoojfpaaPureD
import Derived.Test.YtboefnpnoojfpaaPureE
import Derived.IntWalk
import Derived.KernelRfl
set_option linter.unusedVariables false
set_option linter.unusedSimpArgs false
/-! Loops of the pure functions, in plain words; which workshops and stocks are valid. Condition: there are enough rounds. -/
namespace Go.Proofs.Ytboefnpnoojfpaa
open Go Go.Md Go.RowKit

theorem w64_in {n : Int} (h : -9223372036854775808 ≤ n ∧ n ≤ 9223372036854775807) : w64 n = n := IntWalk.i64_in n h
theorem w64_succ {k : Nat} (h : k < 4611686018427387904) : w64 ((k : Int) + 1) = ((k + 1 : Nat) : Int) := by rw [w64_in (by omega)]; omega
theorem ix_nat {α : Type} {l : List α} {k : Nat} (h : k < l.length) : ix l (k : Int) = some l[k] := by simp [ix, List.getElem?_eq_getElem h]
theorem ltd {k n : Nat} (h : k < n) : decide ((k : Int) < (n : Int)) = true := by simpa using h
theorem nltd {n : Nat} : ¬ decide ((n : Int) < (n : Int)) = true := by simp

/-! ### Loops -/
theorem any_loop {α ρ : Type} {l : List α} {L : Nat → Nat → Option (Sum ρ Unit)} {p : α → Bool} {c : ρ} (base : ∀ m, L (m + 1) l.length = some (.inr ()))
    (step : ∀ m k (h : k < l.length), L (m + 1) k = if p l[k] = true then some (.inl c) else L m (k + 1)) : ∀ m k, k ≤ l.length → l.length - k < m → L m k = some (if (l.drop k).any p = true then .inl c else .inr ())
  | 0, k, _, h => by omega
  | m + 1, k, hk, h => by
    by_cases hlt : k < l.length
    · rw [step m k hlt, List.drop_eq_getElem_cons hlt, List.any_cons]
      cases hp : p l[k] with
      | true => simp
      | false => rw [Bool.false_or, ← any_loop base step m (k + 1) (by omega) (by omega)]; simp
    · have : k = l.length := by omega
      subst this
      rw [base, List.drop_length]
      rfl
theorem any_loop0 {α ρ : Type} {l : List α} {L : Nat → Nat → Option (Sum ρ Unit)} {p : α → Bool} {c : ρ} (base : ∀ m, L (m + 1) l.length = some (.inr ()))
    (step : ∀ m k (h : k < l.length), L (m + 1) k = if p l[k] = true then some (.inl c) else L m (k + 1)) {m : Nat} (hm : l.length < m) : L m 0 = some (if l.any p = true then .inl c else .inr ()) := by
  have := any_loop base step m 0 (Nat.zero_le _) (by omega)
  rwa [List.drop_zero] at this
theorem idx_loop {α : Type} {l : List α} {L : Nat → Nat → Option (Sum Int Unit)} {p : α → Bool} (base : ∀ m, L (m + 1) l.length = some (.inr ()))
    (step : ∀ m k (h : k < l.length), L (m + 1) k = if p l[k] = true then some (.inl (k : Int)) else L m (k + 1)) : ∀ m k, k ≤ l.length → l.length - k < m →
    L m k = some (if (l.drop k).any p = true then .inl ((k + (l.drop k).findIdx p : Nat) : Int) else .inr ())
  | 0, k, _, h => by omega
  | m + 1, k, hk, h => by
    by_cases hlt : k < l.length
    · rw [step m k hlt, List.drop_eq_getElem_cons hlt, List.any_cons, List.findIdx_cons]
      cases hp : p l[k] with
      | true => simp
      | false =>
        rw [Bool.false_or, if_neg (by simp), idx_loop base step m (k + 1) (by omega) (by omega)]
        simp only [cond_false]
        rw [show k + 1 + (l.drop (k + 1)).findIdx p = k + ((l.drop (k + 1)).findIdx p + 1) by omega]
    · have : k = l.length := by omega
      subst this
      rw [base, List.drop_length]
      rfl
theorem idx_loop0 {α : Type} {l : List α} {L : Nat → Nat → Option (Sum Int Unit)} {p : α → Bool} (base : ∀ m, L (m + 1) l.length = some (.inr ()))
    (step : ∀ m k (h : k < l.length), L (m + 1) k = if p l[k] = true then some (.inl (k : Int)) else L m (k + 1)) {m : Nat} (hm : l.length < m) : L m 0 = some (if l.any p = true then .inl (l.findIdx p : Int) else .inr ()) := by
  have := idx_loop base step m 0 (Nat.zero_le _) (by omega)
  rwa [List.drop_zero, Nat.zero_add] at this
theorem fold_loop {α σ ρ : Type} {l : List α} {L : Nat → Nat → σ → Option ρ} {f : σ → α → σ} {fin : σ → ρ} {inv : Nat → σ → Prop} (base : ∀ m y, inv l.length y → L (m + 1) l.length y = some (fin y))
    (step : ∀ m k y (h : k < l.length), inv k y → L (m + 1) k y = L m (k + 1) (f y l[k]) ∧ inv (k + 1) (f y l[k])) : ∀ m k y, k ≤ l.length → l.length - k < m → inv k y → L m k y = some (fin ((l.drop k).foldl f y)) ∧ inv l.length ((l.drop k).foldl f y)
  | 0, k, _, _, h, _ => by omega
  | m + 1, k, y, hk, h, hi => by
    by_cases hlt : k < l.length
    · obtain ⟨h1, h2⟩ := step m k y hlt hi
      rw [h1, List.drop_eq_getElem_cons hlt, List.foldl_cons]
      exact fold_loop base step m (k + 1) _ (by omega) (by omega) h2
    · have : k = l.length := by omega
      subst this
      rw [base m y hi, List.drop_length]
      exact ⟨rfl, hi⟩
theorem fold_loop0 {α σ ρ : Type} {l : List α} {L : Nat → Nat → σ → Option ρ} {f : σ → α → σ} {fin : σ → ρ} {inv : Nat → σ → Prop} (base : ∀ m y, inv l.length y → L (m + 1) l.length y = some (fin y))
    (step : ∀ m k y (h : k < l.length), inv k y → L (m + 1) k y = L m (k + 1) (f y l[k]) ∧ inv (k + 1) (f y l[k])) {m : Nat} {y : σ} (hm : l.length < m) (hi : inv 0 y) : L m 0 y = some (fin (l.foldl f y)) ∧ inv l.length (l.foldl f y) := by
  have := fold_loop base step m 0 y (Nat.zero_le _) (by omega) hi
  rwa [List.drop_zero] at this

theorem app_some {α : Type} {b : Nat} {l k : List α} (h : (l.length + k.length) * b ≤ 140737488355328) : app b l k = some (l ++ k) := by
  unfold app
  rw [if_pos h]


theorem all_any {α : Type} (of : List α) (p : α → Bool) : of.all p = !of.any (fun y => !p y) := by
  induction of with
  | nil => rfl
  | cons a of ih => rw [List.all_cons, List.any_cons, Bool.not_or, Bool.not_not, ih]

/-! ### Numbers within bounds -/
def inr (lo hi : Int) (l : List Int) : Bool := l.all fun n => decide (lo ≤ n) && decide (n ≤ hi)
theorem inr_iff {lo hi : Int} {l : List Int} : inr lo hi l = true ↔ ∀ n ∈ l, lo ≤ n ∧ n ≤ hi := by simp [inr]
theorem contL {F : Nat} {l : List Int} {p' : Int → Option Bool} {p : Int → Bool} (hF : 1000000 < F) (hl : l.length ≤ 1000000) (h : ∀ x ∈ l, p' x = some (p x)) : slices_ContainsFunc_int64 F l p' = some (l.any p) := by
  unfold slices_ContainsFunc_int64 slices_IndexFunc_int64
  have := idx_loop0 (l := l) (L := fun m k => slices_IndexFunc_int64_l1 F l p' m (k : Int)) (p := p) (fun m => by
    simp only [slices_IndexFunc_int64_l1]; rw [if_neg nltd]) (fun m k hk => by
    simp only [slices_IndexFunc_int64_l1]
    rw [if_pos (ltd hk), ix_nat hk, w64_succ (by omega)]
    simp only [Option.bind_eq_bind, Option.bind_some, h _ (List.getElem_mem hk)]) (m := F) (by omega)
  simp only [Int.natCast_zero] at this
  rw [this]
  cases h2 : l.any p <;> simp
abbrev Mv := List Int × List Int
theorem contM {F : Nat} {l : List Mv} {p' : Mv → Option Bool} {p : Mv → Bool} (hF : 1000000 < F) (hl : l.length ≤ 1000000) (h : ∀ x ∈ l, p' x = some (p x)) : slices_ContainsFunc_api_BathMove F l p' = some (l.any p) := by
  unfold slices_ContainsFunc_api_BathMove slices_IndexFunc_api_BathMove
  have := idx_loop0 (l := l) (L := fun m k => slices_IndexFunc_api_BathMove_l1 F l p' m (k : Int)) (p := p) (fun m => by
    simp only [slices_IndexFunc_api_BathMove_l1]; rw [if_neg nltd]) (fun m k hk => by
    simp only [slices_IndexFunc_api_BathMove_l1]
    rw [if_pos (ltd hk), ix_nat hk, w64_succ (by omega)]
    have e : p' (l[k].1, l[k].2) = some (p l[k]) := h _ (List.getElem_mem hk)
    simp only [Option.bind_eq_bind, Option.bind_some, e]) (m := F) (by omega)
  simp only [Int.natCast_zero] at this
  rw [this]
  cases h2 : l.any p <;> simp
theorem any_inr (lo hi : Int) (l : List Int) : l.any (fun n => decide (n < lo) || decide (hi < n)) = !inr lo hi l := by
  unfold inr
  rw [all_any, Bool.not_not]
  congr 1
  funext n
  by_cases h1 : n < lo <;> by_cases h2 : hi < n <;> simp [h1, h2] <;> omega
theorem within_eq {F : Nat} {l : List Int} {lo hi : Int} (hF : 1000000 < F) (hl : l.length ≤ 1000000) : bath_within F lo hi l = some (inr lo hi l) := by
  unfold bath_within
  have := contL (p' := fun y => bath_within_1 y lo hi) hF hl (p := fun n => decide (n < lo) || decide (hi < n)) (fun x _ => rfl)
  rw [this, any_inr]
  simp
theorem rwithin_eq {F : Nat} {l : List Int} {hi : Int} (hF : 1000000 < F) (hl : l.length ≤ 1000000) : ref11_within F l hi = some (inr 0 hi l) := by
  unfold ref11_within
  have := any_loop0 (l := l) (L := fun m k => ref11_within_l1 F l hi m (k : Int)) (p := fun n => decide (n < 0) || decide (hi < n)) (c := false) (fun m => by
    simp only [ref11_within_l1]; rw [if_neg nltd]) (fun m k hk => by
    simp only [ref11_within_l1]
    rw [if_pos (ltd hk), ix_nat hk, w64_succ (by omega)]
    simp only [Option.bind_eq_bind, Option.bind_some]
    by_cases h1 : l[k] < 0 <;> by_cases h2 : hi < l[k] <;> simp [h1, h2]) (m := F) (by omega)
  simp only [Int.natCast_zero] at this
  rw [this, any_inr]
  cases inr 0 hi l <;> rfl

/-! ### How many stocks there can be -/
def prd (l : List Int) : Int := l.foldl (fun y c => y * (c + 1)) 1
theorem pow10 : ∀ k, k < 10 → (10 : Int) ^ k ≤ 1000000000 := by decide
theorem nc {a b : Nat} : ((a : Int) = (b : Int)) ↔ a = b := by omega
theorem prd_step {k : Nat} {y c : Int} (hk : k < 10) (h : 0 ≤ y ∧ y ≤ (10 : Int) ^ k) (hc : 0 ≤ c ∧ c ≤ 9) : w64 (y * w64 (c + 1)) = y * (c + 1) ∧ 0 ≤ y * (c + 1) ∧ y * (c + 1) ≤ (10 : Int) ^ (k + 1) := by
  have e1 : w64 (c + 1) = c + 1 := w64_in (by omega)
  have h1 : 0 ≤ y * (c + 1) := Int.mul_nonneg h.1 (by omega)
  have h2 : y * (c + 1) ≤ y * 10 := Int.mul_le_mul_of_nonneg_left (by omega) h.1
  have h3 : (10 : Int) ^ (k + 1) = 10 ^ k * 10 := Int.pow_succ ..
  have h4 := pow10 k hk
  rw [e1, w64_in (by omega)]
  exact ⟨rfl, h1, by omega⟩
theorem many_eq {F : Nat} {l : List Int} (hF : 1000000 < F) (hl : l.length ≤ 10) (h : inr 0 9 l = true) : bath_many F l = some (prd l) ∧ 0 ≤ prd l := by
  unfold bath_many
  have hc := inr_iff.1 h
  have := fold_loop0 (l := l) (L := fun m k y => bath_many_l1 F l m y (k : Int)) (f := fun y c => y * (c + 1)) (fin := id) (inv := fun k y => 0 ≤ y ∧ y ≤ (10 : Int) ^ k) (fun m y _ => by
    simp only [bath_many_l1]; rw [if_neg nltd]; rfl) (fun m k y hk hi => by
    have hz := prd_step (by omega) hi (hc _ (List.getElem_mem hk))
    simp only [bath_many_l1]
    rw [if_pos (ltd hk), ix_nat hk, w64_succ (by omega)]
    simp only [Option.bind_eq_bind, Option.bind_some, hz.1]
    exact ⟨trivial, hz.2⟩) (m := F) (y := 1) (by omega) (by simp)
  simp only [Int.natCast_zero] at this
  rw [this.1]
  exact ⟨rfl, this.2.1⟩
theorem Many_eq {F : Nat} {x : Spec} (hF : 1000000 < F) (hl : x.1.length ≤ 10) (h : inr 0 9 x.1 = true) : ref11_Many F x = some (prd x.1) := by
  rw [← (many_eq hF hl h).1]
  unfold ref11_Many bath_many
  have : ∀ m (y k : Int), ref11_Many_l1 F x m y k = bath_many_l1 F x.1 m y k := fun m => by
    induction m with
    | zero => intro y k; rfl
    | succ m ih => intro y k; simp only [ref11_Many_l1, bath_many_l1, ih]
  rw [this]

/-! ### Which workshops are valid -/
def lenNe (n : Nat) (m : Mv) : Bool := !decide (m.1.length = n) || !decide (m.2.length = n)
def badM (m : Mv) : Bool := !inr 0 5 m.1 || !inr 0 5 m.2
def cval (x : Spec) : Int :=
  if x.1.length = 0 ∨ 5 < x.1.length ∨ 8 < x.2.length then 6
  else if inr 0 9 x.1 = false then 2
  else if 4096 < prd x.1 then 6
  else if x.2.any (lenNe x.1.length) = true then 15
  else if x.2.any badM = true then 2
  else 0
theorem not_any {α : Type} {l : List α} {p : α → Bool} (h : ¬ l.any p = true) : ∀ a ∈ l, p a = false := fun a ha => by
  simp only [List.any_eq_true, not_exists, not_and] at h
  have := h a ha
  simpa using this
theorem check_eq {F : Nat} {x : Spec} (hF : 1000000 < F) : bath_CheckBath F x = some (cval x) := by
  unfold bath_CheckBath cval
  by_cases h1 : x.1.length = 0 ∨ 5 < x.1.length ∨ 8 < x.2.length
  · rw [if_pos (by simp only [Bool.or_eq_true, decide_eq_true_eq]; omega), if_pos h1]
  rw [if_neg (by simp only [Bool.or_eq_true, decide_eq_true_eq]; omega), if_neg h1]
  rw [within_eq hF (by omega)]
  simp only [Option.bind_eq_bind, Option.bind_some]
  cases h2 : inr 0 9 x.1 with
  | false => simp
  | true =>
    rw [(many_eq hF (by omega) h2).1]
    simp only [Option.bind_some, Bool.not_true, Bool.false_eq_true, if_false]
    by_cases h3 : 4096 < prd x.1
    · simp [h3]
    rw [if_neg (by simpa using h3), if_neg h3, contM hF (by omega) (p := lenNe x.1.length) (fun m _ => by
      simp [bath_CheckBath_2, lenNe, nc])]
    simp only [Option.bind_some, Bool.true_eq_false, if_false]
    by_cases h4 : x.2.any (lenNe x.1.length) = true
    · rw [if_pos h4, if_pos h4]
    rw [if_neg h4, if_neg h4, contM hF (by omega) (p := badM) (fun m hm => by
      have := not_any h4 m hm
      simp only [lenNe, Bool.or_eq_false_iff, Bool.not_eq_false', decide_eq_true_eq] at this
      simp only [bath_CheckBath_3, bath_CheckBath_1, badM, within_eq (F := F) (l := m.1) hF (by omega), within_eq (F := F) (l := m.2) hF (by omega)]
      by_cases e : inr 0 5 m.1 = true <;> simp [e])]
    simp only [Option.bind_some]
    by_cases h5 : x.2.any badM = true
    · rw [if_pos h5, if_pos h5]
    · rw [if_neg h5, if_neg h5]
theorem rcheck_eq {F : Nat} {x : Spec} (hF : 1000000 < F) : ref11_CheckBath F x = some (cval x) := by
  unfold ref11_CheckBath cval
  by_cases h1 : x.1.length = 0 ∨ 5 < x.1.length ∨ 8 < x.2.length
  · rw [if_pos (by simp only [Bool.or_eq_true, decide_eq_true_eq]; omega), if_pos h1]
  rw [if_neg (by simp only [Bool.or_eq_true, decide_eq_true_eq]; omega), if_neg h1]
  rw [rwithin_eq hF (by omega)]
  simp only [Option.bind_eq_bind, Option.bind_some]
  cases h2 : inr 0 9 x.1 with
  | false => simp
  | true =>
    rw [Many_eq hF (by omega) h2]
    simp only [Option.bind_some, Bool.not_true, Bool.false_eq_true, if_false, Bool.true_eq_false]
    by_cases h3 : 4096 < prd x.1
    · simp [h3]
    rw [if_neg (by simpa using h3), if_neg h3]
    have := any_loop0 (l := x.2) (L := fun m k => ref11_CheckBath_l1 F x m (k : Int)) (p := lenNe x.1.length) (c := 15) (fun m => by
      simp only [ref11_CheckBath_l1]; rw [if_neg nltd]) (fun m k hk => by
      simp only [ref11_CheckBath_l1]
      rw [if_pos (ltd hk), ix_nat hk, w64_succ (by omega)]
      simp only [Option.bind_eq_bind, Option.bind_some, lenNe]
      by_cases e1 : x.2[k].1.length = x.1.length <;> by_cases e2 : x.2[k].2.length = x.1.length <;> simp [e1, e2, nc]) (m := F) (by omega)
    simp only [Int.natCast_zero] at this
    rw [this]
    by_cases h4 : x.2.any (lenNe x.1.length) = true
    · rw [if_pos h4, if_pos h4]; rfl
    rw [if_neg h4, if_neg h4]
    have := any_loop0 (l := x.2) (L := fun m k => ref11_CheckBath_l2 F x m (k : Int)) (p := badM) (c := 2) (fun m => by
      simp only [ref11_CheckBath_l2]; rw [if_neg nltd]) (fun m k hk => by
      have := not_any h4 _ (List.getElem_mem hk)
      simp only [lenNe, Bool.or_eq_false_iff, Bool.not_eq_false', decide_eq_true_eq] at this
      simp only [ref11_CheckBath_l2]
      rw [if_pos (ltd hk), ix_nat hk, w64_succ (by omega)]
      simp only [Option.bind_eq_bind, Option.bind_some, rwithin_eq (F := F) (l := x.2[k].1) hF (by omega), rwithin_eq (F := F) (l := x.2[k].2) hF (by omega), badM]
      by_cases e1 : inr 0 5 x.2[k].1 = true <;> by_cases e2 : inr 0 5 x.2[k].2 = true <;> simp [e1, e2]) (m := F) (by omega)
    simp only [Int.natCast_zero] at this
    simp only [Option.bind_some]
    rw [this]
    by_cases h5 : x.2.any badM = true
    · rw [if_pos h5, if_pos h5]; rfl
    · rw [if_neg h5, if_neg h5]; rfl
structure V (x : Spec) : Prop where
  k1 : 1 ≤ x.1.length
  k5 : x.1.length ≤ 5
  m8 : x.2.length ≤ 8
  cap : ∀ c ∈ x.1, 0 ≤ c ∧ c ≤ 9
  prd : prd x.1 ≤ 4096
  mv : ∀ m ∈ x.2, m.1.length = x.1.length ∧ m.2.length = x.1.length ∧ (∀ t ∈ m.1, 0 ≤ t ∧ t ≤ 5) ∧ ∀ t ∈ m.2, 0 ≤ t ∧ t ≤ 5
theorem cval_ok {x : Spec} : cval x = 0 ↔ V x := by
  unfold cval
  constructor
  · intro h
    split at h
    · cases h
    split at h
    · cases h
    split at h
    · cases h
    split at h
    · cases h
    split at h
    · cases h
    rename_i h1 h2 h3 h4 h5
    refine ⟨by omega, by omega, by omega, inr_iff.1 (by simpa using h2), by omega, fun m hm => ?_⟩
    have a := not_any h4 m hm
    have b := not_any h5 m hm
    simp only [lenNe, badM, Bool.or_eq_false_iff, Bool.not_eq_false', decide_eq_true_eq] at a b
    exact ⟨a.1, a.2, inr_iff.1 b.1, inr_iff.1 b.2⟩
  · intro h
    rw [if_neg (by have := h.k1; have := h.k5; have := h.m8; omega), if_neg (by rw [inr_iff.2 h.cap]; simp), if_neg (by have := h.prd; omega), if_neg, if_neg]
    · simp only [List.any_eq_true, not_exists, not_and]
      intro m hm
      have := h.mv m hm
      simp [badM, inr_iff.2 this.2.2.1, inr_iff.2 this.2.2.2]
    · simp only [List.any_eq_true, not_exists, not_and]
      intro m hm
      have := h.mv m hm
      simp [lenNe, this.1, this.2.1]
def gr (x : Spec) : Bool := decide (10 < x.1.length) || decide (12 < x.2.length) || x.2.any fun m => decide (10 < m.1.length) || decide (10 < m.2.length)
theorem great_eq {F : Nat} {x : Spec} (hF : 1000000 < F) : law11_great F x = some (gr x) := by
  unfold law11_great gr
  by_cases h1 : 10 < x.1.length ∨ 12 < x.2.length
  · rw [if_pos (by simp only [Bool.or_eq_true, decide_eq_true_eq]; omega)]
    rcases h1 with h1 | h1 <;> simp [h1]
  rw [if_neg (by simp only [Bool.or_eq_true, decide_eq_true_eq]; omega)]
  have := any_loop0 (l := x.2) (L := fun m k => law11_great_l1 F x m (k : Int)) (p := fun m => decide (10 < m.1.length) || decide (10 < m.2.length)) (c := true) (fun m => by
    simp only [law11_great_l1]; rw [if_neg nltd]) (fun m k hk => by
    simp only [law11_great_l1]
    rw [if_pos (ltd hk), ix_nat hk, w64_succ (by omega)]
    simp only [Option.bind_eq_bind, Option.bind_some]
    by_cases e1 : 10 < x.2[k].1.length
    · have : (10 : Int) < (x.2[k].1.length : Int) := by omega
      simp [e1, this]
    · have : ¬ (10 : Int) < (x.2[k].1.length : Int) := by omega
      by_cases e2 : 10 < x.2[k].2.length
      · have h2 : (10 : Int) < (x.2[k].2.length : Int) := by omega
        simp [e1, e2, this, h2]
      · have h2 : ¬ (10 : Int) < (x.2[k].2.length : Int) := by omega
        simp [e1, e2, this, h2]) (m := F) (by omega)
  simp only [Int.natCast_zero] at this
  rw [this]
  have e1 : ¬ 10 < x.1.length := by omega
  have e2 : ¬ 12 < x.2.length := by omega
  simp only [e1, e2, decide_false, Bool.false_or]
  cases x.2.any fun m => decide (10 < m.1.length) || decide (10 < m.2.length) <;> rfl
end Go.Proofs.Ytboefnpnoojfpaa

/-! Stocks, moves and ways; what Make returns. Condition: there are enough rounds. -/
namespace Go.Proofs.Ytboefnpnoojfpaa
open Go Go.Md Go.RowKit

/-! ### Stocks -/
def inC : List Int → List Int → Bool
  | c :: cs, s :: ss => decide (0 ≤ s) && decide (s ≤ c) && inC cs ss
  | _, _ => true
def sval (x : Spec) (s : List Int) : Int := if s.length ≠ x.1.length then 15 else if inC x.1 s = false then 3 else 0
structure Stk (x : Spec) (s : List Int) : Prop where
  len : s.length = x.1.length
  inc : inC x.1 s = true
theorem sval_ok {x : Spec} {s : List Int} : sval x s = 0 ↔ Stk x s := by
  unfold sval
  constructor
  · intro h
    split at h
    · cases h
    split at h
    · cases h
    rename_i h1 h2
    exact ⟨by omega, by simpa using h2⟩
  · intro h
    rw [if_neg (by have := h.len; omega), if_neg (by rw [h.inc]; simp)]
theorem inC_get : ∀ {cs ss : List Int}, inC cs ss = true → ∀ (k : Nat) (h : k < ss.length) (h' : k < cs.length), 0 ≤ ss[k] ∧ ss[k] ≤ cs[k]
  | [], _, _, _, _, h' => by simp at h'
  | _ :: _, [], _, _, h, _ => by simp at h
  | c :: cs, s :: ss, hi, 0, _, _ => by
    simp only [inC, Bool.and_eq_true, decide_eq_true_eq] at hi
    exact hi.1
  | c :: cs, s :: ss, hi, k + 1, h, h' => by
    simp only [inC, Bool.and_eq_true] at hi
    simpa using inC_get hi.2 k (by simpa using h) (by simpa using h')
theorem Stk.rng {x : Spec} {s : List Int} (hx : V x) (h : Stk x s) : ∀ n ∈ s, 0 ≤ n ∧ n ≤ 9 := fun n hn => by
  obtain ⟨k, hk, rfl⟩ := List.getElem_of_mem hn
  have hk' : k < x.1.length := by rw [← h.len]; exact hk
  have := inC_get h.inc k hk hk'
  have := hx.cap _ (List.getElem_mem hk')
  omega

theorem isStock_eq {F : Nat} {x : Spec} {s : List Int} (hF : 1000000 < F) (hx : V x) : ref11_isStock F x s = some (sval x s) := by
  unfold ref11_isStock sval
  have k5 := hx.k5
  by_cases h1 : s.length = x.1.length
  · rw [if_neg (by simp [h1]), if_neg (by simpa using h1)]
    have loop : ∀ m k, k ≤ s.length → s.length - k < m → ref11_isStock_l1 F x s m (k : Int) = some (if inC (x.1.drop k) (s.drop k) = true then .inr () else .inl 3) := by
      intro m
      induction m with
      | zero => intro k _ h; omega
      | succ m ih =>
        intro k hk h
        simp only [ref11_isStock_l1]
        by_cases hlt : k < s.length
        · have hlt' : k < x.1.length := by omega
          rw [if_pos (ltd hlt), ix_nat hlt, ix_nat hlt', w64_succ (by omega), List.drop_eq_getElem_cons hlt, List.drop_eq_getElem_cons hlt', ih (k + 1) (by omega) (by omega)]
          simp only [Option.bind_eq_bind, Option.bind_some, inC]
          by_cases e1 : s[k] < 0
          · have : ¬ 0 ≤ s[k] := by omega
            simp [e1, this]
          · have : 0 ≤ s[k] := by omega
            by_cases e2 : x.1[k] < s[k]
            · have h2 : ¬ s[k] ≤ x.1[k] := by omega
              simp [e1, e2, h2]
            · have h2 : s[k] ≤ x.1[k] := by omega
              simp [e1, e2, h2, this]
        · have : k = s.length := by omega
          subst this
          rw [if_neg nltd, List.drop_length]
          cases x.1.drop s.length <;> rfl
    have := loop F 0 (by omega) (by omega)
    simp only [Int.natCast_zero, List.drop_zero] at this
    rw [this]
    cases inC x.1 s <;> rfl
  · rw [if_pos (by simp [nc, h1]), if_pos h1]
def one (x : Spec) (s : List Int) : Int := if cval x ≠ 0 then cval x else sval x s
theorem one_ok {x : Spec} {s : List Int} : one x s = 0 ↔ V x ∧ Stk x s := by
  unfold one
  constructor
  · intro h
    split at h
    · contradiction
    · rename_i h1
      exact ⟨cval_ok.1 (by simpa using h1), sval_ok.1 h⟩
  · rintro ⟨h1, h2⟩
    rw [if_neg (by rw [cval_ok.2 h1]; simp), sval_ok.2 h2]
theorem one_eq {F : Nat} {x : Spec} {s : List Int} (hF : 1000000 < F) : ref11_One F x s = some (one x s) := by
  unfold ref11_One one
  have hc : ref11_CheckBath F (x.1, x.2) = some (cval x) := rcheck_eq hF
  simp only [hc, Option.bind_eq_bind, Option.bind_some]
  by_cases h : cval x = 0
  · rw [if_neg (by simp [h]), if_neg (by simp [h])]
    have := isStock_eq (F := F) (s := s) hF (cval_ok.1 h)
    rw [show ref11_isStock F (x.1, x.2) s = some (sval x s) from this]
    rfl
  · rw [if_pos (by simp [h]), if_pos h]
def two (x : Spec) (s t : List Int) : Int := if one x s ≠ 0 then one x s else sval x t
theorem two_ok {x : Spec} {s t : List Int} : two x s t = 0 ↔ V x ∧ Stk x s ∧ Stk x t := by
  unfold two
  constructor
  · intro h
    split at h
    · contradiction
    · rename_i h1
      have := one_ok.1 (show one x s = 0 by simpa using h1)
      exact ⟨this.1, this.2, sval_ok.1 h⟩
  · rintro ⟨h1, h2, h3⟩
    rw [if_neg (by rw [one_ok.2 ⟨h1, h2⟩]; simp), sval_ok.2 h3]
theorem two_eq {F : Nat} {x : Spec} {s t : List Int} (hF : 1000000 < F) : ref11_Two F x s t = some (two x s t) := by
  unfold ref11_Two two
  have h1 : ref11_One F (x.1, x.2) s = some (one x s) := one_eq hF
  simp only [h1, Option.bind_eq_bind, Option.bind_some]
  by_cases h : one x s = 0
  · rw [if_neg (by simp [h]), if_neg (by simp [h])]
    have := isStock_eq (F := F) (s := t) hF (one_ok.1 h).1
    rw [show ref11_isStock F (x.1, x.2) t = some (sval x t) from this]
    rfl
  · rw [if_pos (by simp [h]), if_pos h]

/-! ### Arrays -/
def pad (l : List Int) : St := ⟨(l ++ List.replicate 5 0).take 5, by simp⟩
theorem pad_nil : pad [] = (Ar.fill 5 0 : St) := by unfold pad Ar.fill; simp
theorem pad_ix {l : List Int} {k : Nat} (h5 : l.length ≤ 5) (h : k < l.length) : ix (pad l).l (k : Int) = some l[k] := by
  unfold ix pad
  rw [if_pos (by omega)]
  simp only [Int.toNat_natCast]
  rw [List.getElem?_take, if_pos (by omega), List.getElem?_append_left h, List.getElem?_eq_getElem h]
theorem pad_ix0 {l : List Int} {k : Nat} (h : k < 5) : ∃ v, ix (pad l).l (k : Int) = some v := by
  have : k < (pad l).l.length := by rw [(pad l).h]; exact h
  exact ⟨_, ix_nat this⟩
theorem ar_ext {m : Nat} {a b : Ar m Int} (h : a.l = b.l) : a = b := by cases a; cases b; cases h; rfl
theorem pad_set {pre az : List Int} {a v : Int} (h : (pre ++ a :: az).length ≤ 5) : aset (pad (pre ++ a :: az)) (pre.length : Int) v = pad (pre ++ v :: az) := by
  apply ar_ext
  simp only [aset, pad, Int.toNat_natCast]
  simp only [List.length_append, List.length_cons] at h
  apply List.ext_getElem?
  intro j
  rw [List.getElem?_set]
  by_cases e : pre.length = j
  · subst e
    rw [if_pos rfl, if_pos (by simp; omega), List.getElem?_take, if_pos (by omega), List.append_assoc, List.getElem?_append_right (Nat.le_refl _)]
    simp
  · rw [if_neg e, List.getElem?_take, List.getElem?_take]
    split
    · by_cases e2 : j < pre.length
      · simp only [List.append_assoc, List.getElem?_append_left e2]
      · obtain ⟨d, hd⟩ : ∃ d, j - pre.length = d + 1 := ⟨j - pre.length - 1, by omega⟩
        simp only [List.append_assoc, List.cons_append, List.getElem?_append (l₁ := pre), if_neg e2, hd, List.getElem?_cons_succ]
    · rfl
theorem pad_push {pre : List Int} {v : Int} (h : pre.length < 5) : aset (pad pre) (pre.length : Int) v = pad (pre ++ [v]) := by
  have e : pad pre = pad (pre ++ 0 :: []) := by
    apply ar_ext
    simp only [pad]
    rw [show (0 : Int) :: [] = List.replicate 1 0 from rfl, List.append_assoc, List.take_append, List.take_append]
    congr 1
    rw [show List.replicate 1 (0 : Int) ++ List.replicate 5 0 = List.replicate 6 0 from rfl, List.take_replicate, List.take_replicate]
    congr 1
    omega
  rw [e, pad_set (by simp; omega)]
/-! ### Moves -/
def nx : List Int → List Int → List Int → List Int
  | a :: az, t :: ts, g :: gs => (a - t + g) :: nx az ts gs
  | _, _, _ => []
def okm : List Int → List Int → List Int → List Int → Bool
  | c :: cs, a :: az, t :: ts, g :: gs => decide (t ≤ a) && decide (a - t + g ≤ c) && okm cs az ts gs
  | _, _, _, _ => true
theorem nx_len : ∀ {a t g : List Int}, t.length = a.length → g.length = a.length → (nx a t g).length = a.length
  | [], _, _, _, _ => rfl
  | a :: az, t :: ts, g :: gs, h1, h2 => by simp [nx, nx_len (a := az) (t := ts) (g := gs) (by simpa using h1) (by simpa using h2)]
  | _ :: _, [], _, h1, _ => by simp at h1
  | _ :: _, _ :: _, [], _, h2 => by simp at h2
theorem nx_inC : ∀ {c a t g : List Int}, (∀ n ∈ g, 0 ≤ n) → okm c a t g = true → inC c (nx a t g) = true
  | [], _, _, _, _, _ => rfl
  | _ :: _, [], _, _, _, _ => rfl
  | _ :: _, _ :: _, [], _, _, _ => rfl
  | _ :: _, _ :: _, _ :: _, [], _, _ => rfl
  | c :: cs, a :: az, t :: ts, g :: gs, hg, h => by
    simp only [okm, Bool.and_eq_true, decide_eq_true_eq] at h
    have := hg g (by simp)
    have hi := nx_inC (c := cs) (a := az) (t := ts) (g := gs) (fun n hn => hg n (by simp [hn])) h.2
    simp only [nx, inC, Bool.and_eq_true, decide_eq_true_eq]
    exact ⟨by omega, hi⟩
def stp (x : Spec) (i : Int) (a : List Int) : Option (List Int) := (ix x.2 i) >>= fun m => if okm x.1 a m.1 m.2 = true then some (nx a m.1 m.2) else none
theorem stp_some {x : Spec} {i : Int} {a b : List Int} (h : stp x i a = some b) : ∃ m, ix x.2 i = some m ∧ m ∈ x.2 ∧ okm x.1 a m.1 m.2 = true ∧ b = nx a m.1 m.2 := by
  unfold stp at h
  obtain ⟨m, h1, h2⟩ := bs h
  split at h2
  · rename_i h3
    cases h2
    exact ⟨m, h1, List.mem_of_getElem? (ix_spec h1).2.2, h3, rfl⟩
  · cases h2
theorem Stk.stp {x : Spec} {i : Int} {a b : List Int} (hx : V x) (ha : Stk x a) (h : stp x i a = some b) : Stk x b := by
  obtain ⟨m, _, hm, ho, rfl⟩ := stp_some h
  obtain ⟨l1, l2, _, g5⟩ := hx.mv m hm
  exact ⟨by rw [nx_len (by rw [l1, ha.len]) (by rw [l2, ha.len]), ha.len], nx_inC (fun n hn => (g5 n hn).1) ho⟩

end Go.Proofs.Ytboefnpnoojfpaa

/-! A shop, opened; ways; what Make returns. Condition: there are enough rounds. -/
namespace Go.Proofs.Ytboefnpnoojfpaa
open Go Go.Md Go.RowKit

theorem inC_cons {c s : Int} {cs ss : List Int} : inC (c :: cs) (s :: ss) = ((decide (0 ≤ s) && decide (s ≤ c)) && inC cs ss) := rfl
theorem open_l2_eq {F : Nat} {x : Spec} {l : List Int} (hF : 1000000 < F) (hx : V x) (hl : l.length = x.1.length) : bath_open_l2 F x l F 0 (Ar.fill 5 0 : St) = some (if inC x.1 l = true then .inr (pad l) else .inl (⟨none⟩, [], 3)) := by
  have k5 := hx.k5
  have loop : ∀ m k, k ≤ l.length → l.length - k < m → bath_open_l2 F x l m (k : Int) (pad (l.take k)) = some (if inC (x.1.drop k) (l.drop k) = true then .inr (pad l) else .inl (⟨none⟩, [], 3)) := by
    intro m
    induction m with
    | zero => intro k _ h; omega
    | succ m ih =>
      intro k hk h
      simp only [bath_open_l2]
      by_cases hlt : k < l.length
      · have hlt' : k < x.1.length := by omega
        obtain ⟨v, hv⟩ := pad_ix0 (l := l.take k) (k := k) (by omega)
        have hp : aset (pad (l.take k)) (k : Int) l[k] = pad (l.take (k + 1)) := by
          have h1 : (l.take k).length = k := by rw [List.length_take]; omega
          have := pad_push (pre := l.take k) (v := l[k]) (by omega)
          rw [h1] at this
          rw [this, List.take_add_one, List.getElem?_eq_getElem hlt]
          rfl
        have hw : bath_within F 0 x.1[k] [l[k]] = some (decide (0 ≤ l[k]) && decide (l[k] ≤ x.1[k])) := by
          rw [within_eq hF (by simp)]
          simp [inr]
        rw [if_pos (ltd hlt), ix_nat hlt, ix_nat hlt', w64_succ (by omega), List.drop_eq_getElem_cons hlt, List.drop_eq_getElem_cons hlt', inC_cons]
        simp only [Option.bind_eq_bind, Option.bind_some, hw, hv, hp, ih (k + 1) (by omega) (by omega)]
        by_cases e : (decide (0 ≤ l[k]) && decide (l[k] ≤ x.1[k])) = true
        · rw [e]; simp
        · have e : (decide (0 ≤ l[k]) && decide (l[k] ≤ x.1[k])) = false := by simpa using e
          rw [e]; simp
      · have : k = l.length := by omega
        subst this
        rw [if_neg nltd, List.drop_length, List.take_length]
        cases x.1.drop l.length <;> rfl
  have := loop F 0 (by omega) (by omega)
  simp only [Int.natCast_zero, List.drop_zero, List.take_zero, pad_nil] at this
  exact this
def opl (x : Spec) : List (List Int) → List St → Sum Int (List St)
  | [], acc => .inr acc
  | l :: ls, acc => if sval x l ≠ 0 then .inl (sval x l) else opl x ls (acc ++ [pad l])
abbrev Sh := Ob (Spec × Opq)
def opr : Sum Int (List St) → Sum (Sh × List St × Int) (List St)
  | .inl e => .inl (⟨none⟩, [], e)
  | .inr r => .inr r
theorem open_l1_eq {F : Nat} {x : Spec} {ls : List (List Int)} (hF : 1000000 < F) (hx : V x) (hls : ls.length ≤ 10) : bath_open_l1 F x ls F [] 0 = some (opr (opl x ls [])) := by
  have loop : ∀ m k acc, k ≤ ls.length → ls.length - k < m → acc.length ≤ k → bath_open_l1 F x ls m acc (k : Int) = some (opr (opl x (ls.drop k) acc)) := by
    intro m
    induction m with
    | zero => intro k _ _ h; omega
    | succ m ih =>
      intro k acc hk h ha
      simp only [bath_open_l1]
      by_cases hlt : k < ls.length
      · rw [if_pos (ltd hlt), ix_nat hlt, w64_succ (by omega), List.drop_eq_getElem_cons hlt]
        simp only [Option.bind_eq_bind, Option.bind_some, opl]
        by_cases e : ls[k].length = x.1.length
        · rw [if_neg (by simp [e]), open_l2_eq hF hx e]
          simp only [Option.bind_some]
          cases e2 : inC x.1 ls[k] with
          | false =>
            have : sval x ls[k] = 3 := by unfold sval; rw [if_neg (by simpa using e), if_pos e2]
            simp [this, opr]
          | true =>
            have : sval x ls[k] = 0 := sval_ok.2 ⟨e, e2⟩
            rw [if_pos rfl, this]
            simp only [ne_eq, not_true, if_false]
            rw [app_some (by simp; omega)]
            simp only [Option.bind_some]
            exact ih (k + 1) _ (by omega) (by omega) (by simp; omega)
        · have : sval x ls[k] = 15 := by unfold sval; rw [if_pos e]
          rw [if_pos (by simp [nc, e]), this]
          rfl
      · have : k = ls.length := by omega
        subst this
        rw [if_neg nltd, List.drop_length]
        rfl
  have := loop F 0 [] (by omega) (by omega) (by simp)
  simp only [Int.natCast_zero, List.drop_zero] at this
  exact this
theorem open2 {F : Nat} {x : Spec} {s t : List Int} (hF : 1000000 < F) : bath_open F x [s, t] = some (if two x s t = 0 then (⟨some (x, Opq.mk)⟩, [pad s, pad t], 0) else (⟨none⟩, [], two x s t)) := by
  unfold bath_open two one
  have hc : bath_CheckBath F (x.1, x.2) = some (cval x) := check_eq hF
  simp only [hc, Option.bind_eq_bind, Option.bind_some]
  by_cases h : cval x = 0
  · rw [if_neg (by simp [h]), open_l1_eq hF (cval_ok.1 h) (by simp)]
    simp only [opl, Option.bind_some, h, ne_eq, not_true, if_false]
    by_cases h1 : sval x s = 0
    · by_cases h2 : sval x t = 0
      · simp [h1, h2, opr]
      · simp [h1, h2, opr]
    · simp [h1, opr]
  · rw [if_pos (by simp [h])]
    simp [h]

/-! ### Ways -/
def run (x : Spec) : List Int → List Int → Option (List Int)
  | [], a => some a
  | i :: w, a => (stp x i a) >>= run x w
theorem run_nil {x : Spec} {a : List Int} : run x [] a = some a := rfl
theorem run_cons {x : Spec} {i : Int} {w a : List Int} : run x (i :: w) a = (stp x i a) >>= run x w := rfl
theorem run_app {x : Spec} : ∀ {w v a : List Int}, run x (w ++ v) a = (run x w a) >>= run x v
  | [], v, a => rfl
  | i :: w, v, a => by
    simp only [List.cons_append, run_cons, Option.bind_eq_bind]
    cases h : stp x i a with
    | none => rfl
    | some b => simpa using run_app (w := w) (v := v) (a := b)
theorem Stk.run {x : Spec} (hx : V x) : ∀ {w a b : List Int}, Stk x a → run x w a = some b → Stk x b
  | [], a, b, ha, h => by cases h; exact ha
  | i :: w, a, b, ha, h => by
    rw [run_cons] at h
    obtain ⟨c, h1, h2⟩ := bs h
    exact Stk.run hx (ha.stp hx h1) h2
def badI (x : Spec) (i : Int) : Bool := decide (i < 0) || decide ((x.2.length : Int) ≤ i)
def mk (x : Spec) (s w : List Int) : List Int × Int :=
  if one x s ≠ 0 then ([], one x s) else if 4096 < w.length then ([], 6) else if w.any (badI x) = true then ([], 3) else match run x w s with
  | some v => (v, 0)
  | none => ([], 9)
/-- Rounds enough for each law. -/
abbrev FF : Nat := 4000000000
theorem works : law11_Works FF = some true := by kernel_rfl
theorem ffok : 2000000000 < FF := by decide
end Go.Proofs.Ytboefnpnoojfpaa

/-! What can be reached, and in how many moves; the numbers of stocks; the search by a queue. Condition: there are enough rounds. -/
namespace Go.Proofs.Ytboefnpnoojfpaa
open Go Go.Md Go.RowKit

/-! ### Maps -/
section
variable {κ ν : Type} [DecidableEq κ]
end
/-! ### Reaching -/
def Rn (x : Spec) (n : Nat) (s v : List Int) : Prop := ∃ w : List Int, w.length = n ∧ run x w s = some v
def D (x : Spec) (s v : List Int) (n : Nat) : Prop := Rn x n s v ∧ ∀ m, m < n → ¬ Rn x m s v
section
variable {x : Spec} {s u v : List Int}
theorem Rn_zero : Rn x 0 s v ↔ v = s := by
  constructor
  · rintro ⟨w, h1, h2⟩
    have := List.eq_nil_of_length_eq_zero h1
    subst this
    cases h2
    rfl
  · rintro rfl
    exact ⟨[], rfl, rfl⟩
theorem Rn.snoc {n : Nat} {i : Int} (h : Rn x n s u) (hi : stp x i u = some v) : Rn x (n + 1) s v := by
  obtain ⟨w, h1, h2⟩ := h
  refine ⟨w ++ [i], by simp [h1], ?_⟩
  rw [run_app, h2]
  simp [run_cons, hi, run_nil]
theorem Rn.split : ∀ {n : Nat} {s v : List Int}, Rn x (n + 1) s v → ∃ u i, Rn x n s u ∧ stp x i u = some v
  | 0, s, v, ⟨w, h1, h2⟩ => by
    match w, h1 with
    | [i], _ =>
      rw [run_cons] at h2
      obtain ⟨c, h3, h4⟩ := bs h2
      cases h4
      exact ⟨s, i, Rn_zero.2 rfl, h3⟩
  | n + 1, s, v, ⟨w, h1, h2⟩ => by
    match w, h1 with
    | i :: w, h1 =>
      rw [run_cons] at h2
      obtain ⟨c, h3, h4⟩ := bs h2
      obtain ⟨u, j, ⟨w', h5, h6⟩, h7⟩ := Rn.split (n := n) (s := c) ⟨w, by simpa using h1, h4⟩
      exact ⟨u, j, ⟨i :: w', by simp [h5], by rw [run_cons, h3]; exact h6⟩, h7⟩
theorem Rn.stk (hx : V x) {n : Nat} (hs : Stk x s) (h : Rn x n s v) : Stk x v := by
  obtain ⟨w, _, h⟩ := h
  exact hs.run hx h
theorem D.ex {n : Nat} (h : Rn x n s v) : ∃ k, k ≤ n ∧ D x s v k := by
  induction n using Nat.strongRecOn with
  | _ n ih =>
    by_cases h1 : ∃ m, m < n ∧ Rn x m s v
    · obtain ⟨m, hm, h2⟩ := h1
      obtain ⟨k, hk, h3⟩ := ih m hm h2
      exact ⟨k, by omega, h3⟩
    · exact ⟨n, Nat.le_refl _, h, fun m hm h2 => h1 ⟨m, hm, h2⟩⟩
theorem D.uniq {n m : Nat} (h : D x s v n) (k : D x s v m) : n = m := by
  rcases Nat.lt_trichotomy n m with h1 | h1 | h1
  · exact (k.2 n h1 h.1).elim
  · exact h1
  · exact (h.2 m h1 k.1).elim
theorem D.le {n m : Nat} (h : D x s v n) (k : Rn x m s v) : n ≤ m := by
  rcases Nat.lt_or_ge m n with h1 | h1
  · exact (h.2 m h1 k).elim
  · exact h1
theorem D.pred {n : Nat} (h : D x s v (n + 1)) : ∃ u i, D x s u n ∧ stp x i u = some v := by
  obtain ⟨u, i, h1, h2⟩ := h.1.split
  exact ⟨u, i, ⟨h1, fun m hm h3 => h.2 (m + 1) (by omega) (h3.snoc h2)⟩, h2⟩
theorem Rn.trans {n m : Nat} (h : Rn x n s u) (k : Rn x m u v) : Rn x (n + m) s v := by
  obtain ⟨w, h1, h2⟩ := h
  obtain ⟨w', h3, h4⟩ := k
  exact ⟨w ++ w', by simp [h1, h3], by rw [run_app, h2]; exact h4⟩
end

/-! ### The number of a stock -/
def idxA : Int → List Int → List Int → Int
  | acc, c :: cs, s :: ss => idxA (acc * (c + 1) + s) cs ss
  | acc, _, _ => acc
theorem idxA_bd : ∀ {cs ss : List Int} {acc : Int}, 0 ≤ acc → (∀ c ∈ cs, 0 ≤ c) → inC cs ss = true → ss.length = cs.length → 0 ≤ idxA acc cs ss ∧ idxA acc cs ss + 1 ≤ cs.foldl (fun y c => y * (c + 1)) (acc + 1)
  | [], [], acc, h0, _, _, _ => ⟨h0, Int.le_refl _⟩
  | [], _ :: _, _, _, _, _, hl => by simp at hl
  | _ :: _, [], _, _, _, _, hl => by simp at hl
  | c :: cs, s :: ss, acc, h0, hc, hi, hl => by
    rw [inC_cons] at hi
    simp only [Bool.and_eq_true, decide_eq_true_eq] at hi
    have hc0 := hc c (by simp)
    have h1 : 0 ≤ acc * (c + 1) := Int.mul_nonneg h0 (by omega)
    have ih := idxA_bd (cs := cs) (ss := ss) (acc := acc * (c + 1) + s) (by omega) (fun c hc' => hc c (by simp [hc'])) hi.2 (by simpa using hl)
    simp only [idxA, List.foldl_cons]
    refine ⟨ih.1, Int.le_trans ih.2 ?_⟩
    have mono : ∀ (l : List Int) (a b : Int), (∀ c ∈ l, 0 ≤ c) → a ≤ b → l.foldl (fun y c => y * (c + 1)) a ≤ l.foldl (fun y c => y * (c + 1)) b := by
      intro l
      induction l with
      | nil => intro a b _ h; exact h
      | cons d l ih =>
        intro a b hl h
        have hd := hl d (by simp)
        exact ih _ _ (fun c hc => hl c (by simp [hc])) (Int.mul_le_mul_of_nonneg_right h (by omega))
    refine mono cs _ _ (fun c hc' => hc c (by simp [hc'])) ?_
    have : (acc + 1) * (c + 1) = acc * (c + 1) + (c + 1) := by rw [Int.add_mul, Int.one_mul]
    omega
theorem idxA_inj : ∀ {cs ss tt : List Int} {a b : Int}, inC cs ss = true → inC cs tt = true → ss.length = cs.length → tt.length = cs.length → idxA a cs ss = idxA b cs tt → a = b ∧ ss = tt
  | [], [], [], a, b, _, _, _, _, h => ⟨h, rfl⟩
  | [], _ :: _, _, _, _, _, _, hl, _, _ => by simp at hl
  | [], [], _ :: _, _, _, _, _, _, hl, _ => by simp at hl
  | _ :: _, [], _, _, _, _, _, hl, _, _ => by simp at hl
  | _ :: _, _ :: _, [], _, _, _, _, _, hl, _ => by simp at hl
  | c :: cs, s :: ss, t :: tt, a, b, h1, h2, l1, l2, h => by
    rw [inC_cons] at h1 h2
    simp only [Bool.and_eq_true, decide_eq_true_eq] at h1 h2
    simp only [idxA] at h
    obtain ⟨h3, rfl⟩ := idxA_inj h1.2 h2.2 (by simpa using l1) (by simpa using l2) h
    have h4 : a = b := by
      rcases Int.lt_trichotomy a b with h5 | h5 | h5
      · have : (a + 1) * (c + 1) ≤ b * (c + 1) := Int.mul_le_mul_of_nonneg_right (by omega) (by omega)
        rw [Int.add_mul, Int.one_mul] at this
        omega
      · exact h5
      · have : (b + 1) * (c + 1) ≤ a * (c + 1) := Int.mul_le_mul_of_nonneg_right (by omega) (by omega)
        rw [Int.add_mul, Int.one_mul] at this
        omega
    subst h4
    exact ⟨rfl, by rw [show s = t by omega]⟩
def idx (x : Spec) (s : List Int) : Int := idxA 0 x.1 s
section
variable {x : Spec} {s t : List Int}
theorem idx_bd (hx : V x) (h : Stk x s) : 0 ≤ idx x s ∧ idx x s < prd x.1 := by
  have := idxA_bd (acc := 0) (Int.le_refl _) (fun c hc => (hx.cap c hc).1) h.inc h.len
  unfold idx prd
  simp only [Int.zero_add] at this
  omega
theorem idx_inj (h : Stk x s) (k : Stk x t) (e : idx x s = idx x t) : s = t := (idxA_inj h.inc k.inc h.len k.len e).2
theorem nodup_len : ∀ (N : Nat) (M : List Int), M.Nodup → (∀ w ∈ M, 0 ≤ w ∧ w < N) → M.length ≤ N
  | 0, M, _, h => by
    cases M with
    | nil => simp
    | cons a M => have := h a (by simp); omega
  | N + 1, M, hn, h => by
    have h1 := nodup_len N (M.filter fun w => !decide (w = (N : Int))) (hn.filter _) (fun w hw => by
      simp only [List.mem_filter, Bool.not_eq_true', decide_eq_false_iff_not] at hw
      have := h w hw.1
      omega)
    have h2 : M.length ≤ (M.filter fun w => !decide (w = (N : Int))).length + 1 := by
      clear h h1
      induction M with
      | nil => simp
      | cons a M ih =>
        simp only [List.nodup_cons] at hn
        by_cases ha : a = (N : Int)
        · have e : (M.filter fun w => !decide (w = (N : Int))) = M := by
            refine List.filter_eq_self.2 fun w hw => ?_
            simp only [Bool.not_eq_true', decide_eq_false_iff_not]
            rintro rfl
            exact hn.1 (ha ▸ hw)
          rw [List.filter_cons, ha, if_neg (by simp), e]
          exact Nat.le_refl _
        · rw [List.filter_cons, if_pos (by simp [ha]), List.length_cons, List.length_cons]
          have := ih hn.2
          omega
    omega
theorem nodup_map {α : Type} {f : α → Int} : ∀ {l : List α}, l.Nodup → (∀ a ∈ l, ∀ b ∈ l, f a = f b → a = b) → (l.map f).Nodup
  | [], _, _ => List.nodup_nil
  | a :: l, h, hi => by
    rw [List.nodup_cons] at h
    rw [List.map_cons, List.nodup_cons]
    refine ⟨fun hm => ?_, nodup_map h.2 fun b hb c hc => hi b (by simp [hb]) c (by simp [hc])⟩
    obtain ⟨b, hb, e⟩ := List.mem_map.1 hm
    have := hi b (by simp [hb]) a (by simp) e
    subst this
    exact h.1 hb
theorem stocks_len (hx : V x) {Q : List (List Int)} (hq : Q.Nodup) (h : ∀ v ∈ Q, Stk x v) : (Q.length : Int) ≤ prd x.1 := by
  have h0 : 0 ≤ prd x.1 := (many_eq (F := 1000001) (by omega) (by have := hx.k5; omega) (inr_iff.2 hx.cap)).2
  have := nodup_len (prd x.1).toNat (Q.map (idx x)) (nodup_map hq fun a ha b hb e => idx_inj (h a ha) (h b hb) e) fun w hw => by
    obtain ⟨v, hv, rfl⟩ := List.mem_map.1 hw
    have := idx_bd hx (h v hv)
    omega
  rw [List.length_map] at this
  omega
end

/-! ### The search by a queue -/
structure BI (x : Spec) (s : List Int) (Q : List (List Int)) (n i l0 : Nat) (by_ : By) (left : Left) : Prop where
  nd : Q.Nodup
  stk : ∀ v ∈ Q, Stk x v
  hd : s ∈ Q
  lft : ∀ j (h : j < Q.length), l0 ≤ j → mget z79 left (j : Int) = pad Q[j]
  bh : ∀ v, Stk x v → (mhas by_ (pad v) = true ↔ v ∈ Q)
  par : ∀ v ∈ Q, (v = s ∧ mget z111 by_ (pad v) = ((-1, z79) : Step)) ∨ ∃ i u k, mget z111 by_ (pad v) = ((i, pad u) : Step) ∧ u ∈ Q ∧ stp x i u = some v ∧ D x s u k ∧ D x s v (k + 1)
  lev : ∀ j k (hj : j < Q.length) (hk : k < Q.length), j ≤ k → ∀ a b, D x s Q[j] a → D x s Q[k] b → a ≤ b
  dd : ∀ v ∈ Q, ∃ k, D x s v k
  cl : ∀ j (h : j < Q.length), j < n → ∀ i v, stp x i Q[j] = some v → v ∈ Q
  cli : ∀ (h : n < Q.length) (j : Nat) v, j < i → stp x (j : Int) Q[n] = some v → v ∈ Q
  gap : ∀ (h : n < Q.length) j (hj : j < Q.length) a b, D x s Q[n] a → D x s Q[j] b → b ≤ a + 1
section
variable {x : Spec} {s : List Int} {Q : List (List Int)} {n i l0 : Nat} {by_ : By} {left : Left}
theorem BI.skip (h : BI x s Q n i l0 by_ left) (hn : n < Q.length) (hc : ∀ v, stp x (i : Int) Q[n] = some v → v ∈ Q) : BI x s Q n (i + 1) l0 by_ left := by
  refine { h with cli := fun hn j v hj hv => ?_ }
  rcases Nat.lt_or_ge j i with h1 | h1
  · exact h.cli hn j v h1 hv
  · have : j = i := by omega
    subst this
    exact hc v hv
end
theorem stp_eq {x : Spec} {i : Int} {m : Mv} {a : List Int} (hm : ix x.2 i = some m) : stp x i a = if okm x.1 a m.1 m.2 = true then some (nx a m.1 m.2) else none := by
  unfold stp
  rw [hm]
  rfl

/-- A map of how stocks were reached: it leads back to s. -/
def ByOk (x : Spec) (s : List Int) (by_ : By) : Prop := ∀ v, Stk x v → mhas by_ (pad v) = true → (v = s ∧ mget z111 by_ (pad v) = ((-1, z79) : Step)) ∨ ∃ i u k, mget z111 by_ (pad v) = ((i, pad u) : Step) ∧ Stk x u ∧ mhas by_ (pad u) = true ∧ stp x i u = some v ∧ D x s u k ∧ D x s v (k + 1)
theorem BI.byok {x : Spec} {s : List Int} {Q : List (List Int)} {n i l0 : Nat} {by_ : By} {left : Left} (h : BI x s Q n i l0 by_ left) : ByOk x s by_ := by
  intro v hv hm
  rcases h.par v ((h.bh v hv).1 hm) with h1 | ⟨i, u, k, h1, h2, h3⟩
  · exact .inl h1
  · exact .inr ⟨i, u, k, h1, h.stk u h2, (h.bh u (h.stk u h2)).2 h2, h3⟩
/-- What the iterator hands out. -/
structure Out (x : Spec) (s : List Int) (Q : List (List Int)) (us : List (St × By)) (bf : By) : Prop where
  map : us.map (·.1) = Q.map pad
  byok : ∀ (k : Nat) (p : St × By) (v : List Int), us[k]? = some p → Q[k]? = some v → p.1 = pad v ∧ mhas p.2 (pad v) = true ∧ ByOk x s p.2
  bf : ByOk x s bf ∧ ∀ v ∈ Q, mhas bf (pad v) = true
/-! ### The way to a stock -/
end Go.Proofs.Ytboefnpnoojfpaa

/-! The reference's search, round by round. Condition: there are enough rounds. -/
namespace Go.Proofs.Ytboefnpnoojfpaa
open Go Go.Md Go.RowKit

/-! ### Numbers of stocks -/
/-! ### Distances are small -/
theorem dist_path {x : Spec} {s : List Int} (hx : V x) (hs : Stk x s) : ∀ {k : Nat} {v : List Int}, D x s v k → ∃ l : List (List Int), l.length = k + 1 ∧ l.Nodup ∧ ∀ u ∈ l, Stk x u ∧ ∃ j, j ≤ k ∧ D x s u j
  | 0, v, h => ⟨[v], rfl, by simp, fun u hu => by
      simp only [List.mem_singleton] at hu
      subst hu
      exact ⟨h.1.stk hx hs, 0, Nat.le_refl _, h⟩⟩
  | k + 1, v, h => by
    obtain ⟨u, i, h1, h2⟩ := h.pred
    obtain ⟨l, h3, h4, h5⟩ := dist_path hx hs h1
    refine ⟨v :: l, by simp [h3], List.nodup_cons.2 ⟨fun hm => ?_, h4⟩, fun w hw => ?_⟩
    · obtain ⟨_, j, hj, h6⟩ := h5 v hm
      have := h6.uniq h
      omega
    · rcases List.mem_cons.1 hw with rfl | hw
      · exact ⟨h.1.stk hx hs, k + 1, Nat.le_refl _, h⟩
      · obtain ⟨h6, j, hj, h7⟩ := h5 w hw
        exact ⟨h6, j, by omega, h7⟩
theorem dist_lt {x : Spec} {s v : List Int} (hx : V x) (hs : Stk x s) {k : Nat} (h : D x s v k) : (k : Int) < prd x.1 := by
  obtain ⟨l, h1, h2, h3⟩ := dist_path hx hs h
  have := stocks_len hx h2 fun u hu => (h3 u hu).1
  omega

/-! ### Rounds -/
abbrev iv (x : Spec) (v : List Int) : Nat := (idx x v).toNat
structure FP (x : Spec) (s : List Int) (L : List Int) (r : Nat) (more : Bool) (i j : Nat) : Prop where
  len : (L.length : Int) = prd x.1
  ok : ∀ v, Stk x v → ∀ k, k ≤ r → D x s v k → L[iv x v]? = some (k : Int)
  no : ∀ q, q < L.length → L[q]? = some (-1) ∨ ∃ v k, Stk x v ∧ k ≤ r + 1 ∧ iv x v = q ∧ D x s v k ∧ L[q]? = some (k : Int)
  dn : ∀ u, Stk x u → D x s u r → iv x u < i → ∀ q v, stp x q u = some v → L[iv x v]? ≠ some (-1)
  dj : ∀ u, Stk x u → D x s u r → iv x u = i → ∀ (q : Nat) v, q < j → stp x (q : Int) u = some v → L[iv x v]? ≠ some (-1)
  mr : more = true → ∃ v, D x s v (r + 1)
  mf : more = false → ∀ q : Nat, L[q]? ≠ some ((r : Int) + 1)
section
variable {x : Spec} {s L : List Int} {r i j : Nat} {more : Bool}
theorem iv_lt (hx : V x) {v : List Int} (hv : Stk x v) (h : (L.length : Int) = prd x.1) : iv x v < L.length ∧ ((iv x v : Nat) : Int) = idx x v := by
  have := idx_bd hx hv
  unfold iv
  omega
theorem iv_inj (hx : V x) {u v : List Int} (hu : Stk x u) (hv : Stk x v) (e : iv x u = iv x v) : u = v := by
  have h1 := idx_bd hx hu
  have h2 := idx_bd hx hv
  unfold iv at e
  exact idx_inj hu hv (by omega)
theorem FP.skip (h : FP x s L r more i j) {u : List Int} (hx : V x) (hu : Stk x u) (hd : D x s u r) (hi : iv x u = i) (hc : ∀ v, stp x (j : Int) u = some v → L[iv x v]? ≠ some (-1)) : FP x s L r more i (j + 1) := by
  refine { h with dj := fun w hw hd2 hi2 q v hq hv => ?_ }
  rcases Nat.lt_or_ge q j with h1 | h1
  · exact h.dj w hw hd2 hi2 q v h1 hv
  · have : q = j := by omega
    subst this
    have := iv_inj hx hw hu (by rw [hi2, hi])
    subst this
    exact hc v hv
end

/-- What Far returns. -/
structure Fin (x : Spec) (s : List Int) (L : List Int) : Prop where
  len : (L.length : Int) = prd x.1
  ok : ∀ v, Stk x v → ∀ k, D x s v k → L[iv x v]? = some (k : Int)
  no : ∀ q, q < L.length → L[q]? = some (-1) ∨ ∃ v k, Stk x v ∧ iv x v = q ∧ D x s v k ∧ L[q]? = some (k : Int)
end Go.Proofs.Ytboefnpnoojfpaa

/-! What Reach, Stocks, Most and Stuck return, and what the reference says. Condition: there are enough rounds. -/
namespace Go.Proofs.Ytboefnpnoojfpaa
open Go Go.Md Go.RowKit

theorem Fin.pos {x : Spec} {s L v : List Int} (h : Fin x s L) (hx : V x) (hv : Stk x v) {n : Int} (hn : L[iv x v]? = some n) : (0 ≤ n ↔ ∃ k, D x s v k) ∧ ∀ k, D x s v k → n = (k : Int) := by
  refine ⟨⟨fun h0 => ?_, fun ⟨k, hd⟩ => ?_⟩, fun k hd => ?_⟩
  · rcases h.no _ (iv_lt hx hv h.len).1 with h1 | ⟨w, k, hw, h1, h2, _⟩
    · rw [hn] at h1
      have := Option.some.inj h1
      omega
    · have := iv_inj hx hw hv h1
      subst this
      exact ⟨k, h2⟩
  · have := h.ok v hv k hd
    rw [hn] at this
    have := Option.some.inj this
    omega
  · have := h.ok v hv k hd
    rw [hn] at this
    exact Option.some.inj this

/-! ### Lists, element by element -/
theorem Out.len {x : Spec} {s : List Int} {Q : List (List Int)} {us : List (St × By)} {bf : By} (h : Out x s Q us bf) : us.length = Q.length := by
  have := congrArg List.length h.map
  simpa using this

/-! ### Reach -/
/-! ### Stocks -/
end Go.Proofs.Ytboefnpnoojfpaa

/-! What Most and Stuck return; a walk by chance; BathReaches. Condition: there are enough rounds. -/
namespace Go.Proofs.Ytboefnpnoojfpaa
open Go Go.Md Go.RowKit

/-- The most things of kind k are n, and it takes d moves to have so many. -/
def IsMost (x : Spec) (s : List Int) (k : Nat) (n : Int) (d : Nat) : Prop := ∀ u e, D x s u e → ∃ m, u[k]? = some m ∧ (m < n ∨ m = n ∧ d ≤ e)
theorem IsMost.uniq {x : Spec} {s u v : List Int} {k d e : Nat} {n m : Int} (h1 : IsMost x s k n d) (hu : D x s u d) (hun : u[k]? = some n) (h2 : IsMost x s k m e) (hv : D x s v e) (hvm : v[k]? = some m) : n = m ∧ d = e := by
  obtain ⟨a, h3, h4⟩ := h1 v e hv
  obtain ⟨b, h5, h6⟩ := h2 u d hu
  rw [hvm] at h3
  rw [hun] at h5
  cases h3
  cases h5
  omega
/-! ### A stock without a move -/
end Go.Proofs.Ytboefnpnoojfpaa

/-! BathReaches; a walk by chance; BathMost. Condition: there are enough rounds. -/
namespace Go.Proofs.Ytboefnpnoojfpaa
open Go Go.Md Go.RowKit

theorem D.small {x : Spec} {s v : List Int} (hx : V x) (hs : Stk x s) {k : Nat} (h : D x s v k) : k ≤ 4096 := by
  have := dist_lt hx hs h
  have := hx.prd
  omega

/-! ### The program and the reference -/
/-! ### A walk by chance -/
/-! ### BathMost -/
end Go.Proofs.Ytboefnpnoojfpaa

/-! Weights that are checked; BathBack and BathOver. Condition: there are enough rounds. -/
namespace Go.Proofs.Ytboefnpnoojfpaa
open Go Go.Md Go.RowKit

/-! ### Sums -/
def dot : List Int → List Int → Int
  | w :: ws, l :: ls => w * l + dot ws ls
  | _, _ => 0
abbrev WB (w : List Int) : Prop := ∀ n ∈ w, -1048576 ≤ n ∧ n ≤ 1048576
abbrev LB (l : List Int) : Prop := ∀ n ∈ l, 0 ≤ n ∧ n ≤ 9
theorem mul_bd {a b : Int} (ha : -1048576 ≤ a ∧ a ≤ 1048576) (hb : 0 ≤ b ∧ b ≤ 9) : -9437184 ≤ a * b ∧ a * b ≤ 9437184 := by
  have h1 : a * b ≤ 1048576 * b := Int.mul_le_mul_of_nonneg_right ha.2 hb.1
  have h2 : -1048576 * b ≤ a * b := Int.mul_le_mul_of_nonneg_right ha.1 hb.1
  omega
theorem sum_eq {F : Nat} {w l : List Int} (hF : 1000000 < F) (hl : w.length ≤ 10) (he : l.length = w.length) (hw : WB w) (hb : LB l) : bath_sum F w l = some (dot w l) := by
  have loop : ∀ (m k : Nat) (y : Int), k ≤ w.length → w.length - k < m → -9437184 * (k : Int) ≤ y ∧ y ≤ 9437184 * (k : Int) → bath_sum_l1 F w l m y (k : Int) = some (y + dot (w.drop k) (l.drop k)) := by
    intro m
    induction m with
    | zero => intro k _ _ h; omega
    | succ m ih =>
      intro k y hk h hy
      simp only [bath_sum_l1]
      by_cases hlt : k < w.length
      · have c1 : k < l.length := by omega
        have hm := mul_bd (hw _ (List.getElem_mem hlt)) (hb _ (List.getElem_mem c1))
        rw [if_pos (ltd hlt), ix_nat hlt, ix_nat c1, w64_succ (by omega), List.drop_eq_getElem_cons hlt, List.drop_eq_getElem_cons c1]
        simp only [Option.bind_eq_bind, Option.bind_some, dot]
        have e1 : w64 (w[k] * l[k]) = w[k] * l[k] := w64_in (by omega)
        rw [e1]
        have e2 : w64 (y + w[k] * l[k]) = y + w[k] * l[k] := w64_in (by omega)
        rw [e2, ih (k + 1) _ (by omega) (by omega) (by omega)]
        congr 1
        omega
      · have : k = w.length := by omega
        subst this
        rw [if_neg nltd, List.drop_length]
        simp [dot]
  unfold bath_sum
  have := loop F 0 0 (by omega) (by omega) (by omega)
  simp only [Int.natCast_zero, List.drop_zero, Int.zero_add] at this
  rw [this]
  rfl
theorem rsum_eq {F : Nat} {w l : List Int} (hF : 1000000 < F) (hl : w.length ≤ 10) (he : l.length = w.length) (hw : WB w) (hb : LB l) : ref11_Sum F w l = some (dot w l) := by
  rw [← sum_eq hF hl he hw hb]
  unfold ref11_Sum bath_sum
  have : ∀ m (y k : Int), ref11_Sum_l1 F w l m y k = bath_sum_l1 F w l m y k := fun m => by
    induction m with
    | zero => intro y k; rfl
    | succ m ih => intro y k; simp only [ref11_Sum_l1, bath_sum_l1, ih]
  rw [this]
theorem small_eq {F : Nat} {l : List Int} (hF : 1000000 < F) (hl : l.length ≤ 1000000) : ref11_small F l = some (inr (-1048576) 1048576 l) := by
  unfold ref11_small
  have := any_loop0 (l := l) (L := fun m k => ref11_small_l1 F l m (k : Int)) (p := fun n => decide (n < -1048576) || decide (1048576 < n)) (c := false) (fun m => by
    simp only [ref11_small_l1]; rw [if_neg nltd]) (fun m k hk => by
    simp only [ref11_small_l1]
    rw [if_pos (ltd hk), ix_nat hk, w64_succ (by omega)]
    simp only [Option.bind_eq_bind, Option.bind_some]
    by_cases h1 : l[k] < -1048576 <;> by_cases h2 : 1048576 < l[k] <;> simp [h1, h2]) (m := F) (by omega)
  simp only [Int.natCast_zero] at this
  rw [this, any_inr]
  cases inr (-1048576) 1048576 l <;> rfl
def unb (w : List Int) (m : Mv) : Bool := !decide (dot w m.1 = dot w m.2)
def cw (x : Spec) (w : List Int) : Int :=
  if cval x ≠ 0 then cval x else if w.length ≠ x.1.length then 15 else if inr (-1048576) 1048576 w = false then 3 else if x.2.any (unb w) = true then 14 else 0
theorem V.lb {x : Spec} (hx : V x) {m : Mv} (hm : m ∈ x.2) : LB m.1 ∧ LB m.2 := by
  obtain ⟨_, _, h1, h2⟩ := hx.mv m hm
  exact ⟨fun n hn => by have := h1 n hn; omega, fun n hn => by have := h2 n hn; omega⟩
theorem checkw_eq {F : Nat} {x : Spec} {w : List Int} (hF : 1000000 < F) : bath_CheckWeights F x w = some (cw x w) := by
  unfold bath_CheckWeights cw
  have hc : bath_CheckBath F (x.1, x.2) = some (cval x) := check_eq hF
  simp only [hc, Option.bind_eq_bind, Option.bind_some]
  by_cases h : cval x = 0
  · have hx := cval_ok.1 h
    have k5 := hx.k5
    have m8 := hx.m8
    rw [if_neg (show ¬ (!decide (cval x = 0)) = true by simp [h]), if_neg (show ¬ cval x ≠ 0 by simp [h])]
    by_cases h1 : w.length = x.1.length
    · rw [if_neg (show ¬ (!decide ((w.length : Int) = (x.1.length : Int))) = true by simp [h1]), if_neg (show ¬ w.length ≠ x.1.length by simpa using h1), within_eq hF (by omega)]
      simp only [Option.bind_some]
      cases h2 : inr (-1048576) 1048576 w with
      | false => simp
      | true =>
        have hw := inr_iff.1 h2
        have h3 : slices_ContainsFunc_api_BathMove F x.2 (fun y => bath_CheckWeights_1 F y w) = some (x.2.any (unb w)) := contM hF (by omega) fun m hm => by
          obtain ⟨l1, l2, _⟩ := hx.mv m hm
          unfold bath_CheckWeights_1 unb
          rw [sum_eq hF (by omega) (by omega) hw (hx.lb hm).1, sum_eq hF (by omega) (by omega) hw (hx.lb hm).2]
          rfl
        rw [h3]
        simp only [Bool.not_true, Bool.false_eq_true, if_false, Option.bind_some, Bool.true_eq_false]
        by_cases h4 : x.2.any (unb w) = true
        · rw [if_pos h4, if_pos h4]
        · rw [if_neg h4, if_neg h4]
    · rw [if_pos (show (!decide ((w.length : Int) = (x.1.length : Int))) = true by simp [nc, h1]), if_pos (show w.length ≠ x.1.length from h1)]
  · rw [if_pos (show (!decide (cval x = 0)) = true by simp [h]), if_pos (show cval x ≠ 0 from h)]
theorem rcheckw_eq {F : Nat} {x : Spec} {w : List Int} (hF : 1000000 < F) : ref11_CheckWeights F x w = some (cw x w) := by
  unfold ref11_CheckWeights cw
  have hc : ref11_CheckBath F (x.1, x.2) = some (cval x) := rcheck_eq hF
  simp only [hc, Option.bind_eq_bind, Option.bind_some]
  by_cases h : cval x = 0
  · have hx := cval_ok.1 h
    have k5 := hx.k5
    have m8 := hx.m8
    rw [if_neg (show ¬ (!decide (cval x = 0)) = true by simp [h]), if_neg (show ¬ cval x ≠ 0 by simp [h])]
    by_cases h1 : w.length = x.1.length
    · rw [if_neg (show ¬ (!decide ((w.length : Int) = (x.1.length : Int))) = true by simp [h1]), if_neg (show ¬ w.length ≠ x.1.length by simpa using h1), small_eq hF (by omega)]
      simp only [Option.bind_some]
      cases h2 : inr (-1048576) 1048576 w with
      | false => simp
      | true =>
        have hw := inr_iff.1 h2
        have h3 := any_loop0 (l := x.2) (L := fun m k => ref11_CheckWeights_l1 F x w m (k : Int)) (p := unb w) (c := 14) (fun m => by
          simp only [ref11_CheckWeights_l1]; rw [if_neg nltd]) (fun m k hk => by
          have hm := List.getElem_mem hk
          obtain ⟨l1, l2, _⟩ := hx.mv _ hm
          simp only [ref11_CheckWeights_l1]
          rw [if_pos (ltd hk), ix_nat hk, w64_succ (by omega)]
          simp only [Option.bind_eq_bind, Option.bind_some]
          rw [rsum_eq hF (by omega) (by omega) hw (hx.lb hm).1, rsum_eq hF (by omega) (by omega) hw (hx.lb hm).2]
          rfl) (m := F) (by omega)
        simp only [Int.natCast_zero] at h3
        rw [h3]
        simp only [Bool.not_true, Bool.false_eq_true, if_false, Bool.true_eq_false]
        by_cases h4 : x.2.any (unb w) = true
        · rw [if_pos h4, if_pos h4]; rfl
        · rw [if_neg h4, if_neg h4]; rfl
    · rw [if_pos (show (!decide ((w.length : Int) = (x.1.length : Int))) = true by simp [nc, h1]), if_pos (show w.length ≠ x.1.length from h1)]
  · rw [if_pos (show (!decide (cval x = 0)) = true by simp [h]), if_pos (show cval x ≠ 0 from h)]

/-! ### Moves turned round -/
def back (x : Spec) : Spec := (x.1, x.2.map fun m => (m.2, m.1))
theorem back_back {x : Spec} : back (back x) = x := by
  obtain ⟨a, b⟩ := x
  simp [back, Function.comp_def]
theorem V.back {x : Spec} (hx : V x) : V (back x) := by
  refine ⟨hx.k1, hx.k5, by simp [Ytboefnpnoojfpaa.back, hx.m8], hx.cap, hx.prd, fun m hm => ?_⟩
  obtain ⟨m', h1, rfl⟩ := List.mem_map.1 hm
  obtain ⟨a, b, c, d⟩ := hx.mv m' h1
  exact ⟨b, a, d, c⟩
theorem Stk.back {x : Spec} {s : List Int} (h : Stk x s) : Stk (back x) s := ⟨h.len, h.inc⟩
theorem nx_back : ∀ {c a t g : List Int}, a.length = c.length → t.length = c.length → g.length = c.length → inC c a = true → okm c a t g = true → okm c (nx a t g) g t = true ∧ nx (nx a t g) g t = a
  | [], [], [], [], _, _, _, _, _ => ⟨rfl, rfl⟩
  | c :: cs, a :: az, t :: ts, g :: gs, h1, h2, h3, h4, h5 => by
    simp only [okm, Bool.and_eq_true, decide_eq_true_eq] at h5
    rw [inC_cons] at h4
    simp only [Bool.and_eq_true, decide_eq_true_eq] at h4
    obtain ⟨h6, h7⟩ := nx_back (c := cs) (a := az) (t := ts) (g := gs) (by simpa using h1) (by simpa using h2) (by simpa using h3) h4.2 h5.2
    simp only [nx, okm, Bool.and_eq_true, decide_eq_true_eq]
    refine ⟨⟨⟨by omega, by omega⟩, h6⟩, ?_⟩
    rw [h7, show a - t + g - g + t = a by omega]
  | [], _ :: _, _, _, h, _, _, _, _ => by simp at h
  | [], [], _ :: _, _, _, h, _, _, _ => by simp at h
  | [], [], [], _ :: _, _, _, h, _, _ => by simp at h
  | _ :: _, [], _, _, h, _, _, _, _ => by simp at h
  | _ :: _, _ :: _, [], _, _, h, _, _, _ => by simp at h
  | _ :: _, _ :: _, _ :: _, [], _, _, h, _, _ => by simp at h
theorem stp_back {x : Spec} (hx : V x) {i : Int} {a b : List Int} (ha : Stk x a) (h : stp x i a = some b) : stp (back x) i b = some a := by
  obtain ⟨m, h1, h2, h3, rfl⟩ := stp_some h
  obtain ⟨l1, l2, _⟩ := hx.mv m h2
  obtain ⟨h4, h5⟩ := nx_back ha.len l1 l2 ha.inc h3
  have h6 : ix (back x).2 i = some (m.2, m.1) := by
    unfold back ix at *
    split at h1
    · rename_i h0
      rw [if_pos h0, List.getElem?_map, h1]
      rfl
    · cases h1
  rw [stp_eq h6]
  show (if okm x.1 (nx a m.1 m.2) m.2 m.1 = true then some (nx (nx a m.1 m.2) m.2 m.1) else none) = some a
  rw [if_pos h4, h5]
theorem run_back {x : Spec} (hx : V x) : ∀ {w s v : List Int}, Stk x s → run x w s = some v → run (back x) w.reverse v = some s
  | [], s, v, _, h => by cases h; rfl
  | i :: w, s, v, hs, h => by
    rw [run_cons] at h
    obtain ⟨u, h1, h2⟩ := bs h
    rw [List.reverse_cons, run_app, run_back hx (hs.stp hx h1) h2]
    simp [run_cons, stp_back hx hs h1, run_nil]
theorem Rn.back {x : Spec} {n : Nat} {s v : List Int} (hx : V x) (hs : Stk x s) (h : Rn x n s v) : Rn (back x) n v s := by
  obtain ⟨w, h1, h2⟩ := h
  exact ⟨w.reverse, by simp [h1], run_back hx hs h2⟩
theorem D.back {x : Spec} {n : Nat} {s v : List Int} (hx : V x) (hs : Stk x s) (h : D x s v n) : D (back x) v s n := by
  refine ⟨h.1.back hx hs, fun m hm hr => h.2 m hm ?_⟩
  have := hr.back hx.back (h.1.stk hx hs).back
  rwa [back_back] at this
/-! ### One move more, or greater caps -/
structure Sup (x y : Spec) : Prop where
  stk : ∀ a, Stk x a → Stk y a
  stp : ∀ i a b, Stk x a → stp x i a = some b → stp y i a = some b
theorem Sup.run {x y : Spec} (hx : V x) (h : Sup x y) : ∀ {w s v : List Int}, Stk x s → run x w s = some v → run y w s = some v
  | [], _, _, _, e => e
  | i :: w, s, v, hs, e => by
    rw [run_cons] at e ⊢
    obtain ⟨u, h1, h2⟩ := bs e
    rw [h.stp i s u hs h1]
    exact Sup.run hx h (hs.stp hx h1) h2
theorem nodup_sub {α : Type} [DecidableEq α] : ∀ (R Q : List α), R.Nodup → (∀ v ∈ R, v ∈ Q) → R.length ≤ Q.length
  | [], _, _, _ => by simp
  | a :: R, Q, hn, hs => by
    rw [List.nodup_cons] at hn
    have ha := hs a (by simp)
    have := nodup_sub R (Q.erase a) hn.2 fun v hv => (List.mem_erase_of_ne (by rintro rfl; exact hn.1 hv)).2 (hs v (by simp [hv]))
    rw [List.length_erase_of_mem ha] at this
    have := List.length_pos_of_mem ha
    simp only [List.length_cons]
    omega
end Go.Proofs.Ytboefnpnoojfpaa
