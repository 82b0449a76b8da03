/-
  Loops of the pure functions, in plain words; which workshops and stocks are valid. Condition: there are enough rounds.
-/
import Derived.Test.YtboefnpnoojfpaaPureC
import Derived.Test.YtboefnpnoojfpaaPureD
import Derived.Test.YtboefnpnoojfpaaPureE
import Derived.IntWalk
import Derived.KernelRfl
namespace Go.Proofs.Ytboefnpnoojfpaa
open Go Go.Md Go.RowKit

theorem w64_in {n : Int} (h : -9223372036854775808 ≤ n ∧ n ≤ 9223372036854775807) : w64 n = n := IntWalk.i64_in n h
theorem w64_succ {k : Nat} (h : k < 4611686018427387904) : w64 ((k : Int) + 1) = ((k + 1 : Nat) : Int) := by rw [w64_in (by omega)]; omega
theorem ix_nat {α : Type} {l : List α} {k : Nat} (h : k < l.length) : ix l (k : Int) = some l[k] := by simp [ix, List.getElem?_eq_getElem h]
theorem ltd {k n : Nat} (h : k < n) : decide ((k : Int) < (n : Int)) = true := by simpa using h
theorem nltd {n : Nat} : ¬ decide ((n : Int) < (n : Int)) = true := by simp

/-! ### Loops -/
theorem any_loop {α ρ : Type} {l : List α} {L : Nat → Nat → Option (Sum ρ Unit)} {p : α → Bool} {c : ρ} (base : ∀ m, L (m + 1) l.length = some (.inr ()))
    (step : ∀ m k (h : k < l.length), L (m + 1) k = if p l[k] = true then some (.inl c) else L m (k + 1)) : ∀ m k, k ≤ l.length → l.length - k < m → L m k = some (if (l.drop k).any p = true then .inl c else .inr ())
  | 0, k, _, h => by omega
  | m + 1, k, hk, h => by
    by_cases hlt : k < l.length
    · rw [step m k hlt, List.drop_eq_getElem_cons hlt, List.any_cons]
      cases hp : p l[k] with
      | true => simp
      | false => rw [Bool.false_or, ← any_loop base step m (k + 1) (by omega) (by omega)]; simp
    · have : k = l.length := by omega
      subst this
      rw [base, List.drop_length]
      rfl
theorem any_loop0 {α ρ : Type} {l : List α} {L : Nat → Nat → Option (Sum ρ Unit)} {p : α → Bool} {c : ρ} (base : ∀ m, L (m + 1) l.length = some (.inr ()))
    (step : ∀ m k (h : k < l.length), L (m + 1) k = if p l[k] = true then some (.inl c) else L m (k + 1)) {m : Nat} (hm : l.length < m) : L m 0 = some (if l.any p = true then .inl c else .inr ()) := by
  have := any_loop base step m 0 (Nat.zero_le _) (by omega)
  rwa [List.drop_zero] at this
theorem idx_loop {α : Type} {l : List α} {L : Nat → Nat → Option (Sum Int Unit)} {p : α → Bool} (base : ∀ m, L (m + 1) l.length = some (.inr ()))
    (step : ∀ m k (h : k < l.length), L (m + 1) k = if p l[k] = true then some (.inl (k : Int)) else L m (k + 1)) : ∀ m k, k ≤ l.length → l.length - k < m →
    L m k = some (if (l.drop k).any p = true then .inl ((k + (l.drop k).findIdx p : Nat) : Int) else .inr ())
  | 0, k, _, h => by omega
  | m + 1, k, hk, h => by
    by_cases hlt : k < l.length
    · rw [step m k hlt, List.drop_eq_getElem_cons hlt, List.any_cons, List.findIdx_cons]
      cases hp : p l[k] with
      | true => simp
      | false =>
        rw [Bool.false_or, if_neg (by simp), idx_loop base step m (k + 1) (by omega) (by omega)]
        simp only [cond_false]
        rw [show k + 1 + (l.drop (k + 1)).findIdx p = k + ((l.drop (k + 1)).findIdx p + 1) by omega]
    · have : k = l.length := by omega
      subst this
      rw [base, List.drop_length]
      rfl
/-- The number of the first element, -1 if there is none. -/
def fst {α : Type} (l : List α) (p : α → Bool) : Int := if l.any p = true then (l.findIdx p : Int) else -1
theorem idx_loop0 {α : Type} {l : List α} {L : Nat → Nat → Option (Sum Int Unit)} {p : α → Bool} (base : ∀ m, L (m + 1) l.length = some (.inr ()))
    (step : ∀ m k (h : k < l.length), L (m + 1) k = if p l[k] = true then some (.inl (k : Int)) else L m (k + 1)) {m : Nat} (hm : l.length < m) : L m 0 = some (if l.any p = true then .inl (l.findIdx p : Int) else .inr ()) := by
  have := idx_loop base step m 0 (Nat.zero_le _) (by omega)
  rwa [List.drop_zero, Nat.zero_add] at this
theorem fold_loop {α σ ρ : Type} {l : List α} {L : Nat → Nat → σ → Option ρ} {f : σ → α → σ} {fin : σ → ρ} {inv : Nat → σ → Prop} (base : ∀ m y, inv l.length y → L (m + 1) l.length y = some (fin y))
    (step : ∀ m k y (h : k < l.length), inv k y → L (m + 1) k y = L m (k + 1) (f y l[k]) ∧ inv (k + 1) (f y l[k])) : ∀ m k y, k ≤ l.length → l.length - k < m → inv k y → L m k y = some (fin ((l.drop k).foldl f y)) ∧ inv l.length ((l.drop k).foldl f y)
  | 0, k, _, _, h, _ => by omega
  | m + 1, k, y, hk, h, hi => by
    by_cases hlt : k < l.length
    · obtain ⟨h1, h2⟩ := step m k y hlt hi
      rw [h1, List.drop_eq_getElem_cons hlt, List.foldl_cons]
      exact fold_loop base step m (k + 1) _ (by omega) (by omega) h2
    · have : k = l.length := by omega
      subst this
      rw [base m y hi, List.drop_length]
      exact ⟨rfl, hi⟩
theorem fold_loop0 {α σ ρ : Type} {l : List α} {L : Nat → Nat → σ → Option ρ} {f : σ → α → σ} {fin : σ → ρ} {inv : Nat → σ → Prop} (base : ∀ m y, inv l.length y → L (m + 1) l.length y = some (fin y))
    (step : ∀ m k y (h : k < l.length), inv k y → L (m + 1) k y = L m (k + 1) (f y l[k]) ∧ inv (k + 1) (f y l[k])) {m : Nat} {y : σ} (hm : l.length < m) (hi : inv 0 y) : L m 0 y = some (fin (l.foldl f y)) ∧ inv l.length (l.foldl f y) := by
  have := fold_loop base step m 0 y (Nat.zero_le _) (by omega) hi
  rwa [List.drop_zero] at this

theorem app_some {α : Type} {b : Nat} {l k : List α} (h : (l.length + k.length) * b ≤ 140737488355328) : app b l k = some (l ++ k) := by
  unfold app
  rw [if_pos h]


theorem all_any {α : Type} (of : List α) (p : α → Bool) : of.all p = !of.any (fun y => !p y) := by
  induction of with
  | nil => rfl
  | cons a of ih => rw [List.all_cons, List.any_cons, Bool.not_or, Bool.not_not, ih]

/-! ### Numbers within bounds -/
def inr (lo hi : Int) (l : List Int) : Bool := l.all fun n => decide (lo ≤ n) && decide (n ≤ hi)
theorem inr_iff {lo hi : Int} {l : List Int} : inr lo hi l = true ↔ ∀ n ∈ l, lo ≤ n ∧ n ≤ hi := by simp [inr]
theorem fst_ge {α : Type} {l : List α} {p : α → Bool} : decide (0 ≤ (if l.any p = true then ((l.findIdx p : Nat) : Int) else -1)) = l.any p := by
  cases l.any p <;> simp
theorem contL {F : Nat} {l : List Int} {p' : Int → Option Bool} {p : Int → Bool} (hF : 1000000 < F) (hl : l.length ≤ 1000000) (h : ∀ x ∈ l, p' x = some (p x)) : slices_ContainsFunc_int64 F l p' = some (l.any p) := by
  unfold slices_ContainsFunc_int64 slices_IndexFunc_int64
  have := idx_loop0 (l := l) (L := fun m k => slices_IndexFunc_int64_l1 F l p' m (k : Int)) (p := p) (fun m => by
    simp only [slices_IndexFunc_int64_l1]; rw [if_neg nltd]) (fun m k hk => by
    simp only [slices_IndexFunc_int64_l1]
    rw [if_pos (ltd hk), ix_nat hk, w64_succ (by omega)]
    simp only [Option.bind_eq_bind, Option.bind_some, h _ (List.getElem_mem hk)]) (m := F) (by omega)
  simp only [Int.natCast_zero] at this
  rw [this]
  cases h2 : l.any p <;> simp
theorem contI {F : Nat} {l : List Int} {p' : Int → Option Bool} {p : Int → Bool} (hF : 1000000 < F) (hl : l.length ≤ 1000000) (h : ∀ x ∈ l, p' x = some (p x)) : slices_ContainsFunc_int F l p' = some (l.any p) := by
  unfold slices_ContainsFunc_int slices_IndexFunc_int
  have := idx_loop0 (l := l) (L := fun m k => slices_IndexFunc_int_l1 F l p' m (k : Int)) (p := p) (fun m => by
    simp only [slices_IndexFunc_int_l1]; rw [if_neg nltd]) (fun m k hk => by
    simp only [slices_IndexFunc_int_l1]
    rw [if_pos (ltd hk), ix_nat hk, w64_succ (by omega)]
    simp only [Option.bind_eq_bind, Option.bind_some, h _ (List.getElem_mem hk)]) (m := F) (by omega)
  simp only [Int.natCast_zero] at this
  rw [this]
  cases h2 : l.any p <;> simp
abbrev Mv := List Int × List Int
theorem contM {F : Nat} {l : List Mv} {p' : Mv → Option Bool} {p : Mv → Bool} (hF : 1000000 < F) (hl : l.length ≤ 1000000) (h : ∀ x ∈ l, p' x = some (p x)) : slices_ContainsFunc_api_BathMove F l p' = some (l.any p) := by
  unfold slices_ContainsFunc_api_BathMove slices_IndexFunc_api_BathMove
  have := idx_loop0 (l := l) (L := fun m k => slices_IndexFunc_api_BathMove_l1 F l p' m (k : Int)) (p := p) (fun m => by
    simp only [slices_IndexFunc_api_BathMove_l1]; rw [if_neg nltd]) (fun m k hk => by
    simp only [slices_IndexFunc_api_BathMove_l1]
    rw [if_pos (ltd hk), ix_nat hk, w64_succ (by omega)]
    have e : p' (l[k].1, l[k].2) = some (p l[k]) := h _ (List.getElem_mem hk)
    simp only [Option.bind_eq_bind, Option.bind_some, e]) (m := F) (by omega)
  simp only [Int.natCast_zero] at this
  rw [this]
  cases h2 : l.any p <;> simp
theorem any_inr (lo hi : Int) (l : List Int) : l.any (fun n => decide (n < lo) || decide (hi < n)) = !inr lo hi l := by
  unfold inr
  rw [all_any, Bool.not_not]
  congr 1
  funext n
  by_cases h1 : n < lo <;> by_cases h2 : hi < n <;> simp [h1, h2] <;> omega
theorem within_eq {F : Nat} {l : List Int} {lo hi : Int} (hF : 1000000 < F) (hl : l.length ≤ 1000000) : bath_within F lo hi l = some (inr lo hi l) := by
  unfold bath_within
  have := contL (p' := fun y => bath_within_1 y lo hi) hF hl (p := fun n => decide (n < lo) || decide (hi < n)) (fun x _ => rfl)
  rw [this, any_inr]
  simp
theorem rwithin_eq {F : Nat} {l : List Int} {hi : Int} (hF : 1000000 < F) (hl : l.length ≤ 1000000) : ref11_within F l hi = some (inr 0 hi l) := by
  unfold ref11_within
  have := any_loop0 (l := l) (L := fun m k => ref11_within_l1 F l hi m (k : Int)) (p := fun n => decide (n < 0) || decide (hi < n)) (c := false) (fun m => by
    simp only [ref11_within_l1]; rw [if_neg nltd]) (fun m k hk => by
    simp only [ref11_within_l1]
    rw [if_pos (ltd hk), ix_nat hk, w64_succ (by omega)]
    simp only [Option.bind_eq_bind, Option.bind_some]
    by_cases h1 : l[k] < 0 <;> by_cases h2 : hi < l[k] <;> simp [h1, h2]) (m := F) (by omega)
  simp only [Int.natCast_zero] at this
  rw [this, any_inr]
  cases inr 0 hi l <;> rfl

/-! ### How many stocks there can be -/
def prd (l : List Int) : Int := l.foldl (fun y c => y * (c + 1)) 1
theorem pow10 : ∀ k, k < 10 → (10 : Int) ^ k ≤ 1000000000 := by decide
theorem nc {a b : Nat} : ((a : Int) = (b : Int)) ↔ a = b := by omega
theorem prd_step {k : Nat} {y c : Int} (hk : k < 10) (h : 0 ≤ y ∧ y ≤ (10 : Int) ^ k) (hc : 0 ≤ c ∧ c ≤ 9) : w64 (y * w64 (c + 1)) = y * (c + 1) ∧ 0 ≤ y * (c + 1) ∧ y * (c + 1) ≤ (10 : Int) ^ (k + 1) := by
  have e1 : w64 (c + 1) = c + 1 := w64_in (by omega)
  have h1 : 0 ≤ y * (c + 1) := Int.mul_nonneg h.1 (by omega)
  have h2 : y * (c + 1) ≤ y * 10 := Int.mul_le_mul_of_nonneg_left (by omega) h.1
  have h3 : (10 : Int) ^ (k + 1) = 10 ^ k * 10 := Int.pow_succ ..
  have h4 := pow10 k hk
  rw [e1, w64_in (by omega)]
  exact ⟨rfl, h1, by omega⟩
theorem many_eq {F : Nat} {l : List Int} (hF : 1000000 < F) (hl : l.length ≤ 10) (h : inr 0 9 l = true) : bath_many F l = some (prd l) ∧ 0 ≤ prd l := by
  unfold bath_many
  have hc := inr_iff.1 h
  have := fold_loop0 (l := l) (L := fun m k y => bath_many_l1 F l m y (k : Int)) (f := fun y c => y * (c + 1)) (fin := id) (inv := fun k y => 0 ≤ y ∧ y ≤ (10 : Int) ^ k) (fun m y _ => by
    simp only [bath_many_l1]; rw [if_neg nltd]; rfl) (fun m k y hk hi => by
    have hz := prd_step (by omega) hi (hc _ (List.getElem_mem hk))
    simp only [bath_many_l1]
    rw [if_pos (ltd hk), ix_nat hk, w64_succ (by omega)]
    simp only [Option.bind_eq_bind, Option.bind_some, hz.1]
    exact ⟨trivial, hz.2⟩) (m := F) (y := 1) (by omega) (by simp)
  simp only [Int.natCast_zero] at this
  rw [this.1]
  exact ⟨rfl, this.2.1⟩
theorem Many_eq {F : Nat} {x : Spec} (hF : 1000000 < F) (hl : x.1.length ≤ 10) (h : inr 0 9 x.1 = true) : ref11_Many F x = some (prd x.1) := by
  rw [← (many_eq hF hl h).1]
  unfold ref11_Many bath_many
  have : ∀ m (y k : Int), ref11_Many_l1 F x m y k = bath_many_l1 F x.1 m y k := fun m => by
    induction m with
    | zero => intro y k; rfl
    | succ m ih => intro y k; simp only [ref11_Many_l1, bath_many_l1, ih]
  rw [this]

/-! ### Which workshops are valid -/
def lenNe (n : Nat) (m : Mv) : Bool := !decide (m.1.length = n) || !decide (m.2.length = n)
def badM (m : Mv) : Bool := !inr 0 5 m.1 || !inr 0 5 m.2
def cval (x : Spec) : Int :=
  if x.1.length = 0 ∨ 5 < x.1.length ∨ 8 < x.2.length then 6
  else if inr 0 9 x.1 = false then 2
  else if 4096 < prd x.1 then 6
  else if x.2.any (lenNe x.1.length) = true then 15
  else if x.2.any badM = true then 2
  else 0
theorem not_any {α : Type} {l : List α} {p : α → Bool} (h : ¬ l.any p = true) : ∀ a ∈ l, p a = false := fun a ha => by
  simp only [List.any_eq_true, not_exists, not_and] at h
  have := h a ha
  simpa using this
theorem check_eq {F : Nat} {x : Spec} (hF : 1000000 < F) : bath_CheckBath F x = some (cval x) := by
  unfold bath_CheckBath cval
  by_cases h1 : x.1.length = 0 ∨ 5 < x.1.length ∨ 8 < x.2.length
  · rw [if_pos (by simp only [Bool.or_eq_true, decide_eq_true_eq]; omega), if_pos h1]
  rw [if_neg (by simp only [Bool.or_eq_true, decide_eq_true_eq]; omega), if_neg h1]
  rw [within_eq hF (by omega)]
  simp only [Option.bind_eq_bind, Option.bind_some]
  cases h2 : inr 0 9 x.1 with
  | false => simp
  | true =>
    rw [(many_eq hF (by omega) h2).1]
    simp only [Option.bind_some, Bool.not_true, Bool.false_eq_true, if_false]
    by_cases h3 : 4096 < prd x.1
    · simp [h3]
    rw [if_neg (by simpa using h3), if_neg h3, contM hF (by omega) (p := lenNe x.1.length) (fun m _ => by
      simp [bath_CheckBath_2, lenNe, nc])]
    simp only [Option.bind_some, Bool.true_eq_false, if_false]
    by_cases h4 : x.2.any (lenNe x.1.length) = true
    · rw [if_pos h4, if_pos h4]
    rw [if_neg h4, if_neg h4, contM hF (by omega) (p := badM) (fun m hm => by
      have := not_any h4 m hm
      simp only [lenNe, Bool.or_eq_false_iff, Bool.not_eq_false', decide_eq_true_eq] at this
      simp only [bath_CheckBath_3, bath_CheckBath_1, badM, within_eq (F := F) (l := m.1) hF (by omega), within_eq (F := F) (l := m.2) hF (by omega)]
      by_cases e : inr 0 5 m.1 = true <;> simp [e])]
    simp only [Option.bind_some]
    by_cases h5 : x.2.any badM = true
    · rw [if_pos h5, if_pos h5]
    · rw [if_neg h5, if_neg h5]
theorem rcheck_eq {F : Nat} {x : Spec} (hF : 1000000 < F) : ref11_CheckBath F x = some (cval x) := by
  unfold ref11_CheckBath cval
  by_cases h1 : x.1.length = 0 ∨ 5 < x.1.length ∨ 8 < x.2.length
  · rw [if_pos (by simp only [Bool.or_eq_true, decide_eq_true_eq]; omega), if_pos h1]
  rw [if_neg (by simp only [Bool.or_eq_true, decide_eq_true_eq]; omega), if_neg h1]
  rw [rwithin_eq hF (by omega)]
  simp only [Option.bind_eq_bind, Option.bind_some]
  cases h2 : inr 0 9 x.1 with
  | false => simp
  | true =>
    rw [Many_eq hF (by omega) h2]
    simp only [Option.bind_some, Bool.not_true, Bool.false_eq_true, if_false, Bool.true_eq_false]
    by_cases h3 : 4096 < prd x.1
    · simp [h3]
    rw [if_neg (by simpa using h3), if_neg h3]
    have := any_loop0 (l := x.2) (L := fun m k => ref11_CheckBath_l1 F x m (k : Int)) (p := lenNe x.1.length) (c := 15) (fun m => by
      simp only [ref11_CheckBath_l1]; rw [if_neg nltd]) (fun m k hk => by
      simp only [ref11_CheckBath_l1]
      rw [if_pos (ltd hk), ix_nat hk, w64_succ (by omega)]
      simp only [Option.bind_eq_bind, Option.bind_some, lenNe]
      by_cases e1 : x.2[k].1.length = x.1.length <;> by_cases e2 : x.2[k].2.length = x.1.length <;> simp [e1, e2, nc]) (m := F) (by omega)
    simp only [Int.natCast_zero] at this
    rw [this]
    by_cases h4 : x.2.any (lenNe x.1.length) = true
    · rw [if_pos h4, if_pos h4]; rfl
    rw [if_neg h4, if_neg h4]
    have := any_loop0 (l := x.2) (L := fun m k => ref11_CheckBath_l2 F x m (k : Int)) (p := badM) (c := 2) (fun m => by
      simp only [ref11_CheckBath_l2]; rw [if_neg nltd]) (fun m k hk => by
      have := not_any h4 _ (List.getElem_mem hk)
      simp only [lenNe, Bool.or_eq_false_iff, Bool.not_eq_false', decide_eq_true_eq] at this
      simp only [ref11_CheckBath_l2]
      rw [if_pos (ltd hk), ix_nat hk, w64_succ (by omega)]
      simp only [Option.bind_eq_bind, Option.bind_some, rwithin_eq (F := F) (l := x.2[k].1) hF (by omega), rwithin_eq (F := F) (l := x.2[k].2) hF (by omega), badM]
      by_cases e1 : inr 0 5 x.2[k].1 = true <;> by_cases e2 : inr 0 5 x.2[k].2 = true <;> simp [e1, e2]) (m := F) (by omega)
    simp only [Int.natCast_zero] at this
    simp only [Option.bind_some]
    rw [this]
    by_cases h5 : x.2.any badM = true
    · rw [if_pos h5, if_pos h5]; rfl
    · rw [if_neg h5, if_neg h5]; rfl
structure V (x : Spec) : Prop where
  k1 : 1 ≤ x.1.length
  k5 : x.1.length ≤ 5
  m8 : x.2.length ≤ 8
  cap : ∀ c ∈ x.1, 0 ≤ c ∧ c ≤ 9
  prd : prd x.1 ≤ 4096
  mv : ∀ m ∈ x.2, m.1.length = x.1.length ∧ m.2.length = x.1.length ∧ (∀ t ∈ m.1, 0 ≤ t ∧ t ≤ 5) ∧ ∀ t ∈ m.2, 0 ≤ t ∧ t ≤ 5
theorem cval_ok {x : Spec} : cval x = 0 ↔ V x := by
  unfold cval
  constructor
  · intro h
    split at h
    · cases h
    split at h
    · cases h
    split at h
    · cases h
    split at h
    · cases h
    split at h
    · cases h
    rename_i h1 h2 h3 h4 h5
    refine ⟨by omega, by omega, by omega, inr_iff.1 (by simpa using h2), by omega, fun m hm => ?_⟩
    have a := not_any h4 m hm
    have b := not_any h5 m hm
    simp only [lenNe, badM, Bool.or_eq_false_iff, Bool.not_eq_false', decide_eq_true_eq] at a b
    exact ⟨a.1, a.2, inr_iff.1 b.1, inr_iff.1 b.2⟩
  · intro h
    rw [if_neg (by have := h.k1; have := h.k5; have := h.m8; omega), if_neg (by rw [inr_iff.2 h.cap]; simp), if_neg (by have := h.prd; omega), if_neg, if_neg]
    · simp only [List.any_eq_true, not_exists, not_and]
      intro m hm
      have := h.mv m hm
      simp [badM, inr_iff.2 this.2.2.1, inr_iff.2 this.2.2.2]
    · simp only [List.any_eq_true, not_exists, not_and]
      intro m hm
      have := h.mv m hm
      simp [lenNe, this.1, this.2.1]
def gr (x : Spec) : Bool := decide (10 < x.1.length) || decide (12 < x.2.length) || x.2.any fun m => decide (10 < m.1.length) || decide (10 < m.2.length)
theorem great_eq {F : Nat} {x : Spec} (hF : 1000000 < F) : law11_great F x = some (gr x) := by
  unfold law11_great gr
  by_cases h1 : 10 < x.1.length ∨ 12 < x.2.length
  · rw [if_pos (by simp only [Bool.or_eq_true, decide_eq_true_eq]; omega)]
    rcases h1 with h1 | h1 <;> simp [h1]
  rw [if_neg (by simp only [Bool.or_eq_true, decide_eq_true_eq]; omega)]
  have := any_loop0 (l := x.2) (L := fun m k => law11_great_l1 F x m (k : Int)) (p := fun m => decide (10 < m.1.length) || decide (10 < m.2.length)) (c := true) (fun m => by
    simp only [law11_great_l1]; rw [if_neg nltd]) (fun m k hk => by
    simp only [law11_great_l1]
    rw [if_pos (ltd hk), ix_nat hk, w64_succ (by omega)]
    simp only [Option.bind_eq_bind, Option.bind_some]
    by_cases e1 : 10 < x.2[k].1.length
    · have : (10 : Int) < (x.2[k].1.length : Int) := by omega
      simp [e1, this]
    · have : ¬ (10 : Int) < (x.2[k].1.length : Int) := by omega
      by_cases e2 : 10 < x.2[k].2.length
      · have h2 : (10 : Int) < (x.2[k].2.length : Int) := by omega
        simp [e1, e2, this, h2]
      · have h2 : ¬ (10 : Int) < (x.2[k].2.length : Int) := by omega
        simp [e1, e2, this, h2]) (m := F) (by omega)
  simp only [Int.natCast_zero] at this
  rw [this]
  have e1 : ¬ 10 < x.1.length := by omega
  have e2 : ¬ 12 < x.2.length := by omega
  simp only [e1, e2, decide_false, Bool.false_or]
  cases x.2.any fun m => decide (10 < m.1.length) || decide (10 < m.2.length) <;> rfl
end Go.Proofs.Ytboefnpnoojfpaa
