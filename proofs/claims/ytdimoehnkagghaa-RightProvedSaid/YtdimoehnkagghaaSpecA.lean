/-
  Loops of the pure functions, in plain words; lists, bits. Condition: there are enough rounds.
-/
import Derived.Test.YtdimoehnkagghaaPureE
import Derived.IntWalk
import Derived.KernelRfl
namespace Go.Proofs.Ytdimoehnkagghaa
open Go Go.Md Go.RowKit

theorem w64_in {n : Int} (h : -9223372036854775808 ≤ n ∧ n ≤ 9223372036854775807) : w64 n = n := IntWalk.i64_in n h
theorem w64_succ {k : Nat} (h : k < 4611686018427387904) : w64 ((k : Int) + 1) = ((k + 1 : Nat) : Int) := by rw [w64_in (by omega)]; omega
theorem ix_nat {α : Type} {l : List α} {k : Nat} (h : k < l.length) : ix l (k : Int) = some l[k] := by simp [ix, List.getElem?_eq_getElem h]
theorem ltd {k n : Nat} (h : k < n) : decide ((k : Int) < (n : Int)) = true := by simpa using h
theorem nltd {n : Nat} : ¬ decide ((n : Int) < (n : Int)) = true := by simp

/-! ### Loops -/
theorem any_loop {α ρ : Type} {l : List α} {L : Nat → Nat → Option (Sum ρ Unit)} {p : α → Bool} {c : ρ} (base : ∀ m, L (m + 1) l.length = some (.inr ()))
    (step : ∀ m k (h : k < l.length), L (m + 1) k = if p l[k] = true then some (.inl c) else L m (k + 1)) : ∀ m k, k ≤ l.length → l.length - k < m → L m k = some (if (l.drop k).any p = true then .inl c else .inr ())
  | 0, k, _, h => by omega
  | m + 1, k, hk, h => by
    by_cases hlt : k < l.length
    · rw [step m k hlt, List.drop_eq_getElem_cons hlt, List.any_cons]
      cases hp : p l[k] with
      | true => simp
      | false => rw [Bool.false_or, ← any_loop base step m (k + 1) (by omega) (by omega)]; simp
    · have : k = l.length := by omega
      subst this
      rw [base, List.drop_length]
      rfl
theorem any_loop0 {α ρ : Type} {l : List α} {L : Nat → Nat → Option (Sum ρ Unit)} {p : α → Bool} {c : ρ} (base : ∀ m, L (m + 1) l.length = some (.inr ()))
    (step : ∀ m k (h : k < l.length), L (m + 1) k = if p l[k] = true then some (.inl c) else L m (k + 1)) {m : Nat} (hm : l.length < m) : L m 0 = some (if l.any p = true then .inl c else .inr ()) := by
  have := any_loop base step m 0 (Nat.zero_le _) (by omega)
  rwa [List.drop_zero] at this
theorem idx_loop {α : Type} {l : List α} {L : Nat → Nat → Option (Sum Int Unit)} {p : α → Bool} (base : ∀ m, L (m + 1) l.length = some (.inr ()))
    (step : ∀ m k (h : k < l.length), L (m + 1) k = if p l[k] = true then some (.inl (k : Int)) else L m (k + 1)) : ∀ m k, k ≤ l.length → l.length - k < m →
    L m k = some (if (l.drop k).any p = true then .inl ((k + (l.drop k).findIdx p : Nat) : Int) else .inr ())
  | 0, k, _, h => by omega
  | m + 1, k, hk, h => by
    by_cases hlt : k < l.length
    · rw [step m k hlt, List.drop_eq_getElem_cons hlt, List.any_cons, List.findIdx_cons]
      cases hp : p l[k] with
      | true => simp
      | false =>
        rw [Bool.false_or, if_neg (by simp), idx_loop base step m (k + 1) (by omega) (by omega)]
        simp only [cond_false]
        rw [show k + 1 + (l.drop (k + 1)).findIdx p = k + ((l.drop (k + 1)).findIdx p + 1) by omega]
    · have : k = l.length := by omega
      subst this
      rw [base, List.drop_length]
      rfl
/-- The number of the first element, -1 if there is none. -/
def fst {α : Type} (l : List α) (p : α → Bool) : Int := if l.any p = true then (l.findIdx p : Int) else -1
theorem idx_loop0 {α : Type} {l : List α} {L : Nat → Nat → Option (Sum Int Unit)} {p : α → Bool} (base : ∀ m, L (m + 1) l.length = some (.inr ()))
    (step : ∀ m k (h : k < l.length), L (m + 1) k = if p l[k] = true then some (.inl (k : Int)) else L m (k + 1)) {m : Nat} (hm : l.length < m) : L m 0 = some (if l.any p = true then .inl (l.findIdx p : Int) else .inr ()) := by
  have := idx_loop base step m 0 (Nat.zero_le _) (by omega)
  rwa [List.drop_zero, Nat.zero_add] at this
theorem fold_loop {α σ ρ : Type} {l : List α} {L : Nat → Nat → σ → Option ρ} {f : σ → α → σ} {fin : σ → ρ} {inv : Nat → σ → Prop} (base : ∀ m y, inv l.length y → L (m + 1) l.length y = some (fin y))
    (step : ∀ m k y (h : k < l.length), inv k y → L (m + 1) k y = L m (k + 1) (f y l[k]) ∧ inv (k + 1) (f y l[k])) : ∀ m k y, k ≤ l.length → l.length - k < m → inv k y → L m k y = some (fin ((l.drop k).foldl f y)) ∧ inv l.length ((l.drop k).foldl f y)
  | 0, k, _, _, h, _ => by omega
  | m + 1, k, y, hk, h, hi => by
    by_cases hlt : k < l.length
    · obtain ⟨h1, h2⟩ := step m k y hlt hi
      rw [h1, List.drop_eq_getElem_cons hlt, List.foldl_cons]
      exact fold_loop base step m (k + 1) _ (by omega) (by omega) h2
    · have : k = l.length := by omega
      subst this
      rw [base m y hi, List.drop_length]
      exact ⟨rfl, hi⟩
theorem fold_loop0 {α σ ρ : Type} {l : List α} {L : Nat → Nat → σ → Option ρ} {f : σ → α → σ} {fin : σ → ρ} {inv : Nat → σ → Prop} (base : ∀ m y, inv l.length y → L (m + 1) l.length y = some (fin y))
    (step : ∀ m k y (h : k < l.length), inv k y → L (m + 1) k y = L m (k + 1) (f y l[k]) ∧ inv (k + 1) (f y l[k])) {m : Nat} {y : σ} (hm : l.length < m) (hi : inv 0 y) : L m 0 y = some (fin (l.foldl f y)) ∧ inv l.length (l.foldl f y) := by
  have := fold_loop base step m 0 y (Nat.zero_le _) (by omega) hi
  rwa [List.drop_zero] at this

theorem app_some {α : Type} {b : Nat} {l k : List α} (h : (l.length + k.length) * b ≤ 140737488355328) : app b l k = some (l ++ k) := by
  unfold app
  rw [if_pos h]

/-! ### Lists -/
abbrev Sm {α : Type} (l : List α) : Prop := l.length ≤ 1000000
theorem any_mem (l : List Int) (x : Int) : l.any (fun y => decide (y = x)) = decide (x ∈ l) := by
  induction l with
  | nil => rfl
  | cons a l ih =>
    rw [List.any_cons, ih, Bool.eq_iff_iff]
    simp only [Bool.or_eq_true, decide_eq_true_eq, List.mem_cons]
    exact ⟨fun h => h.imp Eq.symm id, fun h => h.imp Eq.symm id⟩
theorem all_any {α : Type} (of : List α) (p : α → Bool) : of.all p = !of.any (fun y => !p y) := by
  induction of with
  | nil => rfl
  | cons a of ih => rw [List.all_cons, List.any_cons, Bool.not_or, Bool.not_not, ih]
theorem in_eq {F : Nat} {l : List Int} {x : Int} (hF : 1000000 < F) (hl : Sm l) : ref10_In F l x = some (decide (x ∈ l)) := by
  have hl' : l.length ≤ 1000000 := hl
  unfold ref10_In
  have := any_loop0 (l := l) (L := fun m k => ref10_In_l1 F l x m (k : Int)) (p := fun y => decide (y = x)) (c := true) (fun m => by
    simp only [ref10_In_l1]; rw [if_neg nltd]) (fun m k h => by
    simp only [ref10_In_l1]
    rw [if_pos (ltd h), ix_nat h, w64_succ (by omega)]
    rfl) (m := F) (by omega)
  simp only [Int.natCast_zero] at this
  rw [this]
  rw [any_mem]
  by_cases hx : x ∈ l <;> simp [hx]
def allIn (l of : List Int) : Bool := of.all fun n => decide (n ∈ l)
theorem all_eq {F : Nat} {l of : List Int} (hF : 1000000 < F) (hl : Sm l) (ho : Sm of) : ref10_all F l of = some (allIn l of) := by
  have ho' : of.length ≤ 1000000 := ho
  unfold ref10_all
  have := any_loop0 (l := of) (L := fun m k => ref10_all_l1 F l of m (k : Int)) (p := fun y => !decide (y ∈ l)) (c := false) (fun m => by
    simp only [ref10_all_l1]; rw [if_neg nltd]) (fun m k h => by
    simp only [ref10_all_l1]
    rw [if_pos (ltd h), ix_nat h, w64_succ (by omega)]
    simp only [Option.bind_eq_bind, Option.bind_some, in_eq hF hl]) (m := F) (by omega)
  simp only [Int.natCast_zero] at this
  rw [this]
  have e : allIn l of = !of.any (fun y => !decide (y ∈ l)) := all_any _ _
  rw [e]
  cases of.any (fun y => !decide (y ∈ l)) <;> rfl
theorem allIn_iff {l of : List Int} : allIn l of = true ↔ ∀ n ∈ of, n ∈ l := by simp [allIn]
theorem there_eq {F : Nat} {l of : List Int} (hF : 1000000 < F) (hl : Sm l) (ho : Sm of) : law10_there F l of = some (allIn l of) := by
  have ho' : of.length ≤ 1000000 := ho
  rw [← all_eq hF hl ho]
  unfold law10_there ref10_all
  have : ∀ m (k : Int), law10_there_l1 F l of m k = ref10_all_l1 F l of m k := fun m => by
    induction m with
    | zero => intro k; rfl
    | succ m ih => intro k; simp only [law10_there_l1, ref10_all_l1, ih]
  rw [this]
theorem ints_same {F : Nat} {l : List Int} (hF : 1000000 < F) (hl : Sm l) : law10_ints F l l = some true := by
  have hl' : l.length ≤ 1000000 := hl
  unfold law10_ints
  rw [if_neg (by simp)]
  have := any_loop0 (l := l) (L := fun m k => law10_ints_l1 F l l m (k : Int)) (p := fun _ => false) (c := false) (fun m => by
    simp only [law10_ints_l1]; rw [if_neg nltd]) (fun m k h => by
    simp only [law10_ints_l1]
    rw [if_pos (ltd h), ix_nat h, w64_succ (by omega)]
    simp) (m := F) (by omega)
  simp only [Int.natCast_zero] at this
  rw [this]
  simp
end Go.Proofs.Ytdimoehnkagghaa
