/-
  Rising lists; which books hold up. Condition: no list is longer than a million.
-/
import Derived.Test.YtdimoehnkagghaaSpecB
namespace Go.Proofs.Ytdimoehnkagghaa
open Go Go.Md Go.RowKit

/-- Rising, above p and below n. -/
def riseG (n : Int) : Int → List Int → Bool
  | _, [] => true
  | p, a :: l => !(decide (a ≤ p) || decide (n ≤ a)) && riseG n a l
theorem riseG_cons {n p a : Int} {l : List Int} : riseG n p (a :: l) = (!(decide (a ≤ p) || decide (n ≤ a)) && riseG n a l) := rfl
def rise (l : List Int) (n : Int) : Bool := riseG n (-1) l

theorem rising_loop {F : Nat} {l : List Int} {n : Int} (hl : l.length ≤ 1000000) : ∀ m k y, k ≤ l.length → l.length - k < m → right_rising_l1 F l n m y (k : Int) = some (if riseG n y (l.drop k) = true then .inr () else .inl false)
  | 0, k, _, _, h => by omega
  | m + 1, k, y, hk, h => by
    simp only [right_rising_l1]
    by_cases hlt : k < l.length
    · rw [if_pos (ltd hlt), ix_nat hlt, w64_succ (by omega), List.drop_eq_getElem_cons hlt]
      rw [riseG_cons]
      simp only [Option.bind_eq_bind, Option.bind_some]
      rw [rising_loop hl m (k + 1) _ (by omega) (by omega)]
      cases (decide (l[k] ≤ y) || decide (n ≤ l[k])) <;> simp
    · have : k = l.length := by omega
      subst this
      rw [if_neg nltd, List.drop_length]
      rfl
theorem rising_eq {F : Nat} {l : List Int} {n : Int} (hF : 1000000 < F) (hl : Sm l) : right_rising F l n = some (rise l n) := by
  have hl' : l.length ≤ 1000000 := hl
  unfold right_rising
  have := rising_loop (F := F) (n := n) hl F 0 (-1) (by omega) (by omega)
  simp only [Int.natCast_zero] at this
  rw [this, List.drop_zero]
  unfold rise
  cases riseG n (-1) l <;> rfl
theorem Rising_loop {F : Nat} {l : List Int} {n : Int} (hl : l.length ≤ 1000000) : ∀ m k y, k ≤ l.length → l.length - k < m → (k = 0 → y = -1) → (0 < k → l[k - 1]? = some y ∧ 0 ≤ y) → ref10_Rising_l1 F l n m (k : Int) = some (if riseG n y (l.drop k) = true then .inr () else .inl false)
  | 0, k, _, _, h, _, _ => by omega
  | m + 1, k, y, hk, h, h0, h1 => by
    simp only [ref10_Rising_l1]
    by_cases hlt : k < l.length
    · rw [if_pos (ltd hlt), ix_nat hlt, w64_succ (by omega), List.drop_eq_getElem_cons hlt]
      rw [riseG_cons]
      simp only [Option.bind_eq_bind, Option.bind_some]
      have e : (if decide (l[k] < 0) = true then if True then some true else if decide (0 < (k : Int)) = true then (ix l (w64 ((k : Int) - 1))).bind fun x6 => some (decide (l[k] ≤ x6)) else some false
          else if decide (n ≤ l[k]) = true then some true else if decide (0 < (k : Int)) = true then (ix l (w64 ((k : Int) - 1))).bind fun x9 => some (decide (l[k] ≤ x9)) else some false) = some (decide (l[k] ≤ y) || decide (n ≤ l[k])) := by
        by_cases hn : l[k] < 0
        · have : l[k] ≤ y := by
            rcases Nat.eq_zero_or_pos k with h2 | h2
            · rw [h0 h2]; omega
            · have := (h1 h2).2; omega
          simp [hn, this]
        · by_cases h3 : n ≤ l[k]
          · simp [hn, h3]
          · rcases Nat.eq_zero_or_pos k with h2 | h2
            · have : ¬ l[k] ≤ y := by rw [h0 h2]; omega
              subst h2
              simp [hn, h3, this]
            · have h4 : (0 : Int) < k := by omega
              have e1 : w64 ((k : Int) - 1) = ((k - 1 : Nat) : Int) := by rw [w64_in (by omega)]; omega
              have e2 : ix l (w64 ((k : Int) - 1)) = some y := by rw [e1]; simp [ix, (h1 h2).1]
              rw [e2]
              simp [hn, h3, h2]
      rw [e]
      simp only [Option.bind_some]
      by_cases hc : (decide (l[k] ≤ y) || decide (n ≤ l[k])) = true
      · rw [if_pos hc, hc]; simp
      · rw [if_neg hc, Rising_loop hl m (k + 1) l[k] (by omega) (by omega) (by omega) (fun _ => ⟨by simp [hlt], by
          simp only [Bool.or_eq_true, decide_eq_true_eq, not_or] at hc
          rcases Nat.eq_zero_or_pos k with h2 | h2
          · have := h0 h2; omega
          · have := (h1 h2).2; omega⟩)]
        simp [Bool.not_eq_true _ ▸ hc]
    · have : k = l.length := by omega
      subst this
      rw [if_neg nltd, List.drop_length]
      rfl
theorem Rising_eq {F : Nat} {l : List Int} {n : Int} (hF : 1000000 < F) (hl : Sm l) : ref10_Rising F l n = some (rise l n) := by
  have hl' : l.length ≤ 1000000 := hl
  unfold ref10_Rising
  have := Rising_loop (F := F) (n := n) hl F 0 (-1) (by omega) (by omega) (fun _ => rfl) (by omega)
  simp only [Int.natCast_zero] at this
  rw [this, List.drop_zero]
  unfold rise
  cases riseG n (-1) l <;> rfl
theorem riseG_mem {n : Int} : ∀ {l : List Int} {p : Int}, riseG n p l = true → ∀ x ∈ l, p < x ∧ x < n
  | [], _, _, x, hx => by cases hx
  | a :: l, p, h, x, hx => by
    simp only [riseG, Bool.and_eq_true, Bool.not_eq_true', Bool.or_eq_false_iff, decide_eq_false_iff_not] at h
    rcases List.mem_cons.1 hx with rfl | hx
    · omega
    · have := riseG_mem h.2 x hx; omega
theorem riseG_nodup {n : Int} : ∀ {l : List Int} {p : Int}, riseG n p l = true → l.Nodup
  | [], _, _ => List.nodup_nil
  | a :: l, p, h => by
    simp only [riseG, Bool.and_eq_true] at h
    exact List.nodup_cons.2 ⟨fun hm => by have := (riseG_mem h.2 a hm).1; omega, riseG_nodup h.2⟩
theorem rise_mem {l : List Int} {n : Int} (h : rise l n = true) : ∀ x ∈ l, 0 ≤ x ∧ x < n := fun x hx => by have := riseG_mem h x hx; omega
theorem rise_small {l : List Int} {n : Int} (h : rise l n = true) (hn : n ≤ 62) : Small l := fun x hx => by have := rise_mem h x hx; omega
theorem nodup_len : ∀ (N : Nat) (M : List Int), M.Nodup → (∀ w ∈ M, 0 ≤ w ∧ w < N) → M.length ≤ N
  | 0, M, _, h => by
    cases M with
    | nil => simp
    | cons a M => have := h a (by simp); omega
  | N + 1, M, hn, h => by
    have h1 := nodup_len N (M.filter fun w => !decide (w = (N : Int))) (hn.filter _) (fun w hw => by
      simp only [List.mem_filter, Bool.not_eq_true', decide_eq_false_iff_not] at hw
      have := h w hw.1
      omega)
    have h2 : M.length ≤ (M.filter fun w => !decide (w = (N : Int))).length + 1 := by
      clear h h1
      induction M with
      | nil => simp
      | cons a M ih =>
        simp only [List.nodup_cons] at hn
        by_cases ha : a = (N : Int)
        · have e : (M.filter fun w => !decide (w = (N : Int))) = M := by
            refine List.filter_eq_self.2 fun w hw => ?_
            simp only [Bool.not_eq_true', decide_eq_false_iff_not]
            rintro rfl
            exact hn.1 (ha ▸ hw)
          rw [List.filter_cons, ha, if_neg (by simp), e]
          exact Nat.le_refl _
        · rw [List.filter_cons, if_pos (by simp [ha]), List.length_cons, List.length_cons]
          have := ih hn.2
          omega
    omega
theorem rise_len {l : List Int} {n : Int} (h : rise l n = true) : l.length ≤ n.toNat := nodup_len _ _ (riseG_nodup h) fun w hw => by have := rise_mem h w hw; omega

/-! ### A list that holds one of a kind -/
theorem contI {F : Nat} {l : List Int} {p' : Int → Option Bool} {p : Int → Bool} (hF : 1000000 < F) (hl : Sm l) (h : ∀ x ∈ l, p' x = some (p x)) : slices_ContainsFunc_int F l p' = some (l.any p) := by
  have hl' : l.length ≤ 1000000 := hl
  unfold slices_ContainsFunc_int slices_IndexFunc_int
  have := idx_loop0 (l := l) (L := fun m k => slices_IndexFunc_int_l1 F l p' m (k : Int)) (p := p) (fun m => by
    simp only [slices_IndexFunc_int_l1]; rw [if_neg nltd]) (fun m k hk => by
    simp only [slices_IndexFunc_int_l1]
    rw [if_pos (ltd hk), ix_nat hk, w64_succ (by omega)]
    simp only [Option.bind_eq_bind, Option.bind_some, h _ (List.getElem_mem hk)]) (m := F) (by omega)
  simp only [Int.natCast_zero] at this
  rw [this]
  cases l.any p
  · rfl
  · simp [Int.natCast_nonneg]
theorem contL {F : Nat} {l : List (List Int)} {p' : List Int → Option Bool} {p : List Int → Bool} (hF : 1000000 < F) (hl : Sm l) (h : ∀ x ∈ l, p' x = some (p x)) : slices_ContainsFunc__int F l p' = some (l.any p) := by
  have hl' : l.length ≤ 1000000 := hl
  unfold slices_ContainsFunc__int slices_IndexFunc__int
  have := idx_loop0 (l := l) (L := fun m k => slices_IndexFunc__int_l1 F l p' m (k : Int)) (p := p) (fun m => by
    simp only [slices_IndexFunc__int_l1]; rw [if_neg nltd]) (fun m k hk => by
    simp only [slices_IndexFunc__int_l1]
    rw [if_pos (ltd hk), ix_nat hk, w64_succ (by omega)]
    simp only [Option.bind_eq_bind, Option.bind_some, h _ (List.getElem_mem hk)]) (m := F) (by omega)
  simp only [Int.natCast_zero] at this
  rw [this]
  cases l.any p
  · rfl
  · simp [Int.natCast_nonneg]
theorem contR {F : Nat} {l : List TRule} {p' : TRule → Option Bool} {p : TRule → Bool} (hF : 1000000 < F) (hl : Sm l) (h : ∀ x ∈ l, p' x = some (p x)) : slices_ContainsFunc_api_RightRule F l p' = some (l.any p) := by
  have hl' : l.length ≤ 1000000 := hl
  unfold slices_ContainsFunc_api_RightRule slices_IndexFunc_api_RightRule
  have := idx_loop0 (l := l) (L := fun m k => slices_IndexFunc_api_RightRule_l1 F l p' m (k : Int)) (p := p) (fun m => by
    simp only [slices_IndexFunc_api_RightRule_l1]; rw [if_neg nltd]) (fun m k hk => by
    simp only [slices_IndexFunc_api_RightRule_l1]
    rw [if_pos (ltd hk), ix_nat hk, w64_succ (by omega)]
    have := h _ (List.getElem_mem hk)
    simp only [Option.bind_eq_bind, Option.bind_some]
    rw [this]
    rfl) (m := F) (by omega)
  simp only [Int.natCast_zero] at this
  rw [this]
  cases l.any p
  · rfl
  · simp [Int.natCast_nonneg]
/-- The number of the first of a kind among numbers. -/
theorem firstI {F : Nat} {l : List Int} {p' : Int → Option Bool} {p : Int → Bool} (hF : 1000000 < F) (hl : Sm l) (h : ∀ x ∈ l, p' x = some (p x)) : right_first__int F l p' = some (fst l p) := by
  have hl' : l.length ≤ 1000000 := hl
  unfold right_first__int
  have := idx_loop0 (l := l) (L := fun m k => right_first__int_l1 F l p' m (k : Int)) (p := p) (fun m => by
    simp only [right_first__int_l1]; rw [if_neg nltd]) (fun m k hk => by
    simp only [right_first__int_l1]
    rw [if_pos (ltd hk), ix_nat hk, w64_succ (by omega)]
    simp only [Option.bind_eq_bind, Option.bind_some, h _ (List.getElem_mem hk)]) (m := F) (by omega)
  simp only [Int.natCast_zero] at this
  rw [this]
  unfold fst
  cases l.any p <;> rfl
theorem firstW {F : Nat} {l : List TWay} {p' : TWay → Option Bool} {p : TWay → Bool} (hF : 1000000 < F) (hl : Sm l) (h : ∀ x ∈ l, p' x = some (p x)) : right_first__right_way F l p' = some (fst l p) := by
  have hl' : l.length ≤ 1000000 := hl
  unfold right_first__right_way
  have := idx_loop0 (l := l) (L := fun m k => right_first__right_way_l1 F l p' m (k : Int)) (p := p) (fun m => by
    simp only [right_first__right_way_l1]; rw [if_neg nltd]) (fun m k hk => by
    simp only [right_first__right_way_l1]
    rw [if_pos (ltd hk), ix_nat hk, w64_succ (by omega)]
    have := h _ (List.getElem_mem hk)
    simp only [Option.bind_eq_bind, Option.bind_some]
    rw [this]
    rfl) (m := F) (by omega)
  simp only [Int.natCast_zero] at this
  rw [this]
  unfold fst
  cases l.any p <;> rfl

/-! ### Books -/
abbrev lg6 (r : TRule) : Bool := decide (6 < (r.1.length : Int))
abbrev bad1 (t : List Int) : Bool := decide ((t.length : Int) = 0) || decide (6 < (t.length : Int))
abbrev oddR (n : Int) (r : TRule) : Bool := (!rise r.1 n || decide (r.2 < 0)) || decide (n ≤ r.2)
/-- What a book is blamed for before anything is held. -/
def vd (s : TBook) : Int :=
  if (((((decide (s.1 < 1)) || (decide (30 < s.1))) || (decide (40 < (s.2.2.1.length : Int)))) || (decide (12 < (s.2.2.2.1.length : Int)))) || (decide (10 < (s.2.2.2.2.length : Int)))) = true then 6
  else if (s.2.2.1.any lg6 || s.2.2.2.1.any lg6) = true then 6
  else if s.2.2.2.2.any bad1 = true then 6
  else if ((!rise s.2.1 s.1 || s.2.2.1.any (oddR s.1)) || s.2.2.2.1.any (oddR s.1)) = true then 2
  else if s.2.2.2.2.any (fun t => !rise t s.1) = true then 2
  else 0
structure Fit (s : TBook) : Prop where
  held : Sm s.2.1
  rules : Sm s.2.2.1
  given : Sm s.2.2.2.1
  taboos : Sm s.2.2.2.2
  rule : ∀ r ∈ s.2.2.1, Sm r.1
  give : ∀ r ∈ s.2.2.2.1, Sm r.1
  taboo : ∀ t ∈ s.2.2.2.2, Sm t
theorem gd_if {α : Type} {b : Bool} {o : Option α} {x d : α} (h : o = some x) : gd b o d = some (if b = true then x else d) := by
  cases b
  · rfl
  · simpa [gd] using h
theorem valid_eq {F : Nat} {s : TBook} (hF : 1000000 < F) (h : Fit s) : right_valid F s = some (vd s) := by
  unfold right_valid vd
  simp only [right_valid_1, right_valid_3]
  rw [contR (p := lg6) hF h.rules (fun _ _ => rfl), contR (p := lg6) hF h.given (fun _ _ => rfl), contL (p := bad1) hF h.taboos (fun _ _ => rfl), rising_eq hF h.held,
    contR (p := oddR s.1) hF h.rules (fun r hr => by unfold right_valid_2; rw [rising_eq hF (h.rule r hr)]; rfl),
    contR (p := oddR s.1) hF h.given (fun r hr => by unfold right_valid_2; rw [rising_eq hF (h.give r hr)]; rfl),
    contL (p := fun t => !rise t s.1) hF h.taboos (fun t ht => by unfold right_valid_4; rw [rising_eq hF (h.taboo t ht)]; rfl)]
  cases (decide (s.1 < 1) || decide (30 < s.1) || decide (40 < (s.2.2.1.length : Int)) || decide (12 < (s.2.2.2.1.length : Int)) || decide (10 < (s.2.2.2.2.length : Int))) <;> cases s.2.2.1.any lg6 <;> cases s.2.2.2.1.any lg6 <;>
    cases s.2.2.2.2.any bad1 <;> cases rise s.2.1 s.1 <;> cases s.2.2.1.any (oddR s.1) <;> cases s.2.2.2.1.any (oddR s.1) <;> cases s.2.2.2.2.any (fun t => !rise t s.1) <;> rfl
end Go.Proofs.Ytdimoehnkagghaa
