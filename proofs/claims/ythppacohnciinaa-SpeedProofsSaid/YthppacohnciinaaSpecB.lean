/-
  Valid sheets, their whole rules, and true speeds, in plain words. Condition: there are enough rounds.
-/
import Derived.Test.YthppacohnciinaaSpecA
namespace Go.Proofs.Ythppacohnciinaa
open Go Go.Md Go.RowKit

/-! ### Valid sheets -/
def okRule (T : Int) (r : Int × Int × Int) : Bool := inR 0 T r.1 && inR 0 T r.2.1 && !decide (r.1 = r.2.1) && inR (-100000) 100000 r.2.2
def csheet (x : Int × List (Int × Int × Int)) : Int :=
  if 60 < x.2.length then 6 else if inR 1 20 x.1 = true then (if x.2.all (okRule x.1) = true then 0 else 3) else 2

theorem bad_eq {F : Nat} (hF : 3 < F) (T : Int) (s : List (Int × Int × Int)) (r : Int × Int × Int) : speed_CheckSheet_1 F r (T, s) = some (!okRule T r) := by
  unfold speed_CheckSheet_1
  rw [turns_eq (by simp; omega) (by simp), within_eq (by simp; omega) (by simp)]
  simp only [Option.bind_eq_bind, Option.bind_some, List.all_cons, List.all_nil, Bool.and_true, okRule]
  cases h1 : inR 0 T r.1 <;> cases h2 : inR 0 T r.2.1 <;> by_cases h3 : r.1 = r.2.1 <;> cases h4 : inR (-100000) 100000 r.2.2 <;> simp [gd, h3]

theorem any_not {α : Type} {p : α → Bool} (l : List α) : (l.any fun x => !p x) = !l.all p := by
  induction l with
  | nil => rfl
  | cons a l ih => simp [ih, Bool.not_and]

theorem checkSheet_eq {F : Nat} (hF : 100 < F) (x : Int × List (Int × Int × Int)) : speed_CheckSheet F x = some (csheet x) := by
  unfold speed_CheckSheet csheet
  by_cases h1 : 60 < x.2.length
  · rw [if_pos (by simp; omega), if_pos h1]
  · rw [if_neg (by simp; omega), if_neg h1, turns_eq (by simp; omega) (by simp)]
    simp only [Option.bind_eq_bind, Option.bind_some, List.all_cons, List.all_nil, Bool.and_true]
    cases h2 : inR 1 20 x.1 with
    | false => simp
    | true =>
      rw [con_rule (p := fun r => !okRule x.1 r) (fun r _ => bad_eq (by omega) x.1 x.2 r) (by omega) (by omega), any_not]
      simp only [Option.bind_some]
      cases x.2.all (okRule x.1) <;> simp

theorem isRule_eq (r : Int × Int × Int) (T : Int) : ref01_IsRule r T = some (okRule T r) := by
  unfold ref01_IsRule okRule inR
  congr 1
  cases decide (0 ≤ r.1) <;> cases decide (r.1 ≤ T) <;> cases decide (0 ≤ r.2.1) <;> cases decide (r.2.1 ≤ T) <;> simp [Bool.and_assoc]

theorem refSheet_l1 {F : Nat} {x : Int × List (Int × Int × Int)} (hl : x.2.length < 4611686018427387904) : ∀ (m k : Nat), k ≤ x.2.length → x.2.length - k < m →
    ref01_CheckSheet_l1 F x m (k : Int) = some (if (x.2.drop k).all (okRule x.1) = true then .inr () else .inl 3)
  | 0, k, _, h => by omega
  | m + 1, k, hk, h => by
    unfold ref01_CheckSheet_l1
    by_cases hlt : k < x.2.length
    · rw [if_pos (by simpa using hlt), ix_nat hlt]
      have hd : x.2.drop k = x.2[k] :: x.2.drop (k + 1) := List.drop_eq_getElem_cons hlt
      simp only [Option.bind_eq_bind, Option.bind_some, isRule_eq]
      rw [hd, List.all_cons]
      cases hp : okRule x.1 x.2[k] with
      | false => simp
      | true =>
        rw [if_neg (by simp), w64_in (by omega)]
        exact (refSheet_l1 hl m (k + 1) (by omega) (by omega)).trans (by rw [Bool.true_and])
    · rw [if_neg (by simpa using hlt), List.drop_of_length_le (by omega)]
      rfl
theorem refSheet_eq {F : Nat} (hF : 100 < F) (x : Int × List (Int × Int × Int)) : ref01_CheckSheet F x = some (csheet x) := by
  unfold ref01_CheckSheet csheet
  by_cases h1 : 60 < x.2.length
  · rw [if_pos (by simp; omega), if_pos h1]
  · rw [if_neg (by simp; omega), if_neg h1]
    cases h2 : inR 1 20 x.1 with
    | false =>
      rw [if_pos (by simp [inR] at h2 ⊢; omega)]
      rfl
    | true =>
      rw [if_neg (by simp [inR] at h2 ⊢; omega)]
      have := refSheet_l1 (F := F) (x := x) (by omega) F 0 (Nat.zero_le _) (by omega)
      simp only [Int.natCast_zero, List.drop_zero] at this
      rw [this]
      cases x.2.all (okRule x.1) <;> rfl

theorem csheet_ok {x : Int × List (Int × Int × Int)} (h : csheet x = 0) : x.2.length ≤ 60 ∧ 1 ≤ x.1 ∧ x.1 ≤ 20 ∧ ∀ r ∈ x.2, okRule x.1 r = true := by
  unfold csheet at h
  split at h
  · cases h
  · rename_i h1
    split at h
    · rename_i h2
      split at h
      · rename_i h3
        simp only [inR, Bool.and_eq_true, decide_eq_true_eq] at h2
        exact ⟨by omega, h2.1, h2.2, List.all_eq_true.1 h3⟩
      · cases h
    · cases h

/-! ### Whole rules -/
def turnR (n : Nat) : List (Int × Int × Int) := (List.range n).flatMap fun (t : Nat) => [(0, (t : Int) + 1, 100000), ((t : Int) + 1, 0, 0)]
theorem turnR_succ (n : Nat) : turnR (n + 1) = turnR n ++ [(0, (n : Int) + 1, 100000), ((n : Int) + 1, 0, 0)] := by simp [turnR, List.range_succ]
theorem turnR_len (n : Nat) : (turnR n).length = 2 * n := by
  induction n with
  | zero => rfl
  | succ n ih => rw [turnR_succ, List.length_append, ih]; simp; omega
def whole (x : Int × List (Int × Int × Int)) : List (Int × Int × Int) := x.2 ++ turnR x.1.toNat

theorem app_some {α : Type} {b : Nat} {l k : List α} (h : (l.length + k.length) * b ≤ 140737488355328) : app b l k = some (l ++ k) := by
  unfold app
  rw [if_pos h]

theorem newNet_l1 {F : Nat} {x : Int × List (Int × Int × Int)} {N : Nat} (hN : x.1 = N) (h20 : N ≤ 20) (hl : x.2.length ≤ 60) (y : (Int × List (Int × Int × Int)) × List (Int × Int × Int)) : ∀ (m k : Nat), k ≤ N → N - k < m →
    speed_newNet_l1 F x m (k : Int) ((x.1, x.2), x.2 ++ turnR k) = some ((x.1, x.2), x.2 ++ turnR N)
  | 0, k, _, h => by omega
  | m + 1, k, hk, h => by
    unfold speed_newNet_l1
    by_cases hlt : k < N
    · rw [if_pos (by simp; omega)]
      have hlen := turnR_len k
      rw [app_some (by simp only [List.length_append, List.length_cons, List.length_nil, hlen]; omega)]
      simp only [Option.bind_eq_bind, Option.bind_some]
      rw [w64_in (by omega), List.append_assoc, ← turnR_succ]
      exact newNet_l1 hN h20 hl y m (k + 1) (by omega) (by omega)
    · have : k = N := by omega
      subst this
      rw [if_neg (by simp; omega)]
theorem newNet_eq {F : Nat} (hF : 100 < F) {x : Int × List (Int × Int × Int)} (h0 : 0 ≤ x.1) (h20 : x.1 ≤ 20) (hl : x.2.length ≤ 60) : speed_newNet F x = some ⟨some ((x.1, x.2), whole x)⟩ := by
  unfold speed_newNet slices_Clone_rules
  rw [app_some (by simp; omega)]
  simp only [Option.bind_eq_bind, Option.bind_some, List.nil_append]
  have := newNet_l1 (F := F) (x := x) (N := x.1.toNat) (by omega) (by omega) hl ((x.1, x.2), []) F 0 (Nat.zero_le _) (by omega)
  simp only [Int.natCast_zero, turnR, List.range_zero, List.flatMap_nil, List.append_nil] at this
  rw [this]
  rfl
theorem all_l1 {F : Nat} {x : Int × List (Int × Int × Int)} {N : Nat} (hN : x.1 = N) (h20 : N ≤ 20) (hl : x.2.length ≤ 60) : ∀ (m k : Nat), k ≤ N → N - k < m →
    ref01_All_l1 F x m (x.2 ++ turnR k) ((k : Int) + 1) = some (x.2 ++ turnR N)
  | 0, k, _, h => by omega
  | m + 1, k, hk, h => by
    unfold ref01_All_l1
    by_cases hlt : k < N
    · rw [if_pos (by simp; omega)]
      have hlen := turnR_len k
      rw [app_some (by simp only [List.length_append, List.length_cons, List.length_nil, hlen]; omega)]
      simp only [Option.bind_eq_bind, Option.bind_some]
      rw [w64_in (by omega), List.append_assoc, ← turnR_succ]
      exact all_l1 hN h20 hl m (k + 1) (by omega) (by omega)
    · have : k = N := by omega
      subst this
      rw [if_neg (by simp; omega)]
theorem all_eq {F : Nat} (hF : 100 < F) {x : Int × List (Int × Int × Int)} (h0 : 0 ≤ x.1) (h20 : x.1 ≤ 20) (hl : x.2.length ≤ 60) : ref01_All F x = some (whole x) := by
  unfold ref01_All
  rw [app_some (by simp; omega)]
  simp only [Option.bind_eq_bind, Option.bind_some, List.nil_append]
  have := all_l1 (F := F) (x := x) (N := x.1.toNat) (by omega) (by omega) hl F 0 (Nat.zero_le _) (by omega)
  simp only [Int.natCast_zero, turnR, List.range_zero, List.flatMap_nil, List.append_nil, Int.zero_add] at this
  rw [this]
  rfl
theorem whole_len {x : Int × List (Int × Int × Int)} (h : csheet x = 0) : (whole x).length ≤ 100 := by
  obtain ⟨h1, h2, h3, _⟩ := csheet_ok h
  simp only [whole, List.length_append, turnR_len]
  omega

theorem Whole_same {F : Nat} (hF : 200 < F) (x : Int × List (Int × Int × Int)) : ∃ l, speed_Whole F x = some (l, csheet x) ∧ ref01_Whole F x = some (l, csheet x) ∧ l.length ≤ 100 := by
  unfold speed_Whole ref01_Whole
  simp only [checkSheet_eq (show 100 < F by omega), refSheet_eq (show 100 < F by omega), Option.bind_eq_bind, Option.bind_some]
  by_cases h : csheet x = 0
  · obtain ⟨h1, h2, h3, _⟩ := csheet_ok h
    have hw := whole_len h
    rw [if_neg (by simp [h]), if_neg (by simp [h]), newNet_eq (by omega) (by omega) h3 h1, all_eq (by omega) (by omega) h3 h1]
    exact ⟨_, by rw [h]; rfl, by rw [h]; rfl, hw⟩
  · rw [if_pos (by simp [h]), if_pos (by simp [h])]
    exact ⟨[], rfl, rfl, by simp⟩

/-! ### True speeds -/
def ofS (s : List Int) (t : Int) : Int := if t = 0 then 0 else (ix s (t - 1)).getD 0
theorem of_eq {s : List Int} {t : Int} (h0 : 0 ≤ t) (h1 : t ≤ s.length) (hl : s.length ≤ 20) : ref01_Of s t = some (ofS s t) := by
  unfold ref01_Of ofS
  by_cases h : t = 0
  · rw [if_pos (by simpa using h), if_pos h]
  · rw [if_neg (by simpa using h), if_neg h, w64_in (by omega)]
    have : (t - 1) = ((t - 1).toNat : Int) := by omega
    rw [this, ix_nat (by omega)]
    rfl
theorem arr_eq {s : List Int} {t : Int} (h0 : 0 ≤ t) (h1 : t ≤ s.length) (hl : s.length ≤ 20) : ix (acopy (aset (Ar.fill 21 0 : Ar 21 Int) 0 0) 1 s).l t = some (ofS s t) := by
  have hs : ((aset (Ar.fill 21 0 : Ar 21 Int) 0 0)).l = List.replicate 21 0 := by decide
  have hl' : (acopy (aset (Ar.fill 21 0 : Ar 21 Int) 0 0) 1 s).l = [0] ++ s ++ List.replicate (20 - s.length) 0 := by
    unfold acopy
    simp only [hs]
    rw [List.take_of_length_le (show s.length ≤ 21 - 1 by omega)]
    simp only [List.drop_replicate]
    congr 2
    omega
  rw [hl']
  unfold ofS
  by_cases h : t = 0
  · subst h; rfl
  · rw [if_neg h]
    have e : t = ((t - 1).toNat + 1 : Nat) := by omega
    have e2 : t - 1 = ((t - 1).toNat : Int) := by omega
    generalize hk : (t - 1).toNat = k at e e2
    have hks : k < s.length := by omega
    rw [e2, ix_nat hks, e]
    unfold ix
    rw [if_pos (by omega)]
    simp only [Int.toNat_natCast, List.singleton_append, List.cons_append, List.nil_append, List.getElem?_cons_succ, Option.getD_some]
    rw [List.getElem?_append_left hks, List.getElem?_eq_getElem hks]

def keepsS (s : List Int) (r : Int × Int × Int) : Bool := decide (ofS s r.2.1 ≤ w64 (ofS s r.1 + r.2.2))
def cspeeds (x : Int × List (Int × Int × Int)) (s : List Int) : Int :=
  if csheet x ≠ 0 then csheet x else if (s.length : Int) ≠ x.1 then 15 else if s.all (inR 0 100000) = true then (if x.2.all (keepsS s) = true then 0 else 17) else 3

theorem speeds_l1 {F : Nat} {x : Int × List (Int × Int × Int)} {s : List Int} (hx : csheet x = 0) (hs : (s.length : Int) = x.1) : ∀ (m k : Nat), k ≤ x.2.length → x.2.length - k < m →
    speed_CheckSpeeds_l1 F x s m (k : Int) = some (if (x.2.drop k).all (keepsS s) = true then .inr () else .inl 17)
  | 0, k, _, h => by omega
  | m + 1, k, hk, h => by
    obtain ⟨h1, h2, h3, h4⟩ := csheet_ok hx
    unfold speed_CheckSpeeds_l1
    by_cases hlt : k < x.2.length
    · rw [if_pos (by simpa using hlt), ix_nat hlt]
      have hd : x.2.drop k = x.2[k] :: x.2.drop (k + 1) := List.drop_eq_getElem_cons hlt
      have hr := h4 _ (List.getElem_mem hlt)
      simp only [okRule, inR, Bool.and_eq_true, decide_eq_true_eq] at hr
      obtain ⟨⟨⟨⟨r1, r2⟩, r3, r4⟩, _⟩, _⟩ := hr
      simp only [Option.bind_eq_bind, Option.bind_some, speed_list_keeps]
      rw [arr_eq r3 (by omega) (by omega), arr_eq r1 (by omega) (by omega)]
      simp only [Option.bind_some]
      rw [hd, List.all_cons]
      show (if (!keepsS s x.2[k]) = true then _ else _) = _
      cases hp : keepsS s x.2[k] with
      | false => simp
      | true =>
        rw [if_neg (by simp), w64_in (by omega)]
        exact (speeds_l1 hx hs m (k + 1) (by omega) (by omega)).trans (by rw [Bool.true_and])
    · rw [if_neg (by simpa using hlt), List.drop_of_length_le (by omega)]
      rfl

theorem refSpeeds_l1 {F : Nat} {s : List Int} (hl : s.length ≤ 40) : ∀ (m k : Nat), k ≤ s.length → s.length - k < m →
    ref01_CheckSpeeds_l1 F s m (k : Int) = some (if (s.drop k).all (inR 0 100000) = true then .inr () else .inl 3)
  | 0, k, _, h => by omega
  | m + 1, k, hk, h => by
    unfold ref01_CheckSpeeds_l1
    by_cases hlt : k < s.length
    · rw [if_pos (by simpa using hlt), ix_nat hlt]
      have hd : s.drop k = s[k] :: s.drop (k + 1) := List.drop_eq_getElem_cons hlt
      simp only [Option.bind_eq_bind, Option.bind_some]
      rw [hd, List.all_cons]
      have ih := refSpeeds_l1 (F := F) hl m (k + 1) (by omega) (by omega)
      by_cases a1 : s[k] < 0
      · simp only [a1, decide_true, if_true, Option.bind_some]
        rw [if_neg]
        simp only [inR, Bool.and_eq_true, decide_eq_true_eq, not_and]
        omega
      · simp only [a1, decide_false, Bool.false_eq_true, if_false, Option.bind_some]
        by_cases a2 : 100000 < s[k]
        · simp only [a2, decide_true, if_true]
          rw [if_neg]
          simp only [inR, Bool.and_eq_true, decide_eq_true_eq, not_and]
          omega
        · simp only [a2, decide_false, Bool.false_eq_true, if_false]
          rw [w64_in (by omega)]
          have : inR 0 100000 s[k] = true := by simp [inR]; omega
          rw [this, Bool.true_and]
          exact ih
    · rw [if_neg (by simpa using hlt), List.drop_of_length_le (by omega)]
      rfl

theorem refSpeeds_l2 {F : Nat} {x : Int × List (Int × Int × Int)} {s : List Int} (hx : csheet x = 0) (hs : (s.length : Int) = x.1) : ∀ (m k : Nat), k ≤ x.2.length → x.2.length - k < m →
    ref01_CheckSpeeds_l2 F x s m (k : Int) = some (if (x.2.drop k).all (keepsS s) = true then .inr () else .inl 17)
  | 0, k, _, h => by omega
  | m + 1, k, hk, h => by
    obtain ⟨h1, h2, h3, h4⟩ := csheet_ok hx
    unfold ref01_CheckSpeeds_l2
    by_cases hlt : k < x.2.length
    · rw [if_pos (by simpa using hlt), ix_nat hlt]
      have hd : x.2.drop k = x.2[k] :: x.2.drop (k + 1) := List.drop_eq_getElem_cons hlt
      have hr := h4 _ (List.getElem_mem hlt)
      simp only [okRule, inR, Bool.and_eq_true, decide_eq_true_eq] at hr
      obtain ⟨⟨⟨⟨r1, r2⟩, r3, r4⟩, _⟩, _⟩ := hr
      simp only [Option.bind_eq_bind, Option.bind_some]
      rw [of_eq r3 (by omega) (by omega), of_eq r1 (by omega) (by omega)]
      simp only [Option.bind_some]
      rw [hd, List.all_cons]
      have e : decide (w64 (ofS s x.2[k].1 + x.2[k].2.2) < ofS s x.2[k].2.1) = !keepsS s x.2[k] := by
        unfold keepsS
        by_cases h : ofS s x.2[k].2.1 ≤ w64 (ofS s x.2[k].1 + x.2[k].2.2) <;> simp [h] <;> omega
      rw [e]
      cases hp : keepsS s x.2[k] with
      | false => simp
      | true =>
        rw [if_neg (by simp), w64_in (by omega)]
        exact (refSpeeds_l2 hx hs m (k + 1) (by omega) (by omega)).trans (by rw [Bool.true_and])
    · rw [if_neg (by simpa using hlt), List.drop_of_length_le (by omega)]
      rfl

theorem cs1 {x : Int × List (Int × Int × Int)} {s : List Int} (h : csheet x ≠ 0) : cspeeds x s = csheet x := by unfold cspeeds; rw [if_pos h]
theorem cs2 {x : Int × List (Int × Int × Int)} {s : List Int} (h : csheet x = 0) (h5 : (s.length : Int) ≠ x.1) : cspeeds x s = 15 := by unfold cspeeds; rw [if_neg (fun e => e h), if_pos h5]
theorem cs3 {x : Int × List (Int × Int × Int)} {s : List Int} (h : csheet x = 0) (h5 : (s.length : Int) = x.1) : cspeeds x s = if s.all (inR 0 100000) = true then (if x.2.all (keepsS s) = true then 0 else 17) else 3 := by unfold cspeeds; rw [if_neg (fun e => e h), if_neg (fun e => e h5)]
theorem speeds_eq {F : Nat} (hF : 200 < F) (x : Int × List (Int × Int × Int)) (s : List Int) : speed_CheckSpeeds F x s = some (cspeeds x s) := by
  unfold speed_CheckSpeeds
  simp only [checkSheet_eq (show 100 < F by omega), Option.bind_eq_bind, Option.bind_some]
  by_cases h : csheet x = 0
  · obtain ⟨h1, h2, h3, _⟩ := csheet_ok h
    rw [if_neg (by simp [h])]
    by_cases h5 : (s.length : Int) = x.1
    · rw [if_neg (by simp [h5]), within_eq (by omega) (by omega), cs3 h h5]
      simp only [Option.bind_some]
      cases h6 : s.all (inR 0 100000) with
      | false => rfl
      | true =>
        have := speeds_l1 (F := F) h h5 F 0 (Nat.zero_le _) (by omega)
        simp only [Int.natCast_zero, List.drop_zero] at this
        rw [this]
        cases x.2.all (keepsS s) <;> rfl
    · rw [if_pos (by simp [h5]), cs2 h h5]
  · rw [if_pos (by simp [h]), cs1 h]
theorem refSpeeds_eq {F : Nat} (hF : 200 < F) (x : Int × List (Int × Int × Int)) (s : List Int) : ref01_CheckSpeeds F x s = some (cspeeds x s) := by
  unfold ref01_CheckSpeeds
  simp only [refSheet_eq (show 100 < F by omega), Option.bind_eq_bind, Option.bind_some]
  by_cases h : csheet x = 0
  · obtain ⟨h1, h2, h3, _⟩ := csheet_ok h
    rw [if_neg (by simp [h])]
    by_cases h5 : (s.length : Int) = x.1
    · rw [if_neg (by simp [h5]), cs3 h h5]
      have t1 := refSpeeds_l1 (F := F) (s := s) (by omega) F 0 (Nat.zero_le _) (by omega)
      have t2 := refSpeeds_l2 (F := F) h h5 F 0 (Nat.zero_le _) (by omega)
      simp only [Int.natCast_zero, List.drop_zero] at t1 t2
      rw [t1]
      cases h6 : s.all (inR 0 100000) with
      | false => rfl
      | true =>
        simp only [if_true, Option.bind_some]
        rw [t2]
        cases x.2.all (keepsS s) <;> rfl
    · rw [if_pos (by simp [h5]), cs2 h h5]
  · rw [if_pos (by simp [h]), cs1 h]

theorem speedSheets_true (x : Int × List (Int × Int × Int)) (s : List Int) : law01_SpeedSheets 1000 x s = some true := by
  unfold law01_SpeedSheets law01_great
  simp only [Option.bind_eq_bind, Option.bind_some]
  split
  · rw [works]; rfl
  · obtain ⟨l, h1, h2, h3⟩ := Whole_same (F := 1000) (by decide) x
    simp only [h1, h2, checkSheet_eq (show 100 < 1000 by decide), refSheet_eq (show 100 < 1000 by decide), speeds_eq (show 200 < 1000 by decide), refSpeeds_eq (show 200 < 1000 by decide), Option.bind_some]
    rw [rules_same (by omega) (by omega), works]
    simp
end Go.Proofs.Ythppacohnciinaa
