/-
  Laws in plain Lean, with no program in sight. Condition: each section says its own.
-/
import Derived.Test.YthppacohnciinaaLaw2
set_option linter.unusedVariables false
set_option linter.unusedSimpArgs false
/-! True speeds by numbers, SpeedHeld and SpeedWays, in plain words. Condition: there are enough rounds. -/
namespace Go.Proofs.Ythppacohnciinaa
open Go Go.Md Go.RowKit
section
variable {x : Int × List RR} {F : Nat} {a b t : Int}

/-! ### Speeds that are true -/
theorem pot_true (h : csheet x = 0) {s : List Int} (hl : (s.length : Int) = x.1) (hp : ∀ r ∈ whole x, ofS s r.2.1 ≤ ofS s r.1 + r.2.2) : cspeeds x s = 0 := by
  obtain ⟨h1, h2, h3, _⟩ := csheet_ok h
  have hb : ∀ t, 0 ≤ t → t ≤ x.1 → 0 ≤ ofS s t ∧ ofS s t ≤ 100000 := fun t t0 t1 => by
    by_cases e : t = 0
    · subst e; unfold ofS; simp
    · have m := turn_mem (x := x) (t := t) (by omega) t1
      have e1 := hp _ m.1
      have e2 := hp _ m.2
      have z : ofS s 0 = 0 := rfl
      simp only [z] at e1 e2
      omega
  rw [cs3 h hl, if_pos, if_pos]
  · refine List.all_eq_true.2 fun r hr => ?_
    have hw : r ∈ whole x := List.mem_append.2 (.inl hr)
    have hok := whole_ok h r hw
    have e := hp r hw
    have b1 := hb r.1 hok.1 hok.2.1
    obtain ⟨_, _, _, _, _, m1, m2⟩ := hok
    unfold keepsS
    rw [w64_in (by omega)]
    simpa using e
  · refine List.all_eq_true.2 fun v hv => ?_
    obtain ⟨i, hi, rfl⟩ := List.getElem_of_mem hv
    have := hb ((i : Int) + 1) (by omega) (by omega)
    have e : ofS s ((i : Int) + 1) = s[i] := by
      unfold ofS
      rw [if_neg (by omega), show (i : Int) + 1 - 1 = (i : Int) by omega, ix_nat hi]
      rfl
    rw [e] at this
    simpa [inR] using this
theorem ofS_app {s : List Int} {v : Int} : (∀ i : Int, 0 ≤ i → i ≤ s.length → ofS (s ++ [v]) i = ofS s i) ∧ ofS (s ++ [v]) ((s.length : Int) + 1) = v := by
  refine ⟨fun i i0 i1 => ?_, ?_⟩
  · unfold ofS
    by_cases e : i = 0
    · rw [if_pos e, if_pos e]
    · rw [if_neg e, if_neg e]
      have e2 : i - 1 = ((i - 1).toNat : Int) := by omega
      rw [e2, ix_nat (show (i - 1).toNat < (s ++ [v]).length by simp; omega), ix_nat (show (i - 1).toNat < s.length by omega), List.getElem_append_left]
  · unfold ofS
    rw [if_neg (by omega), show (s.length : Int) + 1 - 1 = (s.length : Int) by omega, ix_nat (by simp)]
    simp
def PairOK (x : Int × List RR) (s : List Int) (n : Int) : Prop := ∀ i j, 0 ≤ i → i ≤ n → 0 ≤ j → j ≤ n → ofS s j ≤ ofS s i + D x i j
theorem PairOK.bd (h : csheet x = 0) (hP : Pot x) {s : List Int} {n : Int} (hn : n ≤ x.1) (hp : PairOK x s n) {i : Int} (i0 : 0 ≤ i) (i1 : i ≤ n) : -100000 ≤ ofS s i ∧ ofS s i ≤ 100000 := by
  obtain ⟨h1, h2, h3, _⟩ := csheet_ok h
  have b1 := D_bd h hP (a := 0) (t := i) (by omega) (by omega) i0 (by omega)
  have b2 := D_bd h hP (a := i) (t := 0) i0 (by omega) (by omega) (by omega)
  have z : ofS s 0 = 0 := rfl
  have e1 := hp 0 i (by omega) (by omega) i0 i1
  have e2 := hp i 0 i0 i1 (by omega) (by omega)
  rw [z] at e1 e2
  omega
theorem PairOK.lohi (h : csheet x = 0) (hP : Pot x) {s : List Int} {n t : Int} (hn : n ≤ x.1) (hp : PairOK x s n) (t0 : 0 ≤ t) (t1 : t ≤ x.1) {i j : Int} (i0 : 0 ≤ i) (i1 : i ≤ n) (j0 : 0 ≤ j) (j1 : j ≤ n) : ofS s i - D x t i ≤ ofS s j + D x j t := by
  have e1 := hp j i j0 j1 i0 i1
  have e2 := D_tri h hP (a := j) (t := t) (u := i) j0 (by omega) t0 t1 i0 (by omega)
  omega
theorem pot_pair (h : csheet x = 0) (hP : Pot x) {s : List Int} (hl : (s.length : Int) = x.1) (hp : PairOK x s x.1) : cspeeds x s = 0 :=
  pot_true h hl fun r hr => by
    have hok := whole_ok h r hr
    have e := hp r.1 r.2.1 hok.1 hok.2.1 hok.2.2.1 hok.2.2.2.1
    have e2 := (D_dist h hP (a := r.1) (t := r.2.1) hok.1 hok.2.1 hok.2.2.1 hok.2.2.2.1).2 _ (PC.one hr)
    omega
theorem ix_of {s : List Int} {k : Int} (k0 : 1 ≤ k) (k1 : k ≤ s.length) (hl : s.length < 1000000) : ix s (w64 (k - 1)) = some (ofS s k) := by
  rw [w64_in (by omega)]
  unfold ofS
  rw [if_neg (by omega)]
  have e2 : k - 1 = ((k - 1).toNat : Int) := by omega
  rw [e2, ix_nat (show (k - 1).toNat < s.length by omega)]
  rfl
def MD (x : Int × List RR) (M : List (List Int)) : Prop := ∀ i, 0 ≤ i → i ≤ x.1 → ∃ row, ix M i = some row ∧ row.length = nn x ∧ ∀ k, 0 ≤ k → k ≤ x.1 → ix row k = some (D x i k)
theorem true_l2 (h : csheet x = 0) (hP : Pot x) {M : List (List Int)} (hM : MD x M) {s : List Int} (t0 : 1 ≤ t) (t1 : t ≤ x.1) (hs : (s.length : Int) = t - 1) (hp : PairOK x s (t - 1)) : ∀ (m : Nat) (k lo hi : Int), 1 ≤ k → k ≤ t → t - k < m →
    (∀ i, 0 ≤ i → i < k → ofS s i - D x t i ≤ lo ∧ hi ≤ ofS s i + D x i t) → (∃ i, 0 ≤ i ∧ i < t ∧ lo = ofS s i - D x t i) → (∃ i, 0 ≤ i ∧ i < t ∧ hi = ofS s i + D x i t) →
    ∃ lo' hi', law01_True_l2 F M s t m lo hi k = some (lo', hi') ∧ (∀ i, 0 ≤ i → i < t → ofS s i - D x t i ≤ lo' ∧ hi' ≤ ofS s i + D x i t) ∧ (∃ i, 0 ≤ i ∧ i < t ∧ lo' = ofS s i - D x t i) ∧ (∃ i, 0 ≤ i ∧ i < t ∧ hi' = ofS s i + D x i t)
  | 0, k, lo, hi, _, _, hm, _, _, _ => by omega
  | m + 1, k, lo, hi, k0, k1, hm, hb, hlo, hhi => by
    obtain ⟨h1, h2, h3, _⟩ := csheet_ok h
    unfold law01_True_l2
    by_cases hlt : k < t
    · obtain ⟨r1, f1, _, f2⟩ := hM t (by omega) t1
      obtain ⟨r2, f3, _, f4⟩ := hM k (by omega) (by omega)
      rw [if_pos (by simpa using hlt), ix_of k0 (by omega) (by omega), f1, f3]
      simp only [Option.bind_eq_bind, Option.bind_some]
      rw [f2 k (by omega) (by omega), f4 t (by omega) t1]
      simp only [Option.bind_some]
      have bs := hp.bd h hP (by omega) (i := k) (by omega) (by omega)
      have b1 := D_bd h hP (a := t) (t := k) (by omega) t1 (by omega) (by omega)
      have b2 := D_bd h hP (a := k) (t := t) (by omega) (by omega) (by omega) t1
      rw [w64_in (n := ofS s k - D x t k) (by omega), w64_in (n := ofS s k + D x k t) (by omega), w64_in (n := k + 1) (by omega)]
      refine true_l2 h hP hM t0 t1 hs hp m (k + 1) _ _ (by omega) (by omega) (by omega) (fun i i0 i1 => ?_) ?_ ?_
      · by_cases e : i = k
        · subst e
          constructor <;> split <;> omega
        · have := hb i i0 (by omega)
          constructor <;> split <;> omega
      · split
        · exact ⟨k, by omega, hlt, rfl⟩
        · exact hlo
      · split
        · exact ⟨k, by omega, hlt, rfl⟩
        · exact hhi
    · have : k = t := by omega
      subst this
      rw [if_neg (by simp)]
      exact ⟨lo, hi, rfl, hb, hlo, hhi⟩
theorem true_l1 (h : csheet x = 0) (hP : Pot x) {M : List (List Int)} (hM : MD x M) {bys : List (KI .u16)} (hby : ∀ y ∈ bys, 0 ≤ y.v ∧ y.v ≤ 65535) (hbl : bys.length ≤ 1000000) (hF : 1000 ≤ F) : ∀ (m : Nat) (s : List Int), (s.length : Int) ≤ x.1 → x.1 - s.length < m → PairOK x s s.length →
    ∃ v, law01_True_l1 F x bys M m s ((s.length : Int) + 1) = some v ∧ (v.length : Int) = x.1 ∧ PairOK x v x.1
  | 0, s, _, hm, _ => by omega
  | m + 1, s, hs, hm, hp => by
    obtain ⟨h1, h2, h3, _⟩ := csheet_ok h
    unfold law01_True_l1
    by_cases hlt : (s.length : Int) + 1 ≤ x.1
    · obtain ⟨r1, f1, _, f2⟩ := hM ((s.length : Int) + 1) (by omega) hlt
      obtain ⟨r2, f3, _, f4⟩ := hM 0 (by omega) (by omega)
      rw [if_pos (by simpa using hlt), f1, f3]
      simp only [Option.bind_eq_bind, Option.bind_some]
      rw [f2 0 (by omega) (by omega)]
      simp only [Option.bind_some]
      rw [f4 ((s.length : Int) + 1) (by omega) hlt]
      simp only [Option.bind_some]
      have b1 := D_bd h hP (a := (s.length : Int) + 1) (t := 0) (by omega) hlt (by omega) (by omega)
      rw [w64_in (n := 0 - D x ((s.length : Int) + 1) 0) (by omega)]
      have z : ofS s 0 = 0 := rfl
      obtain ⟨lo, hi, e1, e2, ⟨i, i0, i1, ei⟩, ⟨j, j0, j1, ej⟩⟩ := true_l2 (F := F) h hP hM (s := s) (t := (s.length : Int) + 1) (by omega) hlt (by omega) (by rw [show (s.length : Int) + 1 - 1 = (s.length : Int) by omega]; exact hp) F 1 (0 - D x ((s.length : Int) + 1) 0) (D x 0 ((s.length : Int) + 1)) (by omega) (by omega) (by omega) (fun i i0 i1 => by
        have : i = 0 := by omega
        subst this
        rw [z]
        omega) ⟨0, by omega, by omega, by rw [z]⟩ ⟨0, by omega, by omega, by rw [z]; omega⟩
      rw [e1]
      simp only [Option.bind_some]
      have hlh : lo ≤ hi := by
        rw [ei, ej]
        exact hp.lohi h hP hs (by omega) hlt i0 (by omega) j0 (by omega)
      have q1 := hp.bd h hP hs (i := i) i0 (by omega)
      have q2 := hp.bd h hP hs (i := j) j0 (by omega)
      have q3 := D_bd h hP (a := (s.length : Int) + 1) (t := i) (by omega) hlt i0 (by omega)
      have q4 := D_bd h hP (a := j) (t := (s.length : Int) + 1) j0 (by omega) (by omega) hlt
      have key : ∀ v : Int, lo ≤ v → v ≤ hi → ∃ w, ((app 8 s [v] : Option (List Int)).bind fun x17 => law01_True_l1 F x bys M m x17 (w64 ((s.length : Int) + 1 + 1))) = some w ∧ (w.length : Int) = x.1 ∧ PairOK x w x.1 := by
        intro v v0 v1
        rw [app_some (by simp only [List.length_cons, List.length_nil]; omega), w64_in (by omega)]
        simp only [Option.bind_some]
        have el : ((s ++ [v]).length : Int) = (s.length : Int) + 1 := by simp
        rw [← el]
        obtain ⟨o1, o2⟩ := ofS_app (s := s) (v := v)
        refine true_l1 h hP hM hby hbl hF m (s ++ [v]) (by omega) (by omega) fun i j i0 i1 j0 j1 => ?_
        by_cases ei : i = (s.length : Int) + 1
        · by_cases ej : j = (s.length : Int) + 1
          · rw [ei, ej, D_self h hP (by omega) hlt]
            omega
          · have := (e2 j j0 (by omega)).1
            rw [ei, o2, o1 j j0 (by omega)]
            omega
        · by_cases ej : j = (s.length : Int) + 1
          · have := (e2 i i0 (by omega)).2
            rw [ej, o2, o1 i i0 (by omega)]
            omega
          · rw [o1 i i0 (by omega), o1 j j0 (by omega)]
            exact hp i j i0 (by omega) j0 (by omega)
      by_cases hb : 0 < bys.length
      · rw [if_pos (by simpa using hb)]
        unfold rem
        rw [if_neg (by omega)]
        simp only [Option.bind_some]
        have r0 : 0 ≤ ((s.length : Int) + 1).tmod (bys.length : Int) := Int.tmod_nonneg _ (by omega)
        have r1 : ((s.length : Int) + 1).tmod (bys.length : Int) < (bys.length : Int) := Int.tmod_lt_of_pos _ (by omega)
        have er : ((s.length : Int) + 1).tmod (bys.length : Int) = ((((s.length : Int) + 1).tmod (bys.length : Int)).toNat : Int) := by omega
        rw [er, ix_nat (by omega)]
        simp only [Option.bind_some]
        have hv := hby _ (List.getElem_mem (l := bys) (n := (((s.length : Int) + 1).tmod (bys.length : Int)).toNat) (by omega))
        rw [w64_in (n := hi - lo) (by omega), w64_in (n := hi - lo + 1) (by omega), if_neg (by omega)]
        simp only [Option.bind_some]
        generalize bys[(((s.length : Int) + 1).tmod (bys.length : Int)).toNat]'_ = bv at hv ⊢
        rw [w64_in (n := bv.v) (by omega)]
        have p0 : 0 ≤ bv.v.tmod (hi - lo + 1) := Int.tmod_nonneg _ (by omega)
        have p1 : bv.v.tmod (hi - lo + 1) < hi - lo + 1 := Int.tmod_lt_of_pos _ (by omega)
        rw [w64_in (n := lo + bv.v.tmod (hi - lo + 1)) (by omega)]
        exact key _ (by omega) (by omega)
      · rw [if_neg (by simpa using hb)]
        simp only [Option.bind_some]
        exact key lo (by omega) hlh
    · have : (s.length : Int) = x.1 := by omega
      rw [if_neg (by simpa using hlt)]
      exact ⟨s, rfl, this, by rw [← this]; exact hp⟩
/-- Speeds by numbers are true, and as far apart as the ways allow. -/
theorem true_eq (h : csheet x = 0) (hP : Pot x) {bys : List (KI .u16)} (hby : ∀ y ∈ bys, 0 ≤ y.v ∧ y.v ≤ 65535) (hbl : bys.length ≤ 1000000) (hF : 1000 ≤ F) : ∃ v, law01_True F x bys = some v ∧ (v.length : Int) = x.1 ∧ PairOK x v x.1 ∧ cspeeds x v = 0 := by
  obtain ⟨h1, h2, h3, _⟩ := csheet_ok h
  obtain ⟨M, e, _, hM⟩ := far_pot h hF hP
  obtain ⟨v, e1, e2, e3⟩ := true_l1 (F := F) h hP (M := M) hM hby hbl hF F [] (by simp; omega) (by simp; omega) (fun i j i0 i1 j0 j1 => by
    simp only [List.length_nil, Int.natCast_zero] at i1 j1
    have ei : i = 0 := by omega
    have ej : j = 0 := by omega
    subst ei
    subst ej
    rw [D_self h hP (by omega) (by omega)]
    omega)
  refine ⟨v, ?_, e2, e3, pot_pair h hP e2 e3⟩
  unfold law01_True
  have ex : (x.1, x.2) = x := rfl
  rw [ex, e]
  simp only [Option.bind_eq_bind, Option.bind_some]
  simp only [List.length_nil, Int.natCast_zero, Int.zero_add] at e1
  rw [e1]
  rfl
theorem fine_cases (hF : 1000 ≤ F) : (law01_fine F x = some true ∧ csheet x = 0 ∧ Pot x ∧ x.2.length ≤ 70) ∨ law01_fine F x = some false := by
  unfold law01_fine
  have ex : (x.1, x.2) = x := rfl
  simp only [ex, great_eq, refSheet_eq (show 100 < F by omega), Option.bind_eq_bind, Option.bind_some]
  by_cases hg : 70 < x.2.length
  · right
    have : decide (70 < (x.2.length : Int)) = true := by simp; omega
    rw [this]
    rfl
  · have : decide (70 < (x.2.length : Int)) = false := by simp; omega
    rw [this]
    simp only [Bool.not_false, gd, cond_true, Option.bind_some, Bool.true_and]
    by_cases h : csheet x = 0
    · obtain ⟨c1, c2⟩ := clashes_eq h (F := F) hF
      have e : decide (csheet x = 0) = true := by simp [h]
      rw [e]
      simp only [cond_true, Bool.true_and]
      by_cases hP : Pot x
      · left
        rw [c1 hP]
        exact ⟨rfl, h, hP, by omega⟩
      · right
        rw [c2 hP]
        rfl
    · right
      have e : decide (csheet x = 0) = false := by simp [h]
      rw [e]
      rfl
/-- True speeds differ by at most what a way costs. -/
theorem true_dist (h : csheet x = 0) (hP : Pot x) {s : List Int} (hs : cspeeds x s = 0) (a0 : 0 ≤ a) (a1 : a ≤ x.1) (b0 : 0 ≤ b) (b1 : b ≤ x.1) : ofS s b ≤ ofS s a + D x a b :=
  (D_dist h hP a0 a1 b0 b1).1.pot (true_pot hs).2.2.2
theorem hFF : 100000000000000000 ≤ FF := Nat.le_refl _
theorem hF1 : 1000 ≤ FF := by decide
theorem hF2 : 200 < FF := by decide

theorem tmod_in {u n : Int} (hu : 0 ≤ u) (hn : 0 < n) : 0 ≤ u.tmod n ∧ u.tmod n < n := ⟨Int.tmod_nonneg _ hu, Int.tmod_lt_of_pos _ hn⟩
theorem rem_in {u n : Int} (hn : 0 < n) : rem u n = some (u.tmod n) := by unfold rem; rw [if_neg (by omega)]
end
end Go.Proofs.Ythppacohnciinaa
