/-
  Spans, ends, costs and what was sung, as the definitions and the program say, in plain words. Condition: there are enough rounds.
-/
import Derived.Test.YthppacohnciinaaSpecK
namespace Go.Proofs.Ythppacohnciinaa
open Go Go.Md Go.RowKit
open BF (Rl St Back rel pass NEV)

section
variable {x : Int × List RR} {F : Nat} {a b t : Int}
theorem far_pot (hx : csheet x = 0) (hF : 1000 ≤ F) (hP : Pot x) : ∃ M, ref01_Far F x = some M ∧ M.length = nn x ∧ ∀ i, 0 ≤ i → i ≤ x.1 → ∃ row, ix M i = some row ∧ row.length = nn x ∧ ∀ k, 0 ≤ k → k ≤ x.1 → ix row k = some (D x i k) := by
  obtain ⟨M, g, e, hr, h | ⟨h, _⟩⟩ := far_eq hx hF
  · have hn : ((nn x : Nat) : Int) = x.1 + 1 := by have := (csheet_ok hx).2.1; unfold nn; omega
    refine ⟨M, e, hr.len, fun i i0 i1 => ?_⟩
    obtain ⟨row, h1, h2, h3⟩ := hr.at i0 (show i < (nn x : Int) by omega)
    exact ⟨row, h1, h2, fun k k0 k1 => by rw [h3 k k0 (by omega), h.2 i k i0 i1 k0 k1]⟩
  · exact (h hP).elim
theorem clash_l1 {n : Nat} {M : List (List Int)} {g : FW.Mx} (hr : RepM n M g) (hn : n ≤ 21) : ∀ (m k : Nat), k ≤ n → n - k < m →
    ((∀ i : Int, (k : Int) ≤ i → i < n → 0 ≤ g i i) → ref01_Clashes_l1 F M m (k : Int) = some (.inr ())) ∧ ((∃ i : Int, (k : Int) ≤ i ∧ i < n ∧ g i i < 0) → ref01_Clashes_l1 F M m (k : Int) = some (.inl true))
  | 0, k, _, h => by omega
  | m + 1, k, hk, hm => by
    unfold ref01_Clashes_l1
    rw [hr.len]
    by_cases hlt : k < n
    · obtain ⟨row, h1, h2, h3⟩ := hr.at (i := (k : Int)) (by omega) (by omega)
      have ih := clash_l1 hr hn m (k + 1) (by omega) (by omega)
      rw [if_pos (by simpa using hlt), h1]
      simp only [Option.bind_eq_bind, Option.bind_some]
      rw [h3 (k : Int) (by omega) (by omega)]
      simp only [Option.bind_some]
      by_cases hc : g (k : Int) (k : Int) < 0
      · rw [if_pos (by simpa using hc)]
        refine ⟨fun h => ?_, fun _ => rfl⟩
        have := h (k : Int) (by omega) (by omega)
        omega
      · rw [if_neg (by simpa using hc), w64_succ (by omega)]
        refine ⟨fun h => ih.1 fun i i0 i1 => h i (by omega) i1, fun ⟨i, i0, i1, hi⟩ => ih.2 ⟨i, ?_, i1, hi⟩⟩
        have : i ≠ k := fun e => hc (by rw [← e]; exact hi)
        omega
    · have : k = n := by omega
      subst this
      rw [if_neg (by simp)]
      exact ⟨fun _ => rfl, fun ⟨i, i0, i1, _⟩ => by omega⟩
theorem clashes_eq (hx : csheet x = 0) (hF : 1000 ≤ F) : (Pot x → ref01_Clashes F x = some false) ∧ (¬ Pot x → ref01_Clashes F x = some true) := by
  obtain ⟨M, g, e, hr, h⟩ := far_eq hx hF
  have hn : ((nn x : Nat) : Int) = x.1 + 1 := by have := (csheet_ok hx).2.1; unfold nn; omega
  have h3 := (csheet_ok hx).2.2.1
  have hc := clash_l1 (F := F) hr (by omega) F 0 (Nat.zero_le _) (by omega)
  simp only [Int.natCast_zero] at hc
  unfold ref01_Clashes
  have ex : (x.1, x.2) = x := rfl
  rw [ex, e]
  simp only [Option.bind_eq_bind, Option.bind_some]
  refine ⟨fun hP => ?_, fun hP => ?_⟩
  · rcases h with ⟨_, h⟩ | ⟨h, _⟩
    · rw [hc.1 fun i i0 i1 => by
        rw [h i i i0 (by omega) i0 (by omega), D_self hx hP i0 (by omega)]
        omega]
      rfl
    · exact (h hP).elim
  · rcases h with ⟨h, _⟩ | ⟨_, i, i0, i1, hi⟩
    · exact (hP h).elim
    · rw [hc.2 ⟨i, i0, by omega, hi⟩]
      rfl

/-! ### Spans -/
open Classical in
noncomputable def spanS (x : Int × List RR) (t : Int) : (Int × Int) × Int :=
  if csheet x ≠ 0 then ((0, 0), csheet x) else if inR 1 x.1 t = true then (if Pot x then ((-D x t 0, D x 0 t), 0) else ((0, 0), 21)) else ((0, 0), 3)
theorem sp1 (h : csheet x ≠ 0) : spanS x t = ((0, 0), csheet x) := by unfold spanS; rw [if_pos h]
theorem sp2 (h : csheet x = 0) (ht : inR 1 x.1 t = false) : spanS x t = ((0, 0), 3) := by unfold spanS; rw [if_neg (fun e => e h), if_neg (by rw [ht]; simp)]
theorem sp3 (h : csheet x = 0) (ht : inR 1 x.1 t = true) (hP : Pot x) : spanS x t = ((-D x t 0, D x 0 t), 0) := by unfold spanS; rw [if_neg (fun e => e h), if_pos ht, if_pos hP]
theorem sp4 (h : csheet x = 0) (ht : inR 1 x.1 t = true) (hP : ¬ Pot x) : spanS x t = ((0, 0), 21) := by unfold spanS; rw [if_neg (fun e => e h), if_pos ht, if_neg hP]
theorem span_eq (hF : 100000000000000000 ≤ F) : speed_Span F x t = some (spanS x t) := by
  unfold speed_Span
  have ex : (x.1, x.2) = x := rfl
  simp only [ex, checkSheet_eq (show 100 < F by omega), Option.bind_eq_bind, Option.bind_some]
  by_cases h : csheet x = 0
  · obtain ⟨h1, h2, h3, _⟩ := csheet_ok h
    rw [if_neg (by simp [h]), turns_eq (by simp; omega) (by simp)]
    simp only [Option.bind_some, List.all_cons, List.all_nil, Bool.and_true]
    cases ht : inR 1 x.1 t with
    | false => rw [sp2 h ht]; rfl
    | true =>
      have ht' := ht
      simp only [inR, Bool.and_eq_true, decide_eq_true_eq] at ht'
      rw [if_neg (by simp)]
      obtain ⟨o1, o2⟩ := open_eq h (F := F) (by omega)
      by_cases hP : Pot x
      · rw [o1 hP, sp3 h ht hP]
        simp only [Option.bind_some]
        obtain ⟨X, l, s, e, _, hD⟩ := find_D h hP (a := 0) (by omega) (by omega) hF
        obtain ⟨Y, l', s', e', _, hD'⟩ := find_D h hP (a := t) (by omega) (by omega) hF
        have hb := D_bd h hP (a := t) (t := 0) (by omega) (by omega) (by omega) (by omega)
        rw [if_neg (by simp)]
        have ex2 : ((x.1, x.2), whole x) = (x, whole x) := rfl
        rw [ex2] at e e'
        rw [e]
        simp only [Option.bind_some]
        rw [e']
        simp only [Option.bind_some]
        rw [(hD' 0 (by omega) (by omega)).2]
        simp only [Option.bind_some]
        rw [(hD t (by omega) (by omega)).2]
        simp only [Option.bind_some]
        rw [w64_in (by omega), Int.zero_sub]
      · rw [o2 hP, sp4 h ht hP]
        simp only [Option.bind_some]
        rw [if_pos (by simp)]
  · rw [if_pos (by simp [h]), sp1 h]
theorem not_inR {lo hi n : Int} : ((decide (n < lo)) || (decide (hi < n))) = !inR lo hi n := by
  unfold inR
  by_cases h1 : n < lo <;> by_cases h2 : hi < n <;> simp [h1, h2] <;> omega
theorem refSpan_eq (hF : 1000 ≤ F) : ref01_Span F x t = some (spanS x t) := by
  unfold ref01_Span
  have ex : (x.1, x.2) = x := rfl
  simp only [ex, refSheet_eq (show 100 < F by omega), Option.bind_eq_bind, Option.bind_some]
  by_cases h : csheet x = 0
  · obtain ⟨h1, h2, h3, _⟩ := csheet_ok h
    rw [if_neg (by simp [h]), not_inR]
    cases ht : inR 1 x.1 t with
    | false => rw [sp2 h ht]; rfl
    | true =>
      have ht' := ht
      simp only [inR, Bool.and_eq_true, decide_eq_true_eq] at ht'
      rw [if_neg (by simp)]
      obtain ⟨c1, c2⟩ := clashes_eq h (F := F) hF
      by_cases hP : Pot x
      · rw [c1 hP, sp3 h ht hP]
        obtain ⟨M, e, _, hM⟩ := far_pot h hF hP
        obtain ⟨r1, f1, _, f2⟩ := hM t (by omega) (by omega)
        obtain ⟨r2, f3, _, f4⟩ := hM 0 (by omega) (by omega)
        have hb := D_bd h hP (a := t) (t := 0) (by omega) (by omega) (by omega) (by omega)
        simp only [Option.bind_some]
        rw [if_neg (by simp), e]
        simp only [Option.bind_some]
        rw [f1]
        simp only [Option.bind_some]
        rw [f2 0 (by omega) (by omega)]
        simp only [Option.bind_some]
        rw [f3]
        simp only [Option.bind_some]
        rw [f4 t (by omega) (by omega)]
        simp only [Option.bind_some]
        rw [w64_in (by omega), Int.zero_sub]
      · rw [c2 hP, sp4 h ht hP]
        rfl
  · rw [if_pos (by simp [h]), sp1 h]

/-! ### Ends -/
open Classical in
noncomputable def endsS (x : Int × List RR) (high : Bool) : List Int × Int := if csheet x ≠ 0 then ([], csheet x) else if Pot x then (endsL x high, 0) else ([], 21)
theorem en1 {high : Bool} (h : csheet x ≠ 0) : endsS x high = ([], csheet x) := by unfold endsS; rw [if_pos h]
theorem en2 {high : Bool} (h : csheet x = 0) (hP : Pot x) : endsS x high = (endsL x high, 0) := by unfold endsS; rw [if_neg (fun e => e h), if_pos hP]
theorem en3 {high : Bool} (h : csheet x = 0) (hP : ¬ Pot x) : endsS x high = ([], 21) := by unfold endsS; rw [if_neg (fun e => e h), if_neg hP]
theorem Ends_eq (hF : 100000000000000000 ≤ F) {high : Bool} : speed_Ends F x high = some (endsS x high) := by
  by_cases h : csheet x = 0
  · obtain ⟨e1, e2⟩ := ends_eq h hF high
    by_cases hP : Pot x
    · rw [e1 hP, en2 h hP]
    · rw [e2 hP, en3 h hP]
  · rw [ends_no h (by omega), en1 h]
theorem refEnds_l1 {M : List (List Int)} {high : Bool} (hx : csheet x = 0) (hP : Pot x) (hM : ∀ i, 0 ≤ i → i ≤ x.1 → ∃ row, ix M i = some row ∧ row.length = nn x ∧ ∀ k, 0 ≤ k → k ≤ x.1 → ix row k = some (D x i k)) : ∀ (m k : Nat), k ≤ x.1.toNat → x.1.toNat - k < m →
    ref01_Ends_l1 F x high M m ((List.range k).map (endS x high)) ((k : Int) + 1) = some (endsL x high)
  | 0, k, _, h => by omega
  | m + 1, k, hk, h => by
    obtain ⟨h1, h2, h3, _⟩ := csheet_ok hx
    unfold ref01_Ends_l1
    by_cases hlt : k < x.1.toNat
    · rw [if_pos (by simp; omega)]
      have happ : ∀ v, app 8 ((List.range k).map (endS x high)) [v] = some ((List.range k).map (endS x high) ++ [v]) := fun v => app_some (by simp only [List.length_map, List.length_range, List.length_cons, List.length_nil]; omega)
      have e : (List.range k).map (endS x high) ++ [endS x high k] = (List.range (k + 1)).map (endS x high) := by simp [List.range_succ]
      have ih := refEnds_l1 (high := high) hx hP hM m (k + 1) (by omega) (by omega)
      have ew : w64 ((k : Int) + 1 + 1) = ((k + 1 : Nat) : Int) + 1 := by rw [w64_in (by omega)]; rfl
      rw [ew]
      obtain ⟨r1, f1, _, f2⟩ := hM 0 (by omega) (by omega)
      obtain ⟨r2, f3, _, f4⟩ := hM ((k : Int) + 1) (by omega) (by omega)
      cases hh : high with
      | true =>
        rw [if_pos rfl, f1]
        simp only [Option.bind_eq_bind, Option.bind_some]
        rw [f2 ((k : Int) + 1) (by omega) (by omega)]
        simp only [Option.bind_some]
        rw [← hh, happ]
        simp only [Option.bind_some]
        have : D x 0 ((k : Int) + 1) = endS x high k := by unfold endS; rw [if_pos hh]
        rw [this, e]
        exact ih
      | false =>
        have hb := D_bd hx hP (a := (k : Int) + 1) (t := 0) (by omega) (by omega) (by omega) (by omega)
        rw [if_neg (by simp), f3]
        simp only [Option.bind_eq_bind, Option.bind_some]
        rw [f4 0 (by omega) (by omega)]
        simp only [Option.bind_some]
        rw [w64_in (by omega), Int.zero_sub, ← hh, happ]
        simp only [Option.bind_some]
        have : -D x ((k : Int) + 1) 0 = endS x high k := by unfold endS; rw [if_neg (by simp [hh])]
        rw [this, e]
        exact ih
    · have : k = x.1.toNat := by omega
      subst this
      rw [if_neg (by simp; omega)]
      rfl
theorem refEnds_eq (hF : 1000 ≤ F) {high : Bool} : ref01_Ends F x high = some (endsS x high) := by
  unfold ref01_Ends
  have ex : (x.1, x.2) = x := rfl
  simp only [ex, refSheet_eq (show 100 < F by omega), Option.bind_eq_bind, Option.bind_some]
  by_cases h : csheet x = 0
  · obtain ⟨h1, h2, h3, _⟩ := csheet_ok h
    rw [if_neg (by simp [h])]
    obtain ⟨c1, c2⟩ := clashes_eq h (F := F) hF
    by_cases hP : Pot x
    · rw [c1 hP, en2 h hP]
      obtain ⟨M, e, _, hM⟩ := far_pot h hF hP
      simp only [Option.bind_some]
      rw [if_neg (by simp), e]
      simp only [Option.bind_some]
      have := refEnds_l1 (F := F) (high := high) h hP hM F 0 (Nat.zero_le _) (by omega)
      simp only [List.range_zero, List.map_nil, Int.natCast_zero, Int.zero_add] at this
      rw [this]
      rfl
    · rw [c2 hP, en3 h hP]
      rfl
  · rw [if_pos (by simp [h]), en1 h]

/-! ### What was sung -/
noncomputable def sungS (x : Int × List RR) (t v : Int) : (Int × Int) × Int :=
  if csheet x ≠ 0 then ((0, 0), csheet x) else if (inR 1 x.1 t && inR 1 1000000 v) = true then
    (if (spanS x t).2 ≠ 0 then ((0, 0), (spanS x t).2) else ((w64 (Int.tdiv (w64 (v * (spanS x t).1.1)) 16000), w64 (Int.tdiv (w64 (v * (spanS x t).1.2)) 16000)), 0))
  else ((0, 0), 3)
theorem sung_eq (hF : 100000000000000000 ≤ F) {v : Int} : speed_Sung F x t v = some (sungS x t v) := by
  unfold speed_Sung sungS
  have ex : (x.1, x.2) = x := rfl
  simp only [ex, checkSheet_eq (show 100 < F by omega), Option.bind_eq_bind, Option.bind_some]
  by_cases h : csheet x = 0
  · have e0 : ¬ (csheet x ≠ 0) := fun e => e h
    rw [if_neg (by simp [h]), if_neg e0, turns_eq (by simp; omega) (by simp)]
    simp only [Option.bind_some, List.all_cons, List.all_nil, Bool.and_true, Bool.not_not]
    cases ht : inR 1 x.1 t with
    | false => simp [gd]
    | true =>
      simp only [gd, cond_true, Bool.true_and, Bool.not_true, Bool.false_or]
      rw [tone_eq (by simp; omega) (by simp)]
      simp only [Option.bind_some, List.all_cons, List.all_nil, Bool.and_true]
      cases hv : inR 1 1000000 v with
      | false => rfl
      | true =>
        rw [if_neg (by simp), if_pos rfl, span_eq hF]
        simp only [Option.bind_some]
        by_cases h2 : (spanS x t).2 = 0
        · rw [if_neg (by simp [h2]), if_neg (fun e => e h2)]
        · rw [if_pos (by simp [h2]), if_pos h2]
  · rw [if_pos (by simp [h]), if_pos h]
theorem refSung_eq (hF : 1000 ≤ F) {v : Int} : ref01_Sung F x t v = some (sungS x t v) := by
  unfold ref01_Sung sungS ref01_tone
  have ex : (x.1, x.2) = x := rfl
  simp only [ex, refSheet_eq (show 100 < F by omega), Option.bind_eq_bind, Option.bind_some]
  by_cases h : csheet x = 0
  · have e0 : ¬ (csheet x ≠ 0) := fun e => e h
    rw [if_neg (by simp [h]), if_neg e0, not_inR]
    have ev : (decide (1 ≤ v) && decide (v ≤ 1000000)) = inR 1 1000000 v := rfl
    cases ht : inR 1 x.1 t with
    | false => simp [gd]
    | true =>
      simp only [gd, Bool.not_true, Bool.not_false, cond_true, Bool.true_and, Bool.false_or, Option.bind_some, ev]
      cases hv : inR 1 1000000 v with
      | false => rfl
      | true =>
        rw [if_neg (by simp), if_pos rfl, refSpan_eq hF]
        simp only [Option.bind_some]
        by_cases h2 : (spanS x t).2 = 0
        · rw [if_neg (by simp [h2]), if_neg (fun e => e h2)]
        · rw [if_pos (by simp [h2]), if_pos h2]
  · rw [if_pos (by simp [h]), if_pos h]

/-! ### Costs -/
open Classical in
noncomputable def costS (x : Int × List RR) (a b : Int) : Int × Int :=
  if csheet x ≠ 0 then (0, csheet x) else if (inR 0 x.1 a && inR 0 x.1 b) = true then (if Pot x then (D x a b, 0) else (0, 21)) else (0, 2)
theorem refCost_eq (hF : 1000 ≤ F) : ref01_Cost F x a b = some (costS x a b) := by
  unfold ref01_Cost costS
  have ex : (x.1, x.2) = x := rfl
  simp only [ex, refSheet_eq (show 100 < F by omega), Option.bind_eq_bind, Option.bind_some]
  by_cases h : csheet x = 0
  · have e0 : ¬ (csheet x ≠ 0) := fun e => e h
    have e1 : ((((decide (a < 0)) || (decide (x.1 < a))) || (decide (b < 0))) || (decide (x.1 < b))) = !(inR 0 x.1 a && inR 0 x.1 b) := by
      rw [Bool.not_and, ← not_inR, ← not_inR, Bool.or_assoc]
    rw [if_neg (by simp [h]), if_neg e0, e1]
    cases hab : (inR 0 x.1 a && inR 0 x.1 b) with
    | false => rfl
    | true =>
      have hab' := hab
      simp only [inR, Bool.and_eq_true, decide_eq_true_eq] at hab'
      obtain ⟨⟨a0, a1⟩, b0, b1⟩ := hab'
      rw [if_neg (by simp), if_pos rfl]
      obtain ⟨c1, c2⟩ := clashes_eq h (F := F) hF
      by_cases hP : Pot x
      · rw [c1 hP, if_pos hP]
        obtain ⟨M, e, _, hM⟩ := far_pot h hF hP
        obtain ⟨r1, f1, _, f2⟩ := hM a a0 a1
        simp only [Option.bind_some]
        rw [if_neg (by simp), e]
        simp only [Option.bind_some]
        rw [f1]
        simp only [Option.bind_some]
        rw [f2 b b0 b1]
        rfl
      · rw [c2 hP, if_neg hP]
        rfl
  · rw [if_pos (by simp [h]), if_pos h]

/-! ### Ways that are given -/
def cway (x : Int × List RR) (a b : Int) (way : List Int) : Int × Int :=
  if csheet x ≠ 0 then (0, csheet x) else if (inR 0 x.1 a && inR 0 x.1 b) = true then
    (if 60 < way.length then (0, 6) else if (chainS (whole x) way).2 ≠ 0 then (0, (chainS (whole x) way).2) else
      if way.length = 0 then (if a ≠ b then (0, 16) else (0, 0)) else if firstF (rsOf (whole x) way) ≠ a ∨ lastT (rsOf (whole x) way) ≠ b then (0, 16) else ((chainS (whole x) way).1, 0))
  else (0, 2)
end
end Go.Proofs.Ythppacohnciinaa
