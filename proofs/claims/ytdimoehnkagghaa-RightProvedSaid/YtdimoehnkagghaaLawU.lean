/-
  Laws in plain Lean, with no program in sight. Condition: each section says its own.
-/
import Derived.Test.YtdimoehnkagghaaSpecQ
set_option linter.unusedVariables false
set_option linter.unusedSimpArgs false
/-! Conflicts checked: the fewest refusals that meet all of them. Condition: the book is sound; there are enough rounds. -/
namespace Go.Proofs.Ytdimoehnkagghaa
open Go Go.Md Go.RowKit

def hit (R c : List Int) : Bool := R.any fun x => decide (x ∈ c)
def hits (R : List Int) (C : List (List Int)) : Bool := C.all (hit R)
theorem hit_iff {R c : List Int} : hit R c = true ↔ ∃ x, x ∈ R ∧ x ∈ c := by simp [hit]
/-- The fewest numbers that meet all. -/
structure Mh (n : Nat) (C : List (List Int)) (v : Nat) : Prop where
  le : ∀ R, rise R n = true → hits R C = true → v ≤ R.length
  ex : ∃ R, rise R n = true ∧ hits R C = true ∧ R.length = v
theorem Mh.uniq {n : Nat} {C : List (List Int)} {v w : Nat} (h : Mh n C v) (k : Mh n C w) : v = w := by
  obtain ⟨R, h1, h2, h3⟩ := h.ex
  obtain ⟨S, k1, k2, k3⟩ := k.ex
  have := h.le S k1 k2
  have := k.le R h1 h2
  omega
/-- All numbers below n. -/
def full (n : Nat) : List Int := lst (2 ^ n - 1) n
theorem full_mem {n : Nat} {x : Int} : x ∈ full n ↔ 0 ≤ x ∧ x < n := by
  unfold full
  rw [lst_mem]
  constructor
  · rintro ⟨i, rfl, h, _⟩; omega
  · intro h
    exact ⟨x.toNat, by omega, by omega, by rw [Nat.testBit_two_pow_sub_one]; simp; omega⟩
theorem full_len (n : Nat) : (full n).length = n := by
  have : ∀ K, K ≤ n → (lst (2 ^ n - 1) K).length = K := fun K => by
    induction K with
    | zero => intro _; rfl
    | succ K ih =>
      intro h
      rw [lst_succ, Nat.testBit_two_pow_sub_one, if_pos (by simp; omega), List.length_append, ih (by omega)]
      rfl
  exact this n (Nat.le_refl _)
theorem full_hits {n : Nat} {C : List (List Int)} (h : ∀ c ∈ C, rise c n = true ∧ c ≠ []) : hits (full n) C = true := by
  unfold hits
  rw [List.all_eq_true]
  intro c hc
  obtain ⟨h1, h2⟩ := h c hc
  obtain ⟨x, hx⟩ := List.exists_mem_of_ne_nil _ h2
  exact hit_iff.2 ⟨x, full_mem.2 (rise_mem h1 x hx), hx⟩
section
variable {F : Nat} {s : TBook} {f : List Int}
theorem need3 (hF : 2000000000 < F) {C : List (List Int)} {R : List Int} {j : Nat} (hj : j < C.length) (hc : Sm C[j]) (hR : R.length ≤ 1000) : ∀ m (k : Nat) (b : Bool), k ≤ R.length → R.length - k < m →
    ref10_Need_l3 F C R (j : Int) m b (k : Int) = some (b || (R.drop k).any fun x => decide (x ∈ C[j]))
  | 0, k, _, _, h => by omega
  | m + 1, k, b, hk, h => by
    simp only [ref10_Need_l3]
    by_cases hlt : k < R.length
    · rw [if_pos (ltd hlt), ix_nat hj, ix_nat hlt, w64_succ (by omega), List.drop_eq_getElem_cons hlt, List.any_cons]
      simp only [Option.bind_eq_bind, Option.bind_some]
      rw [in_eq (by omega) hc]
      cases b with
      | true =>
        rw [if_pos rfl]
        simp only [Option.bind_some]
        rw [need3 hF hj hc hR m (k + 1) true (by omega) (by omega)]
        rfl
      | false =>
        rw [if_neg (by simp)]
        simp only [Option.bind_some]
        rw [need3 hF hj hc hR m (k + 1) _ (by omega) (by omega), Bool.false_or]
    · have : k = R.length := by omega
      subst this
      rw [if_neg nltd, List.drop_length]
      simp
theorem need2 (hF : 2000000000 < F) {C : List (List Int)} {R : List Int} (hC : ∀ c ∈ C, Sm c) (hl : C.length ≤ 4096) (hR : R.length ≤ 1000) : ∀ m (k : Nat) (b : Bool), k ≤ C.length → C.length - k < m →
    ref10_Need_l2 F C R m b (k : Int) = some (b && (C.drop k).all (hit R))
  | 0, k, _, _, h => by omega
  | m + 1, k, b, hk, h => by
    simp only [ref10_Need_l2]
    by_cases hlt : k < C.length
    · rw [List.drop_eq_getElem_cons hlt, List.all_cons]
      cases b with
      | false =>
        rw [if_neg (by simp)]
        rfl
      | true =>
        rw [if_pos (by simp only [Bool.and_true, decide_eq_true_eq]; omega), w64_succ (by omega)]
        have e := need3 (F := F) hF (C := C) (R := R) hlt (hC _ (List.getElem_mem hlt)) hR F 0 false (by omega) (by omega)
        simp only [Int.natCast_zero, List.drop_zero, Bool.false_or] at e
        rw [e]
        simp only [Option.bind_eq_bind, Option.bind_some, Bool.true_and]
        exact need2 hF hC hl hR m (k + 1) _ (by omega) (by omega)
    · have : k = C.length := by omega
      subst this
      rw [if_neg (by simp), List.drop_length]
      simp
theorem need1 (hF : 2000000000 < F) {n : Nat} (hn : n ≤ 12) {C : List (List Int)} (hC : ∀ c ∈ C, Sm c) (hl : C.length ≤ 4096) : ∀ m (N y : Nat), N ≤ 2 ^ n → 2 ^ n - N < m → (∃ R, rise R n = true ∧ hits R C = true ∧ R.length = y) →
    (∀ M, M < N → hits (lst M n) C = true → y ≤ (lst M n).length) → ∃ v : Nat, ref10_Need_l1 F C (n : Int) m (y : Int) (N : Int) = some (v : Int) ∧ Mh n C v
  | 0, N, _, _, h, _, _ => by omega
  | m + 1, N, y, hN, h, h1, h2 => by
    have hp : 2 ^ n ≤ 2 ^ 12 := Nat.pow_le_pow_right (by decide) hn
    have hp2 : (2 : Nat) ^ 12 = 4096 := by decide
    simp only [ref10_Need_l1]
    rw [shl1 (by omega)]
    simp only [Option.bind_eq_bind, Option.bind_some]
    by_cases hlt : N < 2 ^ n
    · have hN62 : B62 N := by show N < 4611686018427387904; omega
      rw [if_pos (ltd hlt), list_eq (by omega) hN62, w64_succ (by omega)]
      simp only [Option.bind_some]
      rw [lst_n hlt (by omega)]
      have hxl := lst_len N n
      have e := need2 (F := F) hF (R := lst N n) hC hl (by omega) F 0 (decide (((lst N n).length : Int) ≤ (y : Int))) (by omega) (by omega)
      simp only [Int.natCast_zero, List.drop_zero] at e
      rw [e]
      simp only [Option.bind_some]
      by_cases hc : (decide (((lst N n).length : Int) ≤ (y : Int)) && C.all (hit (lst N n))) = true
      · rw [if_pos hc]
        simp only [Option.bind_some]
        rw [Bool.and_eq_true, decide_eq_true_eq] at hc
        refine need1 hF hn hC hl m (N + 1) _ (by omega) (by omega) ⟨lst N n, rise_lst _ _ (by omega), hc.2, rfl⟩ fun M hM hh => ?_
        by_cases hMN : M = N
        · subst hMN; exact Nat.le_refl _
        · have := h2 M (by omega) hh
          omega
      · rw [if_neg hc]
        simp only [Option.bind_some]
        refine need1 hF hn hC hl m (N + 1) _ (by omega) (by omega) h1 fun M hM hh => ?_
        by_cases hMN : M = N
        · subst hMN
          rw [Bool.and_eq_true, decide_eq_true_eq, not_and] at hc
          by_cases hle : y ≤ (lst M n).length
          · exact hle
          · exact absurd hh (hc (by omega))
        · exact h2 M (by omega) hh
    · have : N = 2 ^ n := by omega
      subst this
      rw [if_neg nltd]
      refine ⟨y, rfl, fun R hR hh => ?_, h1⟩
      have e : lst (bitsI R) n = R := by rw [← lst_n (bits_lt hR (by omega)) (by omega), lst_bits hR (by omega)]
      have := h2 (bitsI R) (bits_lt hR (by omega)) (by rw [e]; exact hh)
      rwa [e] at this
theorem Need_eq (hF : 2000000000 < F) {n : Nat} (hn : n ≤ 12) {C : List (List Int)} (hC : ∀ c ∈ C, rise c n = true ∧ c ≠ []) (hl : C.length ≤ 4096) : ∃ v : Nat, ref10_Need F C (n : Int) = some (v : Int) ∧ Mh n C v := by
  have hp : 2 ^ n ≤ 2 ^ 12 := Nat.pow_le_pow_right (by decide) hn
  have hp2 : (2 : Nat) ^ 12 = 4096 := by decide
  obtain ⟨v, h1, h2⟩ := need1 (F := F) hF hn (C := C) (fun c hc => by have := rise_len (hC c hc).1; show _ ≤ _; omega) hl F 0 n (Nat.zero_le _) (by omega) ⟨full n, rise_lst _ _ (by omega), full_hits hC, full_len n⟩ (fun M hM => by omega)
  simp only [Int.natCast_zero] at h1
  refine ⟨v, ?_, h2⟩
  unfold ref10_Need
  rw [h1]
  rfl

/-! ### The same, size by size -/
theorem hit_band {c R : List Int} (hc : Small c) (hR : Small R) : decide (band .i64 ((bitsI c : Nat) : Int) ((bitsI R : Nat) : Int) = 0) = !hit R c := by
  rw [band_nat (bitsI62 hc) (bitsI62 hR), Bool.eq_iff_iff, decide_eq_true_eq, show (((bitsI c &&& bitsI R : Nat) : Int) = 0) = (bitsI c &&& bitsI R = 0) by apply propext; omega, and_zero, Bool.not_eq_true', ← Bool.not_eq_true, hit_iff]
  constructor
  · rintro h ⟨x, h1, h2⟩
    have h0 := hc x h2
    exact h x.toNat ⟨by rw [bitsI_bit hc h0.1]; simpa using h2, by rw [bitsI_bit hR h0.1]; simpa using h1⟩
  · rintro h j ⟨h1, h2⟩
    rw [bitsI_bit' hc, decide_eq_true_eq] at h1
    rw [bitsI_bit' hR, decide_eq_true_eq] at h2
    exact h ⟨_, h2, h1⟩
theorem ref2 (hF : 2000000000 < F) {n : Nat} (hn : n ≤ 12) {C : List (List Int)} (hC : ∀ c ∈ C, rise c n = true) (hl : C.length ≤ 4096) : ∀ {L : List (List Int)}, (∀ l ∈ L, rise l n = true) →
    right_refused_l2 F (C.map fun c => ((bitsI c : Nat) : Int)) (L.map fun l => ((bitsI l : Nat) : Int)) = some (match L.find? (fun R => hits R C) with | some l => .inl ((bitsI l : Nat) : Int) | none => .inr ())
  | [], _ => rfl
  | l :: L, hL => by
    have hr := hL l List.mem_cons_self
    rw [List.map_cons]
    unfold right_refused_l2
    simp only [right_refused_1]
    rw [contI (p := fun y => decide (band .i64 y ((bitsI l : Nat) : Int) = 0)) (by omega) (by show _ ≤ _; rw [List.length_map]; omega) (fun _ _ => rfl)]
    have e : ((C.map fun c => ((bitsI c : Nat) : Int)).any fun y => decide (band .i64 y ((bitsI l : Nat) : Int) = 0)) = !hits l C := by
      rw [List.any_map]
      unfold hits
      rw [all_any, Bool.not_not]
      have : ∀ D : List (List Int), (∀ c ∈ D, rise c n = true) → D.any ((fun y => decide (band .i64 y ((bitsI l : Nat) : Int) = 0)) ∘ fun c => ((bitsI c : Nat) : Int)) = D.any fun y => !hit l y := fun D => by
        induction D with
        | nil => intro _; rfl
        | cons d D ih =>
          intro h
          rw [List.any_cons, List.any_cons, ih fun c hc => h c (List.mem_cons_of_mem _ hc)]
          simp only [Function.comp_apply]
          rw [hit_band (rise_small (h d List.mem_cons_self) (by omega)) (rise_small hr (by omega))]
      exact this C hC
    simp only [Option.bind_eq_bind, Option.bind_some]
    rw [e, List.find?_cons, Bool.not_not]
    cases hits l C with
    | true => rw [if_pos rfl]
    | false =>
      rw [if_neg (by simp)]
      exact ref2 hF hn hC hl fun q hq => hL q (List.mem_cons_of_mem _ hq)
theorem ref1 (hF : 2000000000 < F) {n : Nat} (hn : n ≤ 12) {C : List (List Int)} (hC : ∀ c ∈ C, rise c n = true) (hl : C.length ≤ 4096) : ∀ m (k : Nat), k ≤ n → n - k < m → (∀ R, rise R n = true → hits R C = true → k ≤ R.length) →
    ∃ o : Sum Int Unit, right_refused_l1 F (C.map fun c => ((bitsI c : Nat) : Int)) (n : Int) m (k : Int) = some o ∧ match o with
      | .inl x => ∃ R, x = ((bitsI R : Nat) : Int) ∧ rise R n = true ∧ hits R C = true ∧ ∀ S, rise S n = true → hits S C = true → R.length ≤ S.length
      | .inr () => ∀ R, rise R n = true → hits R C = true → n ≤ R.length
  | 0, k, _, h, _ => by omega
  | m + 1, k, hk, h, h1 => by
    simp only [right_refused_l1]
    by_cases hlt : k < n
    · rw [if_pos (ltd hlt), lists_eq (by omega) (by omega), w64_succ (by omega)]
      simp only [Option.bind_eq_bind, Option.bind_some]
      rw [ref2 hF hn hC hl fun l hl => (comb_rise.1 hl).2]
      simp only [Option.bind_some]
      cases hf : (comb n k 0).find? (fun R => hits R C) with
      | some R =>
        have hm := comb_rise.1 (List.mem_of_find?_eq_some hf)
        have hh := List.find?_some hf
        exact ⟨_, rfl, R, rfl, hm.2, hh, fun S hS hSh => by have := h1 S hS hSh; omega⟩
      | none =>
        simp only
        refine ref1 hF hn hC hl m (k + 1) (by omega) (by omega) fun R hR hh => ?_
        have := h1 R hR hh
        by_cases e : R.length = k
        · have := List.find?_eq_none.1 hf R (comb_rise.2 ⟨e, hR⟩)
          exact absurd hh this
        · omega
    · have : k = n := by omega
      subst this
      rw [if_neg nltd]
      exact ⟨_, rfl, h1⟩
theorem bits_full {n : Nat} (hn : n ≤ 61) : bitsI (full n) = 2 ^ n - 1 := by
  unfold full
  have hlt : 2 ^ n - 1 < 2 ^ n := by have : 0 < 2 ^ n := Nat.pow_pos (by decide); omega
  rw [← lst_n hlt (by omega)]
  exact bits_lst (Nat.lt_of_lt_of_le hlt (by have := Nat.pow_le_pow_right (n := 2) (by decide) hn; have h2 : (2 : Nat) ^ 61 = 2305843009213693952 := (by decide); omega))
theorem refused_eq (hF : 2000000000 < F) {n : Nat} (hn : n ≤ 12) {C : List (List Int)} (hC : ∀ c ∈ C, rise c n = true ∧ c ≠ []) (hl : C.length ≤ 4096) : ∃ R, right_refused F (C.map fun c => ((bitsI c : Nat) : Int)) (n : Int) = some ((bitsI R : Nat) : Int) ∧ rise R n = true ∧ hits R C = true ∧ Mh n C R.length := by
  obtain ⟨o, h1, h2⟩ := ref1 (F := F) hF hn (fun c hc => (hC c hc).1) hl F 0 (by omega) (by omega) (fun _ _ _ => Nat.zero_le _)
  simp only [Int.natCast_zero] at h1
  unfold right_refused
  rw [h1]
  cases o with
  | inl x =>
    obtain ⟨R, rfl, h3, h4, h5⟩ := h2
    exact ⟨R, rfl, h3, h4, h5, R, h3, h4, rfl⟩
  | inr u =>
    have h3 : ∀ R, rise R n = true → hits R C = true → n ≤ R.length := h2
    have hp : 2 ^ n ≤ 2 ^ 12 := Nat.pow_le_pow_right (by decide) hn
    have hp2 : (2 : Nat) ^ 12 = 4096 := by decide
    have hpos : 0 < 2 ^ n := Nat.pow_pos (by decide)
    refine ⟨full n, ?_, rise_lst _ _ (by omega), full_hits hC, fun R hR hh => by rw [full_len]; exact h3 R hR hh, full n, rise_lst _ _ (by omega), full_hits hC, rfl⟩
    simp only [Option.bind_eq_bind, Option.bind_some]
    rw [shl1 (by omega), bits_full (by omega)]
    simp only [Option.bind_some]
    generalize 2 ^ n = q at hp hpos
    rw [w64_in (by omega), show ((q - 1 : Nat) : Int) = (q : Int) - 1 by omega]
end
end Go.Proofs.Ytdimoehnkagghaa

/-! RightConflicts. Condition: there are enough rounds, and the layer works on its own book. -/
namespace Go.Proofs.Ytdimoehnkagghaa
open Go Go.Md Go.RowKit
section
variable {F : Nat} {s : TBook} {f : List Int}
theorem cc1 (hF : 2000000000 < F) {C : List (List Int)} (hl : C.length ≤ 4096) (hC : ∀ c ∈ C, Sm c) : ref10_CheckConflicts_l1 F s C F 0 = some (if C.any (fun c => !rise c s.2.2.2.1.length) = true then .inl (0, 3) else .inr ()) := by
  have := any_loop0 (l := C) (L := fun m k => ref10_CheckConflicts_l1 F s C m (k : Int)) (p := fun c => !rise c s.2.2.2.1.length) (c := ((0 : Int), (3 : Int))) (fun m => by
    simp only [ref10_CheckConflicts_l1]; rw [if_neg nltd]) (fun m k h => by
    simp only [ref10_CheckConflicts_l1]
    rw [if_pos (ltd h), ix_nat h, w64_succ (by omega)]
    simp only [Option.bind_eq_bind, Option.bind_some, Rising_eq (F := F) (by omega) (hC _ (List.getElem_mem h))]) (m := F) (by omega)
  simpa only [Int.natCast_zero] using this
theorem cc2 (hF : 2000000000 < F) (hs : Sound s) {C : List (List Int)} (hl : C.length ≤ 4096) (hC : ∀ c ∈ C, rise c s.2.2.2.1.length = true) : ref10_CheckConflicts_l2 F s C F 0 = some (if C.any (safe s) = true then .inl (0, 14) else .inr ()) := by
  have hgl := hs.given
  have := any_loop0 (l := C) (L := fun m k => ref10_CheckConflicts_l2 F s C m (k : Int)) (p := safe s) (c := ((0 : Int), (14 : Int))) (fun m => by
    simp only [ref10_CheckConflicts_l2]; rw [if_neg nltd]) (fun m k h => by
    simp only [ref10_CheckConflicts_l2]
    have hr := hC _ (List.getElem_mem h)
    rw [if_pos (ltd h), ix_nat h, w64_succ (by omega)]
    simp only [Option.bind_eq_bind, Option.bind_some]
    rw [show ref10_Taboo F (s.1, s.2.1, s.2.2.1, s.2.2.2.1, s.2.2.2.2) C[k] = some (tb s C[k]) from Taboo_eq (by omega) hs (rise_in hr) (by have := rise_len hr; show _ ≤ _; omega)]
    rfl) (m := F) (by omega)
  simpa only [Int.natCast_zero] using this
theorem ccmasks (hF : 2000000000 < F) (hs : Sound s) {C : List (List Int)} (hl : C.length ≤ 4096) (hC : ∀ c ∈ C, rise c s.2.2.2.1.length = true) : right_CheckConflicts_l1 F C F [] 0 = some (C.map fun c => ((bitsI c : Nat) : Int)) := by
  have hgl := hs.given
  have := fold_loop0 (l := C) (L := fun m k y => right_CheckConflicts_l1 F C m y (k : Int)) (f := fun y c => y ++ [((bitsI c : Nat) : Int)]) (fin := id) (inv := fun k y => y.length ≤ k) (fun m y _ => by
    simp only [right_CheckConflicts_l1]; rw [if_neg nltd]; rfl) (fun m k y h hy => by
    have hr := hC _ (List.getElem_mem h)
    simp only [right_CheckConflicts_l1]
    rw [if_pos (ltd h), ix_nat h, w64_succ (by omega)]
    simp only [Option.bind_eq_bind, Option.bind_some]
    rw [together_eq (by omega) (by have := rise_len hr; show _ ≤ _; omega) (rise_small hr (by omega))]
    simp only [Option.bind_some]
    rw [app_some (by simp; omega)]
    exact ⟨rfl, by simp; omega⟩) (m := F) (y := []) (by omega) (by simp)
  simp only [Int.natCast_zero, id] at this
  rw [this.1]
  have e : ∀ (l : List (List Int)) (y : List Int), l.foldl (fun y c => y ++ [((bitsI c : Nat) : Int)]) y = y ++ l.map fun c => ((bitsI c : Nat) : Int) := fun l => by
    induction l with
    | nil => intro y; simp
    | cons a l ih => intro y; rw [List.foldl_cons, ih]; simp
  rw [e, List.nil_append]
/-- Both checks of conflicts. -/
theorem conf_both (hF : 2000000000 < F) (h : Fit s) {C : List (List Int)} (hC : ∀ c ∈ C, Sm c) : ∃ r : Int × Int, right_CheckConflicts F s C = some r ∧ ref10_CheckConflicts F s C = some r ∧
    (r.2 = 0 → cb s = 0 ∧ C.length ≤ 4096 ∧ (∀ c ∈ C, rise c s.2.2.2.1.length = true ∧ ¬ tb s c < 0) ∧ ∃ v : Nat, r.1 = (v : Int) ∧ Mh s.2.2.2.1.length C v) ∧
    (cb s = 0 → C.length ≤ 4096 → (∀ c ∈ C, rise c s.2.2.2.1.length = true ∧ ¬ tb s c < 0) → r.2 = 0) := by
  unfold right_CheckConflicts ref10_CheckConflicts
  rw [show (s.1, s.2.1, s.2.2.1, s.2.2.2.1, s.2.2.2.2) = s from rfl, newTreaty_eq hF h, Book_cb (by omega) h]
  simp only [Option.bind_eq_bind, Option.bind_some]
  by_cases h0 : cb s = 0
  · obtain ⟨hs, _, ht0⟩ := cb_zero h0
    have hgl := hs.given
    simp only [h0, decide_true, Bool.not_true, Bool.false_eq_true, if_false, if_true]
    by_cases hl : C.length ≤ 4096
    · rw [if_neg (by simp only [decide_eq_true_eq]; omega), if_neg (by simp only [decide_eq_true_eq]; omega)]
      rw [cc1 hF hl hC, contL (p := fun c => !rise c s.2.2.2.1.length) (by omega) (by show _ ≤ _; omega) (fun c hc => by unfold right_CheckConflicts_1; rw [rising_eq (by omega) (hC c hc)]; rfl)]
      simp only [Option.bind_some]
      cases ha : C.any fun c => !rise c s.2.2.2.1.length with
      | true =>
        refine ⟨_, rfl, rfl, fun h => (by cases h), fun _ _ hc => ?_⟩
        obtain ⟨c, hm, hr⟩ := List.any_eq_true.1 ha
        rw [(hc c hm).1] at hr
        cases hr
      | false =>
        have hr : ∀ c ∈ C, rise c s.2.2.2.1.length = true := fun c hc => by
          rw [List.any_eq_false] at ha
          simpa using ha c hc
        simp only [Bool.false_eq_true, if_false]
        rw [cc2 hF hs hl hr, contL (p := safe s) (by omega) (by show _ ≤ _; omega) (fun c hc => by
          have hrc := hr c hc
          unfold right_CheckConflicts_2
          rw [together_eq (by omega) (hC c hc) (rise_small hrc (by omega))]
          simp only [Option.bind_eq_bind, Option.bind_some]
          have e : right_treaty_safe F (((treaty s).1.1, (treaty s).1.2.1, (treaty s).1.2.2.1, (treaty s).1.2.2.2.1, (treaty s).1.2.2.2.2), (treaty s).2.1, (treaty s).2.2.1, (treaty s).2.2.2) (bitsI c : Nat) = some (safe s c) := safe_eq hF hs (rise_in hrc) (inG_small hs (rise_in hrc))
          rw [e]
          rfl)]
        simp only [Option.bind_some]
        cases hsf : C.any (safe s) with
        | true =>
          refine ⟨_, rfl, rfl, fun h => (by cases h), fun _ _ hc => ?_⟩
          obtain ⟨c, hm, hr⟩ := List.any_eq_true.1 hsf
          exact absurd (by simpa [safe] using hr) (hc c hm).2
        | false =>
          have hb : ∀ c ∈ C, ¬ tb s c < 0 := fun c hc => by
            rw [List.any_eq_false] at hsf
            simpa [safe] using hsf c hc
          have hne : ∀ c ∈ C, rise c s.2.2.2.1.length = true ∧ c ≠ [] := fun c hc => ⟨hr c hc, fun e => hb c hc (e ▸ ht0)⟩
          simp only [Bool.false_eq_true, if_false]
          rw [ccmasks hF hs hl hr]
          simp only [Option.bind_some]
          obtain ⟨R, k1, k2, k3, k4⟩ := refused_eq (F := F) hF hgl hne hl
          obtain ⟨v, k5, k6⟩ := Need_eq (F := F) hF hgl hne hl
          rw [k1, k5]
          simp only [Option.bind_some]
          rw [numbers_eq (by omega) (bitsI62 (rise_small k2 (by omega))), lst_bits k2 (by omega)]
          simp only [Option.bind_some]
          rw [k4.uniq k6]
          exact ⟨_, rfl, rfl, fun _ => ⟨trivial, hl, fun c hc => ⟨hr c hc, hb c hc⟩, v, rfl, k6⟩, fun _ _ _ => rfl⟩
    · rw [if_pos (by simp only [decide_eq_true_eq]; omega), if_pos (by simp only [decide_eq_true_eq]; omega)]
      exact ⟨_, rfl, rfl, fun h => (by cases h), fun _ h' _ => absurd h' hl⟩
  · simp only [if_neg h0]
    rw [if_pos (by simp [h0]), if_pos (by simp [h0])]
    exact ⟨_, rfl, rfl, fun h => absurd h h0, fun h => absurd h h0⟩

/-! ### Conflicts that are found -/
theorem safe_mask (hF : 2000000000 < F) (hs : Sound s) {Z : Nat} (hZ : Z < 2 ^ s.2.2.2.1.length) : right_treaty_safe F (treaty s) (Z : Int) = some (safe s (lst Z s.2.2.2.1.length)) := by
  have hgl := hs.given
  have hp : 2 ^ s.2.2.2.1.length ≤ 2 ^ 12 := Nat.pow_le_pow_right (by decide) hgl
  have hp2 : (2 : Nat) ^ 12 = 4096 := by decide
  have hb : B62 Z := by show Z < 4611686018427387904; omega
  have hr := rise_lst Z s.2.2.2.1.length (n := (s.2.2.2.1.length : Int)) (by omega)
  have e : bitsI (lst Z s.2.2.2.1.length) = Z := by rw [← lst_n hZ (by omega)]; exact bits_lst hb
  have := safe_eq (F := F) hF hs (rise_in hr) (inG_small hs (rise_in hr))
  rwa [e] at this
theorem con2 (hF : 2000000000 < F) (hs : Sound s) : ∀ m (k Z : Nat), k ≤ s.2.2.2.1.length → s.2.2.2.1.length - k < m → Z < 2 ^ s.2.2.2.1.length → safe s (lst Z s.2.2.2.1.length) = false →
    ∃ Y : Nat, right_Conflicts_l2 F s (treaty s) m (Z : Int) (k : Int) = some (Y : Int) ∧ Y < 2 ^ s.2.2.2.1.length ∧ safe s (lst Y s.2.2.2.1.length) = false ∧ ∀ i, Y.testBit i = true → Z.testBit i = true
  | 0, k, _, _, h, _, _ => by omega
  | m + 1, k, Z, hk, h, hZ, hu => by
    have hgl := hs.given
    have hp : 2 ^ s.2.2.2.1.length ≤ 2 ^ 12 := Nat.pow_le_pow_right (by decide) hgl
    have hp2 : (2 : Nat) ^ 12 = 4096 := by decide
    have hb : B62 Z := by show Z < 4611686018427387904; omega
    simp only [right_Conflicts_l2]
    by_cases hlt : k < s.2.2.2.1.length
    · have e1 : bandn .i64 (Z : Int) ((2 ^ k : Nat) : Int) = ((ndiff Z (2 ^ k) : Nat) : Int) := bandn_nat hb (pow62 (by omega))
      have hlt2 : ndiff Z (2 ^ k) < 2 ^ s.2.2.2.1.length := Nat.xor_lt_two_pow hZ (Nat.lt_of_le_of_lt Nat.and_le_left hZ)
      rw [if_pos (ltd hlt), shl1 (by omega), w64_succ (by omega)]
      simp only [Option.bind_eq_bind, Option.bind_some]
      rw [e1]
      rw [show right_treaty_safe F (((treaty s).1.1, (treaty s).1.2.1, (treaty s).1.2.2.1, (treaty s).1.2.2.2.1, (treaty s).1.2.2.2.2), (treaty s).2.1, (treaty s).2.2.1, (treaty s).2.2.2) ((ndiff Z (2 ^ k) : Nat) : Int) = some (safe s (lst (ndiff Z (2 ^ k)) s.2.2.2.1.length)) from safe_mask hF hs hlt2]
      simp only [Option.bind_some]
      cases hc : safe s (lst (ndiff Z (2 ^ k)) s.2.2.2.1.length) with
      | false =>
        rw [if_pos (by simp)]
        simp only [Option.bind_some]
        obtain ⟨Y, y1, y2, y3, y4⟩ := con2 hF hs m (k + 1) _ (by omega) (by omega) hlt2 hc
        refine ⟨Y, y1, y2, y3, fun i hi => ?_⟩
        have := y4 i hi
        rw [ndiff_bit, Bool.and_eq_true] at this
        exact this.1
      | true =>
        rw [if_neg (by simp)]
        simp only [Option.bind_some]
        exact con2 hF hs m (k + 1) Z (by omega) (by omega) hZ hu
    · have : k = s.2.2.2.1.length := by omega
      subst this
      rw [if_neg nltd]
      exact ⟨Z, rfl, hZ, hu, fun _ h => h⟩
structure Cf (s : TBook) (C : List (List Int)) : Prop where
  nd : C.Nodup
  ok : ∀ c ∈ C, rise c s.2.2.2.1.length = true ∧ ¬ tb s c < 0
theorem Cf.len {C : List (List Int)} (h : Cf s C) (hs : Sound s) : C.length ≤ 2 ^ s.2.2.2.1.length := by
  have hgl := hs.given
  have := nodup_len (2 ^ s.2.2.2.1.length) (C.map fun c => ((bitsI c : Nat) : Int)) (by
    have inj : ∀ D : List (List Int), (∀ c ∈ D, rise c s.2.2.2.1.length = true) → D.Nodup → (D.map fun c => ((bitsI c : Nat) : Int)).Nodup := fun D => by
      induction D with
      | nil => intro _ _; exact List.nodup_nil
      | cons d D ih =>
        intro hD hn
        rw [List.nodup_cons] at hn
        rw [List.map_cons, List.nodup_cons]
        refine ⟨fun hm => ?_, ih (fun c hc => hD c (List.mem_cons_of_mem _ hc)) hn.2⟩
        obtain ⟨c, hc, e⟩ := List.mem_map.1 hm
        have e' : bitsI c = bitsI d := by omega
        have h1 := lst_bits (hD c (List.mem_cons_of_mem _ hc)) (by omega)
        have h2 := lst_bits (hD d List.mem_cons_self) (by omega)
        rw [e', h2] at h1
        exact hn.1 (h1 ▸ hc)
    exact inj C (fun c hc => (h.ok c hc).1) h.nd) (fun w hw => by
    obtain ⟨c, hc, rfl⟩ := List.mem_map.1 hw
    have := bits_lt (h.ok c hc).1 (by omega)
    omega)
  simpa using this
theorem con1 (hF : 2000000000 < F) (hs : Sound s) (ht0 : tb s [] < 0) {x2 : Ob TTreaty × Int} (hx : x2.1.v = some (treaty s)) : ∀ m (C : List (List Int)), Cf s C → 2 ^ s.2.2.2.1.length - C.length < m →
    ∃ D R, right_Conflicts_l1 F s x2 m (C.map fun c => ((bitsI c : Nat) : Int)) = some (D.map fun c => ((bitsI c : Nat) : Int)) ∧ Cf s D ∧ Mh s.2.2.2.1.length D R.length ∧ rise R s.2.2.2.1.length = true ∧ tb s (lst (ndiff (2 ^ s.2.2.2.1.length - 1) (bitsI R)) s.2.2.2.1.length) < 0
  | 0, C, _, h => by omega
  | m + 1, C, hC, h => by
    have hgl := hs.given
    have hp : 2 ^ s.2.2.2.1.length ≤ 2 ^ 12 := Nat.pow_le_pow_right (by decide) hgl
    have hp2 : (2 : Nat) ^ 12 = 4096 := by decide
    have hpos : 0 < 2 ^ s.2.2.2.1.length := Nat.pow_pos (by decide)
    have hl := hC.len hs
    have hne : ∀ c ∈ C, rise c s.2.2.2.1.length = true ∧ c ≠ [] := fun c hc => ⟨(hC.ok c hc).1, fun e => (hC.ok c hc).2 (e ▸ ht0)⟩
    obtain ⟨R, k1, k2, k3, k4⟩ := refused_eq (F := F) hF hgl hne (by omega)
    have hR := bits_lt k2 (by omega)
    have hfl : 2 ^ s.2.2.2.1.length - 1 < 2 ^ s.2.2.2.1.length := by omega
    have hlt : ndiff (2 ^ s.2.2.2.1.length - 1) (bitsI R) < 2 ^ s.2.2.2.1.length := Nat.xor_lt_two_pow hfl (Nat.lt_of_le_of_lt Nat.and_le_left hfl)
    have e1 : bandn .i64 (w64 (((2 ^ s.2.2.2.1.length : Nat) : Int) - 1)) ((bitsI R : Nat) : Int) = ((ndiff (2 ^ s.2.2.2.1.length - 1) (bitsI R) : Nat) : Int) := by
      have : w64 (((2 ^ s.2.2.2.1.length : Nat) : Int) - 1) = ((2 ^ s.2.2.2.1.length - 1 : Nat) : Int) := by
        clear hlt hfl hR k4 h hl
        generalize 2 ^ s.2.2.2.1.length = q at hp hpos
        rw [w64_in (by omega)]
        omega
      rw [this]
      exact bandn_nat (by show _ < 4611686018427387904; omega) (bitsI62 (rise_small k2 (by omega)))
    simp only [right_Conflicts_l1]
    rw [shl1 (by omega), k1, hx]
    simp only [Option.bind_eq_bind, Option.bind_some]
    rw [e1, show right_treaty_safe F (((treaty s).1.1, (treaty s).1.2.1, (treaty s).1.2.2.1, (treaty s).1.2.2.2.1, (treaty s).1.2.2.2.2), (treaty s).2.1, (treaty s).2.2.1, (treaty s).2.2.2) ((ndiff (2 ^ s.2.2.2.1.length - 1) (bitsI R) : Nat) : Int) = some (safe s (lst (ndiff (2 ^ s.2.2.2.1.length - 1) (bitsI R)) s.2.2.2.1.length)) from safe_mask hF hs hlt]
    simp only [Option.bind_some]
    cases hc : safe s (lst (ndiff (2 ^ s.2.2.2.1.length - 1) (bitsI R)) s.2.2.2.1.length) with
    | true =>
      rw [if_pos rfl]
      exact ⟨C, R, rfl, hC, k4, k2, by simpa [safe] using hc⟩
    | false =>
      rw [if_neg (by simp)]
      obtain ⟨Y, y1, y2, y3, y4⟩ := con2 (F := F) hF hs F 0 _ (Nat.zero_le _) (by omega) hlt hc
      simp only [Int.natCast_zero] at y1
      rw [y1]
      simp only [Option.bind_some]
      rw [app_some (by simp; omega)]
      simp only [Option.bind_some]
      have hYr := rise_lst Y s.2.2.2.1.length (n := (s.2.2.2.1.length : Int)) (by omega)
      have eY : bitsI (lst Y s.2.2.2.1.length) = Y := by rw [← lst_n y2 (by omega)]; exact bits_lst (by show Y < 4611686018427387904; omega)
      have hnew : lst Y s.2.2.2.1.length ∉ C := fun hm => by
        have := List.all_eq_true.1 k3 _ hm
        obtain ⟨x, hx1, hx2⟩ := hit_iff.1 this
        rw [lst_mem] at hx2
        obtain ⟨i, rfl, _, hi⟩ := hx2
        have h5 := y4 i hi
        rw [ndiff_bit, Bool.and_eq_true, Bool.not_eq_true', bitsI_bit' (rise_small k2 (by omega)), decide_eq_false_iff_not] at h5
        exact h5.2 hx1
      have hC' : Cf s (C ++ [lst Y s.2.2.2.1.length]) := ⟨List.nodup_append.2 ⟨hC.nd, by simp, fun a ha b hb => by
        rw [List.mem_singleton] at hb
        subst hb
        rintro rfl
        exact hnew ha⟩, fun c hc => by
        rcases List.mem_append.1 hc with hc | hc
        · exact hC.ok c hc
        · rw [List.mem_singleton] at hc
          subst hc
          exact ⟨hYr, by simpa [safe] using y3⟩⟩
      have hl' := hC'.len hs
      rw [List.length_append] at hl'
      have hl1 : ([lst Y s.2.2.2.1.length] : List (List Int)).length = 1 := rfl
      obtain ⟨D, R', d1, d2⟩ := con1 hF hs ht0 hx m _ hC' (by rw [List.length_append]; omega)
      refine ⟨D, R', ?_, d2⟩
      rw [← d1, List.map_append]
      simp [eY]
theorem con3 (hF : 2000000000 < F) (hs : Sound s) {D : List (List Int)} (hD : ∀ c ∈ D, rise c s.2.2.2.1.length = true) (hl : D.length ≤ 4096) : right_Conflicts_l3 F (D.map fun c => ((bitsI c : Nat) : Int)) F [] 0 = some D := by
  have hgl := hs.given
  have := fold_loop0 (l := D) (L := fun m k y => right_Conflicts_l3 F (D.map fun c => ((bitsI c : Nat) : Int)) m y (k : Int)) (f := fun y c => y ++ [c]) (fin := id) (inv := fun k y => y.length ≤ k) (fun m y _ => by
    simp only [right_Conflicts_l3]; rw [if_neg (by simp)]; rfl) (fun m k y h hy => by
    have hr := hD _ (List.getElem_mem h)
    have h' : k < (D.map fun c => ((bitsI c : Nat) : Int)).length := by simpa using h
    simp only [right_Conflicts_l3]
    rw [if_pos (ltd h'), ix_nat h', w64_succ (by omega)]
    simp only [Option.bind_eq_bind, Option.bind_some, List.getElem_map]
    rw [numbers_eq (by omega) (bitsI62 (rise_small hr (by omega))), lst_bits hr (by omega)]
    simp only [Option.bind_some]
    rw [app_some (by simp; omega)]
    exact ⟨rfl, by simp; omega⟩) (m := F) (y := []) (by omega) (by simp)
  simp only [Int.natCast_zero, id] at this
  rw [this.1]
  have e : ∀ (l : List (List Int)) (y : List (List Int)), l.foldl (fun y c => y ++ [c]) y = y ++ l := fun l => by
    induction l with
    | nil => intro y; simp
    | cons a l ih => intro y; rw [List.foldl_cons, ih]; simp
  rw [e, List.nil_append]
end
end Go.Proofs.Ytdimoehnkagghaa

/-! RightConflicts. Condition: there are enough rounds, and the layer works on its own book. -/
namespace Go.Proofs.Ytdimoehnkagghaa
open Go Go.Md Go.RowKit
/-- The numbers below n that are not in R. -/
def cmp (n : Nat) (R : List Int) : List Int := lst (ndiff (2 ^ n - 1) (bitsI R)) n
theorem cmp_mem {n : Nat} {R : List Int} (hR : Small R) {x : Int} : x ∈ cmp n R ↔ 0 ≤ x ∧ x < n ∧ x ∉ R := by
  unfold cmp
  rw [lst_mem]
  constructor
  · rintro ⟨i, rfl, h, hi⟩
    rw [ndiff_bit, Bool.and_eq_true, Bool.not_eq_true', bitsI_bit' hR, decide_eq_false_iff_not] at hi
    exact ⟨by omega, by omega, hi.2⟩
  · rintro ⟨h0, h1, h2⟩
    refine ⟨x.toNat, by omega, by omega, ?_⟩
    rw [ndiff_bit, bitsI_bit hR h0, Nat.testBit_two_pow_sub_one]
    simp [h2]
    omega
theorem cmp_rise (n : Nat) (R : List Int) : rise (cmp n R) n = true := rise_lst _ _ (by omega)
theorem cmp_len {n : Nat} {R : List Int} (hR : rise R n = true) (hn : n ≤ 12) : R.length + (cmp n R).length = n := by
  have key : ∀ K, K ≤ n → (lst (bitsI R) K).length + (lst (ndiff (2 ^ n - 1) (bitsI R)) K).length = K := fun K => by
    induction K with
    | zero => intro _; rfl
    | succ K ih =>
      intro h
      rw [lst_succ, lst_succ, ndiff_bit, Nat.testBit_two_pow_sub_one]
      have := ih (by omega)
      have hd : decide (K < n) = true := by simp; omega
      rw [hd, Bool.true_and]
      cases (bitsI R).testBit K
      · simp; omega
      · simp; omega
  have e : lst (bitsI R) n = R := by rw [← lst_n (bits_lt hR (by omega)) (by omega), lst_bits hR (by omega)]
  have := key n (Nat.le_refl _)
  rw [e] at this
  exact this
section
variable {F : Nat} {s : TBook} {f : List Int}
theorem cmp_hits (hs : Sound s) {S : List Int} (hr : rise S s.2.2.2.1.length = true) (hS : tb s S < 0) {D : List (List Int)} (hD : ∀ c ∈ D, rise c s.2.2.2.1.length = true ∧ ¬ tb s c < 0) : hits (cmp s.2.2.2.1.length S) D = true := by
  have hgl := hs.given
  unfold hits
  rw [List.all_eq_true]
  intro c hc
  obtain ⟨h1, h2⟩ := hD c hc
  rw [hit_iff]
  refine Classical.byContradiction fun hno => h2 ?_
  refine tb_mono (b := s) (g := S) rfl (fun x hx => Hd.mono (fun y hy => ?_) hx) hS
  refine Classical.byContradiction fun hy' => hno ⟨y, ?_, hy⟩
  have := rise_mem h1 y hy
  exact (cmp_mem (rise_small hr (by omega))).2 ⟨this.1, this.2, hy'⟩
theorem Con_eq (hF : 2000000000 < F) (h : Fit s) (h0 : cb s = 0) : ∃ D, right_Conflicts F s = some (D, 0) ∧ D.length ≤ 4096 ∧ (∀ c ∈ D, rise c s.2.2.2.1.length = true ∧ ¬ tb s c < 0) ∧
    (fewR s s.2.2.2.1.length s.2.2.2.1.length).length ≤ s.2.2.2.1.length ∧ Mh s.2.2.2.1.length D (s.2.2.2.1.length - (fewR s s.2.2.2.1.length s.2.2.2.1.length).length) := by
  obtain ⟨hs, _, ht0⟩ := cb_zero h0
  have hgl := hs.given
  have hp : 2 ^ s.2.2.2.1.length ≤ 2 ^ 12 := Nat.pow_le_pow_right (by decide) hgl
  have hp2 : (2 : Nat) ^ 12 = 4096 := by decide
  obtain ⟨D, R, d1, d2, d3, d4, d5⟩ := con1 (F := F) hF hs ht0 (x2 := (⟨some (treaty s)⟩, 0)) rfl F [] ⟨List.nodup_nil, fun c hc => by cases hc⟩ (by omega)
  have hl := d2.len hs
  have ht := fewR_Top (s := s) (n := s.2.2.2.1.length) ht0
  have hfl := fewR_len (s := s) (n := s.2.2.2.1.length) s.2.2.2.1.length
  have c1 := cmp_len d4 hgl
  have c2 := cmp_len ht.rise hgl
  have c3 := d3.le _ (cmp_rise _ _) (cmp_hits hs ht.rise ht.safe d2.ok)
  have c4 := ht.top (cmp s.2.2.2.1.length R) (cmp_rise _ _) d5
  have c5 : ¬ (fewR s s.2.2.2.1.length s.2.2.2.1.length).length < (cmp s.2.2.2.1.length R).length := fun h => c4 (.inl h)
  refine ⟨D, ?_, by omega, d2.ok, hfl, ?_⟩
  · unfold right_Conflicts
    show ((right_newTreaty F s) >>= fun x2 => _) = _
    rw [newTreaty_eq hF h, if_pos h0]
    simp only [Option.bind_eq_bind, Option.bind_some]
    rw [if_neg (by simp)]
    have d1' : right_Conflicts_l1 F s (⟨some (treaty s)⟩, 0) F [] = some (D.map fun c => ((bitsI c : Nat) : Int)) := d1
    rw [d1']
    simp only [Option.bind_some]
    rw [con3 hF hs (fun c hc => (d2.ok c hc).1) (by omega)]
    rfl
  · rwa [show s.2.2.2.1.length - (fewR s s.2.2.2.1.length s.2.2.2.1.length).length = R.length by omega]
theorem conflicts_law (hF : 2000000000 < F) (hW : law10_Works F = some true) {C : List (List Int)} : law10_RightConflicts F s C = some true := by
  unfold law10_RightConflicts
  obtain ⟨b, h1, h2⟩ := great_eq (F := F) (s := s) (by omega)
  rw [show (s.1, s.2.1, s.2.2.1, s.2.2.2.1, s.2.2.2.2) = s from rfl, h1, hW]
  simp only [Option.bind_eq_bind, Option.bind_some]
  by_cases hc : ((b || ((decide (7 < (s.2.2.2.1.length : Int))) && (decide ((s.2.2.2.1.length : Int) ≤ 12)))) || (decide (20 < (C.length : Int)))) = true
  · rw [if_pos hc]
  · rw [if_neg hc]
    rw [Bool.not_eq_true, Bool.or_eq_false_iff, Bool.or_eq_false_iff, decide_eq_false_iff_not] at hc
    have h := h2 hc.1.1
    have hcl : C.length ≤ 20 := by omega
    have l1 := any_loop0 (l := C) (L := fun m k => law10_RightConflicts_l1 F C m (k : Int)) (p := fun c => decide (20 < (c.length : Int))) (c := true) (fun m => by
      simp only [law10_RightConflicts_l1]; rw [if_neg nltd]) (fun m k h => by
      simp only [law10_RightConflicts_l1]
      rw [if_pos (ltd h), ix_nat h, w64_succ (by omega), hW]
      simp only [Option.bind_eq_bind, Option.bind_some]) (m := F) (by omega)
    simp only [Int.natCast_zero] at l1
    rw [l1]
    simp only [Option.bind_some]
    cases ha : C.any fun c => decide (20 < (c.length : Int)) with
    | true => rfl
    | false =>
      simp only [Bool.false_eq_true, if_false]
      have hC : ∀ c ∈ C, Sm c := fun c hc => by
        rw [List.any_eq_false] at ha
        have := ha c hc
        rw [decide_eq_true_eq] at this
        show _ ≤ _
        omega
      obtain ⟨r, r1, r2, _, _⟩ := conf_both hF h hC
      rw [r1, r2]
      simp only [Option.bind_some]
      rw [if_neg (by simp)]
      rw [Book_cb (by omega) h]
      by_cases h0 : cb s = 0
      · obtain ⟨hs, _, ht0⟩ := cb_zero h0
        have hgl := hs.given
        obtain ⟨D, e1, e2, e3, e4, e5⟩ := Con_eq (F := F) hF h h0
        rw [e1]
        simp only [Option.bind_some]
        rw [if_neg (by simp [h0])]
        by_cases hlong : (decide True && decide (200 < (D.length : Int))) = true
        · rw [if_pos hlong]
          have : decide ((D.length : Int) ≤ 4096) = true := by simp only [decide_eq_true_eq]; omega
          rw [this]
          simp [gd]
        · rw [if_neg hlong]
          obtain ⟨q, q1, q2, q3, q4⟩ := conf_both (F := F) hF h (C := D) (fun c hc => by have := rise_len (e3 c hc).1; show _ ≤ _; omega)
          have q5 := q4 h0 e2 e3
          obtain ⟨_, _, _, v, q6, q7⟩ := q3 q5
          have hv := q7.uniq e5
          rw [Fewest_eq hF h, if_pos h0, q2]
          simp only [Option.bind_some]
          have e6 : w64 ((s.2.2.2.1.length : Int) - ((fewR s s.2.2.2.1.length s.2.2.2.1.length).length : Int)) = q.1 := by
            rw [w64_in (by omega), q6]
            omega
          rw [q5, e6]
          simp [gd]
      · have : right_Conflicts F s = some ([], cb s) := by
          unfold right_Conflicts
          show ((right_newTreaty F s) >>= fun x2 => _) = _
          rw [newTreaty_eq hF h, if_neg h0]
          simp only [Option.bind_eq_bind, Option.bind_some]
          rw [if_pos (by simp [h0])]
        rw [this]
        simp only [Option.bind_some]
        rw [if_pos (by simp [h0])]
        simp [gd]
end
end Go.Proofs.Ytdimoehnkagghaa

/-! RightProved. Condition: there are enough rounds, and the layer works on its own book. -/
namespace Go.Proofs.Ytdimoehnkagghaa
open Go Go.Md Go.RowKit
theorem nle {a b n r : Nat} (h : a + b = n) (k : ¬ r < b) : n - r ≤ a := by omega
theorem ile {a b n : Nat} (k : ¬ b < a) : ((n - b : Nat) : Int) ≤ ((n - a : Nat) : Int) := by omega
section
variable {F : Nat} {s : TBook} {f : List Int}
/-- Of the asks that were decided one by one, how many were refused. -/
theorem dec_count (s : TBook) : ∀ k, (((dec s k).2.filter fun x => !decide (x = -1)).length) + (dec s k).1.length = k
  | 0 => rfl
  | k + 1 => by
    have ih := dec_count s k
    rw [dec_succ]
    simp only
    rw [List.filter_append, List.length_append]
    have e2 : -1 ≤ tb s ((dec s k).1 ++ [(k : Int)]) := by
      unfold tb fst
      split <;> omega
    generalize tb s ((dec s k).1 ++ [(k : Int)]) = t at e2
    by_cases hz : t < 0
    · have : t = -1 := by omega
      subst this
      rw [if_pos (by decide), List.length_append]
      simp
      omega
    · rw [if_neg hz]
      have : ¬ t = -1 := by omega
      simp [this]
      omega
theorem prov1 (hF : 2000000000 < F) {x8 : List Int × Int} (hl : x8.1.length ≤ 1000) : law10_RightProved_l1 F x8 F 0 0 = some ((x8.1.filter fun x => !decide (x = -1)).length : Int) := by
  have key : ∀ m (k y : Nat), k ≤ x8.1.length → x8.1.length - k < m → y ≤ k → law10_RightProved_l1 F x8 m (y : Int) (k : Int) = some (((y + ((x8.1.drop k).filter fun x => !decide (x = -1)).length : Nat)) : Int) := fun m => by
    induction m with
    | zero => intro k y _ h; omega
    | succ m ih =>
      intro k y hk h hy
      simp only [law10_RightProved_l1]
      by_cases hlt : k < x8.1.length
      · rw [if_pos (ltd hlt), ix_nat hlt, w64_succ (k := k) (by omega), w64_succ (k := y) (by omega), List.drop_eq_getElem_cons hlt, List.filter_cons]
        simp only [Option.bind_eq_bind, Option.bind_some]
        by_cases hc : (!decide (x8.1[k] = -1)) = true
        · rw [if_pos hc, if_pos hc]
          simp only [Option.bind_some]
          rw [ih (k + 1) (y + 1) (by omega) (by omega) (by omega), List.length_cons]
          congr 2
          omega
        · rw [if_neg hc, if_neg hc]
          simp only [Option.bind_some]
          exact ih (k + 1) y (by omega) (by omega) (by omega)
      · have : k = x8.1.length := by omega
        subst this
        rw [if_neg nltd, List.drop_length]
        simp
  have := key F 0 0 (by omega) (by omega) (by omega)
  simp only [Int.natCast_zero, List.drop_zero, Nat.zero_add] at this
  exact this
theorem prov2 (hF : 2000000000 < F) (hs : Sound s) {u : List (KI .u16)} (hu : ∀ x ∈ u, (Lit.int .u16 x.v).wf = true) (hl : u.length ≤ 20) : ∃ z, law10_RightProved_l2 F s u F [] 0 = some z ∧ (∀ c ∈ z, Sm c) := by
  have := fold_loop0 (l := u) (L := fun m k y => law10_RightProved_l2 F s u m y (k : Int)) (f := fun y x => y ++ [lst x.v.toNat s.2.2.2.1.length]) (fin := id) (inv := fun k y => y.length ≤ k ∧ ∀ c ∈ y, Sm c) (fun m y _ => by
    simp only [law10_RightProved_l2]; rw [if_neg nltd]; rfl) (fun m k y h hy => by
    obtain ⟨g1, _, g3⟩ := Granted_eq (F := F) hF hs (wf_u16 (hu _ (List.getElem_mem h)))
    simp only [law10_RightProved_l2]
    rw [if_pos (ltd h), ix_nat h, w64_succ (by omega)]
    simp only [Option.bind_eq_bind, Option.bind_some]
    rw [show (s.1, s.2.1, s.2.2.1, s.2.2.2.1, s.2.2.2.2) = s from rfl, g1]
    simp only [Option.bind_some]
    rw [app_some (by simp; omega)]
    refine ⟨rfl, by simp; omega, fun c hc => ?_⟩
    rcases List.mem_append.1 hc with hc | hc
    · exact hy.2 c hc
    · rw [List.mem_singleton] at hc; subst hc; exact g3) (m := F) (y := []) (by omega) ⟨by simp, fun c hc => (by cases hc)⟩
  obtain ⟨h1, h2⟩ := this
  simp only [Int.natCast_zero, id] at h1
  exact ⟨_, h1, h2.2⟩
theorem proved_law (hF : 2000000000 < F) (hW : law10_Works F = some true) {x1 : Int} {u : List (KI .u16)} (h1 : (Lit.int .u16 x1).wf = true) (h2 : ∀ x ∈ u, (Lit.int .u16 x.v).wf = true) : law10_RightProved F s x1 u = some true := by
  unfold law10_RightProved
  obtain ⟨b, e1, e2⟩ := fine_eq (F := F) (s := s) hF
  rw [show (s.1, s.2.1, s.2.2.1, s.2.2.2.1, s.2.2.2.2) = s from rfl, e1, hW]
  simp only [Option.bind_eq_bind, Option.bind_some]
  by_cases hc : ((!b) || (decide (20 < (u.length : Int)))) = true
  · rw [if_pos hc]
  · rw [if_neg hc]
    rw [Bool.not_eq_true, Bool.or_eq_false_iff, decide_eq_false_iff_not] at hc
    obtain ⟨h, h0⟩ := e2 (by simpa using hc.1)
    obtain ⟨hs, _, ht0⟩ := cb_zero h0
    have hgl := hs.given
    obtain ⟨D, d1, d2, d3, d4, d5⟩ := Con_eq (F := F) hF h h0
    have ht := fewR_Top (s := s) (n := s.2.2.2.1.length) ht0
    rw [few_eq hF h h0, d1, Decide_val hF h h0]
    simp only [Option.bind_some]
    have hdl := dec_len s s.2.2.2.1.length
    have hcount := dec_count s s.2.2.2.1.length
    have hdr := (dec_rise s s.2.2.2.1.length).2 s.2.2.2.1.length (by omega)
    have hdt := ht.top _ hdr (dec_tb s ht0 _)
    generalize hR : fewR s s.2.2.2.1.length s.2.2.2.1.length = R at ht d4 d5 hdt
    have hRs : Sm R := by show _ ≤ _; omega
    have hck : ck s R = 0 := by unfold ck gq; rw [if_pos h0, if_pos ht.rise, if_pos rfl, if_pos ht.safe]
    rw [Check_eq hF h hRs, check_eq hF h hRs, hck, hdl.1]
    obtain ⟨q, q1, _, q3, q4⟩ := conf_both (F := F) hF h (C := D) (fun c hc => by have := rise_len (d3 c hc).1; show _ ≤ _; omega)
    have q5 := q4 h0 d2 d3
    obtain ⟨_, _, _, v, q6, q7⟩ := q3 q5
    have hv := q7.uniq d5
    have ew : w64 ((s.2.2.2.1.length : Int) - (R.length : Int)) = ((s.2.2.2.1.length - R.length : Nat) : Int) := by
      rw [w64_in (by omega)]
      omega
    rw [ew]
    have pre : ∀ {A B : Option Bool}, ((gd (!((((!decide ((0 : Int) = 0)) || (!decide ((0 : Int) = 0))) || (!decide ((0 : Int) = 0))) || (!decide ((s.2.2.2.1.length : Int) = (s.2.2.2.1.length : Int))))) (some (0 : Int)) 0).bind fun x9 =>
      (gd (!(((((!decide ((0 : Int) = 0)) || (!decide ((0 : Int) = 0))) || (!decide ((0 : Int) = 0))) || (!decide ((s.2.2.2.1.length : Int) = (s.2.2.2.1.length : Int)))) || (!decide (x9 = 0)))) (some (0 : Int)) 0).bind fun x10 =>
      if ((((((!decide ((0 : Int) = 0)) || (!decide ((0 : Int) = 0))) || (!decide ((0 : Int) = 0))) || (!decide ((s.2.2.2.1.length : Int) = (s.2.2.2.1.length : Int)))) || (!decide (x9 = 0))) || (!decide (x10 = 0))) = true then A else B) = B := by
      intro A B
      simp [gd]
    refine Eq.trans pre ?_
    rw [q1]
    simp only [Option.bind_some]
    rw [if_neg (by rw [q5, q6, hv]; simp)]
    rw [prov1 hF (x8 := ((dec s s.2.2.2.1.length).2, 0)) (by rw [hdl.1]; omega)]
    simp only [Option.bind_some]
    obtain ⟨g1, g2, g3⟩ := Granted_eq (F := F) hF hs (wf_u16 h1)
    rw [g1]
    simp only [Option.bind_some]
    generalize lst x1.toNat s.2.2.2.1.length = f at g1 g2 g3
    obtain ⟨z, z1, z2⟩ := prov2 (F := F) hF hs h2 (by omega)
    rw [z1]
    simp only [Option.bind_some]
    obtain ⟨p, p1, _, p3, _⟩ := conf_both (F := F) hF h (C := z) z2
    rw [p1]
    simp only [Option.bind_some]
    have hfl := rise_len g2
    have ewf : w64 ((s.2.2.2.1.length : Int) - (f.length : Int)) = ((s.2.2.2.1.length - f.length : Nat) : Int) := by
      rw [w64_in (by omega)]
      omega
    rw [ewf]
    have hz1 : s.2.2.2.1.length - R.length ≤ ((dec s s.2.2.2.1.length).2.filter fun x => !decide (x = -1)).length := by
      exact nle hcount fun h => hdt (.inl h)
    have hp : p.2 = 0 → ∀ S, rise S s.2.2.2.1.length = true → tb s S < 0 → p.1 ≤ ((s.2.2.2.1.length - S.length : Nat) : Int) := fun h5 S hS hsf => by
      obtain ⟨_, _, p6, w, p7, p8⟩ := p3 h5
      have := p8.le _ (cmp_rise _ _) (cmp_hits hs hS hsf p6)
      have := cmp_len hS hgl
      omega
    have c1 : ((decide ((((dec s s.2.2.2.1.length).2.filter fun x => !decide (x = -1)).length : Int) < ((s.2.2.2.1.length - R.length : Nat) : Int))) || ((decide (p.2 = 0)) && (decide (((s.2.2.2.1.length - R.length : Nat) : Int) < p.1)))) = false := by
      rw [Bool.or_eq_false_iff, decide_eq_false_iff_not]
      refine ⟨by omega, ?_⟩
      by_cases h5 : p.2 = 0
      · have := hp h5 R ht.rise ht.safe
        rw [Bool.and_eq_false_iff]
        right
        simp only [decide_eq_false_iff_not]
        omega
      · simp [h5]
    rw [if_neg (by rw [c1]; simp), check_eq hF h g3]
    simp only [Option.bind_some]
    by_cases hsf : ck s f = 0
    · have hfs : tb s f < 0 := by
        unfold ck gq at hsf
        rw [if_pos h0, if_pos g2, if_pos rfl] at hsf
        split at hsf
        · assumption
        · cases hsf
      have h6 := ht.top f g2 hfs
      have h7 : ¬ R.length < f.length := fun h => h6 (.inl h)
      have c2 : decide (((s.2.2.2.1.length - R.length : Nat) : Int) ≤ ((s.2.2.2.1.length - f.length : Nat) : Int)) = true := decide_eq_true (ile h7)
      have c3 : ((!decide (p.2 = 0)) || (decide (p.1 ≤ ((s.2.2.2.1.length - f.length : Nat) : Int)))) = true := by
        by_cases h5 : p.2 = 0
        · have := hp h5 f g2 hfs
          rw [Bool.or_eq_true]
          right
          simp only [decide_eq_true_eq]
          omega
        · simp [h5]
      rw [c2, c3]
      simp [gd]
    · simp [hsf, gd]
end
end Go.Proofs.Ytdimoehnkagghaa
