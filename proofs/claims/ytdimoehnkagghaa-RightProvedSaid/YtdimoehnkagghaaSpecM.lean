/-
  RightNamed. Condition: there are enough rounds, and the layer works on its own book.
-/
import Derived.Test.YtdimoehnkagghaaSpecL
namespace Go.Proofs.Ytdimoehnkagghaa
open Go Go.Md Go.RowKit

/-- Granting one by one: the grants, and what each is answered. -/
noncomputable def dec (s : TBook) : Nat → List Int × List Int
  | 0 => ([], [])
  | k + 1 => let p := dec s k; let t := tb s (p.1 ++ [(k : Int)]); (if t < 0 then p.1 ++ [(k : Int)] else p.1, p.2 ++ [t])
theorem dec_succ (s : TBook) (k : Nat) : dec s (k + 1) = (if tb s ((dec s k).1 ++ [(k : Int)]) < 0 then (dec s k).1 ++ [(k : Int)] else (dec s k).1, (dec s k).2 ++ [tb s ((dec s k).1 ++ [(k : Int)])]) := rfl
theorem dec_len (s : TBook) : ∀ k, (dec s k).2.length = k ∧ (dec s k).1.length ≤ k
  | 0 => ⟨rfl, Nat.le_refl _⟩
  | k + 1 => by
    obtain ⟨h1, h2⟩ := dec_len s k
    rw [dec_succ]
    simp only
    refine ⟨by simp [h1], ?_⟩
    split
    · simp; omega
    · omega
theorem dec_rise (s : TBook) : ∀ k, (∀ x ∈ (dec s k).1, 0 ≤ x ∧ x < (k : Int)) ∧ ∀ n : Int, (k : Int) ≤ n → rise (dec s k).1 n = true
  | 0 => ⟨fun x h => (by cases h), fun n _ => rfl⟩
  | k + 1 => by
    obtain ⟨h1, h2⟩ := dec_rise s k
    rw [dec_succ]
    simp only
    constructor
    · intro x hx
      split at hx
      · rcases List.mem_append.1 hx with hx | hx
        · have := h1 x hx; omega
        · rw [List.mem_singleton] at hx; omega
      · have := h1 x hx; omega
    · intro n hn
      split
      · exact riseG_snoc (h2 n (by omega)) (fun y hy => (h1 y hy).2) (by omega) (by omega)
      · exact h2 n (by omega)
/-- What was granted does no harm, if nothing granted does none. -/
theorem dec_tb (s : TBook) (h0 : tb s [] < 0) : ∀ k, tb s (dec s k).1 < 0
  | 0 => h0
  | k + 1 => by
    rw [dec_succ]
    simp only
    split
    · assumption
    · exact dec_tb s h0 k
theorem dec_get (s : TBook) {k n : Nat} (h : k < n) : (dec s n).2[k]? = some (tb s ((dec s k).1 ++ [(k : Int)])) := by
  induction n with
  | zero => omega
  | succ n ih =>
    have hl := (dec_len s n).1
    rw [dec_succ]
    simp only
    by_cases hk : k < n
    · rw [List.getElem?_append_left (by omega)]
      exact ih hk
    · have : k = n := by omega
      subst this
      rw [List.getElem?_append_right (by omega), hl]
      simp
section
variable {F : Nat} {s : TBook} {f : List Int}
theorem decide_val (hF : 2000000000 < F) (hs : Sound s) {x2 : Ob TTreaty × Int} (hx : x2.1.v = some (treaty s)) : ∀ m (k : Nat), k ≤ s.2.2.2.1.length → s.2.2.2.1.length - k < m →
    right_Decide_l1 F s x2 m (bitsI (dec s k).1 : Nat) (dec s k).2 (k : Int) = some (dec s s.2.2.2.1.length).2
  | 0, k, _, h => by omega
  | m + 1, k, hk, h => by
    have hn := hs.given
    have hl := dec_len s k
    have hr := dec_rise s k
    have hg : InG s (dec s k).1 := fun x hx => by have := hr.1 x hx; omega
    simp only [right_Decide_l1]
    by_cases hlt : k < s.2.2.2.1.length
    · have hg' : InG s ((dec s k).1 ++ [(k : Int)]) := fun x hx => by
        rcases List.mem_append.1 hx with hx | hx
        · exact hg x hx
        · rw [List.mem_singleton] at hx; omega
      have hsm' := inG_small hs hg'
      have e1 : bor .i64 ((bitsI (dec s k).1 : Nat) : Int) ((2 ^ k : Nat) : Int) = ((bitsI ((dec s k).1 ++ [(k : Int)]) : Nat) : Int) := by
        rw [bor_nat (bitsI62 (inG_small hs hg)) (pow62 (by omega)), bitsI_snoc]
      rw [if_pos (ltd hlt), shl1 (by omega), w64_succ (by omega), hx]
      simp only [Option.bind_eq_bind, Option.bind_some, e1]
      have e2 : right_treaty_broken F (((treaty s).1.1, (treaty s).1.2.1, (treaty s).1.2.2.1, (treaty s).1.2.2.2.1, (treaty s).1.2.2.2.2), (treaty s).2.1, (treaty s).2.2.1, (treaty s).2.2.2) (bitsI ((dec s k).1 ++ [(k : Int)]) : Nat) = some (tb s ((dec s k).1 ++ [(k : Int)])) := broken_eq hF hs hg' hsm'
      rw [e2]
      simp only [Option.bind_some]
      have e3 := decide_val hF hs hx m (k + 1) (by omega) (by omega)
      rw [dec_succ] at e3
      simp only at e3
      by_cases ht : tb s ((dec s k).1 ++ [(k : Int)]) < 0
      · rw [if_pos ht] at e3
        rw [if_pos (by simpa using ht)]
        simp only [Option.bind_some]
        rw [app_some (by simp; omega)]
        simp only [Option.bind_some]
        exact e3
      · rw [if_neg ht] at e3
        rw [if_neg (by simpa using ht)]
        simp only [Option.bind_some]
        rw [app_some (by simp; omega)]
        simp only [Option.bind_some]
        exact e3
    · have : k = s.2.2.2.1.length := by omega
      subst this
      rw [if_neg nltd]
theorem Decide_val (hF : 2000000000 < F) (h : Fit s) (h0 : cb s = 0) : right_Decide F s = some ((dec s s.2.2.2.1.length).2, 0) := by
  have hs := (cb_zero h0).1
  unfold right_Decide
  show ((right_newTreaty F s) >>= fun x2 => _) = _
  rw [newTreaty_eq hF h, if_pos h0]
  simp only [Option.bind_eq_bind, Option.bind_some]
  rw [if_neg (by simp)]
  have := decide_val (F := F) hF hs (x2 := (⟨some (treaty s)⟩, 0)) rfl F 0 (by omega) (by have := hs.given; omega)
  have e0 : dec s 0 = ([], []) := rfl
  rw [e0] at this
  have e1 : ((bitsI [] : Nat) : Int) = 0 := rfl
  simp only [e1, Int.natCast_zero] at this
  rw [this]
  rfl
theorem named1 (hs : Sound s) {n : Nat} (hn : n = s.2.2.2.1.length) {x5 : List Int × Int} (h5 : x5.1 = (dec s n).2) : ∀ m (k : Nat), k ≤ n → n - k < m → law10_RightNamed_l1 F s x5 m (dec s k).1 (k : Int) = some (.inr (dec s n).1)
  | 0, k, _, h => by omega
  | m + 1, k, hk, h => by
    have hgl := hs.given
    have hl := dec_len s n
    have hlk := dec_len s k
    have htl := hs.taboos
    have hle : x5.1.length = n := by rw [h5, hl.1]
    simp only [law10_RightNamed_l1]
    by_cases hlt : k < n
    · have hlt' : k < x5.1.length := by omega
      have e1 : ix x5.1 (k : Int) = some (tb s ((dec s k).1 ++ [(k : Int)])) := by
        unfold ix
        rw [if_pos (by omega), Int.toNat_natCast, h5, dec_get s hlt]
      have e2 : -1 ≤ tb s ((dec s k).1 ++ [(k : Int)]) ∧ tb s ((dec s k).1 ++ [(k : Int)]) < s.2.2.2.2.length := by
        by_cases hz : tb s ((dec s k).1 ++ [(k : Int)]) < 0
        · refine ⟨?_, by omega⟩
          unfold tb fst
          split
          · omega
          · omega
        · obtain ⟨t, ht, hlt, _⟩ := tb_in hz
          omega
      have e3 := named1 hs hn h5 m (k + 1) (by omega) (by omega)
      rw [dec_succ] at e3
      simp only at e3
      rw [if_pos (ltd hlt'), e1, w64_succ (by omega)]
      simp only [Option.bind_eq_bind, Option.bind_some]
      generalize ht : tb s ((dec s k).1 ++ [(k : Int)]) = t at e1 e2 e3
      rw [if_neg (by simp only [decide_eq_true_eq]; omega)]
      simp only [Option.bind_some]
      have e4 : decide ((s.2.2.2.2.length : Int) ≤ t) = false := by simp only [decide_eq_false_iff_not]; omega
      rw [e4, if_neg (by simp)]
      by_cases hz : t < 0
      · rw [if_pos hz] at e3
        have : t = -1 := by omega
        rw [if_pos (by simp [this]), app_some (by simp; omega)]
        simp only [Option.bind_some]
        cases k with
        | zero => exact e3
        | succ k => exact e3
      · rw [if_neg hz] at e3
        rw [if_neg (by simp only [decide_eq_true_eq]; omega)]
        simp only [Option.bind_some]
        cases k with
        | zero => exact e3
        | succ k => exact e3
    · have : k = n := by omega
      subst this
      rw [if_neg (by simp only [decide_eq_true_eq]; omega)]
theorem named2 (hs : Sound s) {n q : Nat} (hn : n = s.2.2.2.1.length) (hq : q < n) {x5 : List Int × Int} (h5 : x5.1 = (dec s n).2) : ∀ m (k : Nat), k ≤ q → q - k < m → law10_RightNamed_l2 F x5 (q : Int) (m + 1) (dec s k).1 (k : Int) = some ((dec s q).1 ++ [(q : Int)])
  | 0, k, _, h => by omega
  | m + 1, k, hk, h => by
    have hgl := hs.given
    have hlk := dec_len s k
    have hle : x5.1.length = n := by rw [h5, (dec_len s n).1]
    have e1 : ix x5.1 (k : Int) = some (tb s ((dec s k).1 ++ [(k : Int)])) := by
      unfold ix
      rw [if_pos (by omega), Int.toNat_natCast, h5, dec_get s (by omega)]
    rw [law10_RightNamed_l2]
    rw [if_pos (by simp only [decide_eq_true_eq]; omega), w64_succ (by omega)]
    by_cases he : k = q
    · subst he
      rw [if_pos (by simp)]
      simp only [Option.bind_eq_bind, Option.bind_some]
      rw [if_pos trivial, app_some (by simp; omega)]
      simp only [Option.bind_some]
      rw [law10_RightNamed_l2.eq_def]
      simp only
      rw [if_neg (by simp only [decide_eq_true_eq]; omega)]
    · rw [if_neg (by simp only [decide_eq_true_eq]; omega), e1]
      have e3 := named2 hs hn hq h5 m (k + 1) (by omega) (by omega)
      rw [dec_succ] at e3
      simp only at e3
      simp only [Option.bind_eq_bind, Option.bind_some]
      have e2 : -1 ≤ tb s ((dec s k).1 ++ [(k : Int)]) := by
        unfold tb fst
        split <;> omega
      by_cases hz : tb s ((dec s k).1 ++ [(k : Int)]) < 0
      · rw [if_pos hz] at e3
        have : tb s ((dec s k).1 ++ [(k : Int)]) = -1 := by omega
        rw [if_pos (by simp [this]), app_some (by simp; omega)]
        simp only [Option.bind_some]
        exact e3
      · rw [if_neg hz] at e3
        rw [if_neg (by simp only [decide_eq_true_eq]; omega)]
        simp only [Option.bind_some]
        exact e3
theorem named_law (hF : 2000000000 < F) (hW : law10_Works F = some true) {x1 : Int} (h1 : (Lit.int .u8 x1).wf = true) : law10_RightNamed F s x1 = some true := by
  unfold law10_RightNamed
  obtain ⟨b, e1, e2⟩ := fine_eq (F := F) (s := s) hF
  rw [show (s.1, s.2.1, s.2.2.1, s.2.2.2.1, s.2.2.2.2) = s from rfl, e1, hW]
  simp only [Option.bind_eq_bind, Option.bind_some]
  by_cases hc : (!b) = true
  · rw [if_pos hc]
  · rw [if_neg hc]
    obtain ⟨h, h0⟩ := e2 (by simpa using hc)
    obtain ⟨hs, _, ht0⟩ := cb_zero h0
    have hgl := hs.given
    rw [Decide_val hF h h0]
    simp only [Option.bind_some]
    have hl := dec_len s s.2.2.2.1.length
    rw [if_neg (by simp [hl.1])]
    have n1 := named1 (F := F) hs rfl (x5 := ((dec s s.2.2.2.1.length).2, 0)) rfl F 0 (by omega) (by omega)
    have e0 : dec s 0 = ([], []) := rfl
    rw [e0] at n1
    simp only [Int.natCast_zero] at n1
    rw [n1]
    simp only [Option.bind_some]
    have hr := (dec_rise s s.2.2.2.1.length).2 s.2.2.2.1.length (by omega)
    have hf : Sm (dec s s.2.2.2.1.length).1 := by show _ ≤ _; omega
    have hck : ck s (dec s s.2.2.2.1.length).1 = 0 := by
      unfold ck gq
      rw [if_pos h0, if_pos hr, if_pos rfl, if_pos (dec_tb s ht0 _)]
    rw [check_eq hF h hf, Check_eq hF h hf, hck]
    simp only [Option.bind_some, gd, decide_true, Bool.not_true, Bool.not_false, cond_true, Bool.or_self, Bool.false_eq_true, if_false, hl.1]
    by_cases hz : s.2.2.2.1.length = 0
    · rw [if_pos (by simp [hz])]
    · rw [if_neg (by simp only [decide_eq_true_eq]; omega)]
      have hx := wf_u8 h1
      have e5 : w64 x1 = ((x1.toNat : Nat) : Int) := by rw [w64_in (by omega)]; omega
      have hq : x1.toNat % s.2.2.2.1.length < s.2.2.2.1.length := Nat.mod_lt _ (by omega)
      rw [e5, rem_nat (by omega)]
      simp only [Option.bind_some]
      generalize x1.toNat % s.2.2.2.1.length = q at hq
      have e6 : ix (dec s s.2.2.2.1.length).2 (q : Int) = some (tb s ((dec s q).1 ++ [(q : Int)])) := by
        unfold ix
        rw [if_pos (by omega), Int.toNat_natCast, dec_get s hq]
      rw [e6]
      simp only [Option.bind_some]
      by_cases hz2 : tb s ((dec s q).1 ++ [(q : Int)]) = -1
      · rw [if_pos (by simp [hz2])]
      · rw [if_neg (by simpa using hz2)]
        have e7 : -1 ≤ tb s ((dec s q).1 ++ [(q : Int)]) := by
          unfold tb fst
          split <;> omega
        have n2 := named2 (F := F) hs rfl hq (x5 := ((dec s s.2.2.2.1.length).2, 0)) rfl (F - 1) 0 (by omega) (by omega)
        rw [e0, show F - 1 + 1 = F by omega] at n2
        simp only [Int.natCast_zero] at n2
        rw [n2]
        simp only [Option.bind_some]
        have hr' : rise ((dec s q).1 ++ [(q : Int)]) s.2.2.2.1.length = true := riseG_snoc ((dec_rise s q).2 _ (by omega)) (fun y hy => ((dec_rise s q).1 y hy).2) (by omega) (by omega)
        have hf' : Sm ((dec s q).1 ++ [(q : Int)]) := by have := dec_len s q; show _ ≤ _; simp; omega
        have hgq : gq s ((dec s q).1 ++ [(q : Int)]) = 0 := by unfold gq; rw [if_pos h0, if_pos hr']
        obtain ⟨c, h4, h5⟩ := Broken_eq (F := F) hF h hf'
        rw [h4, if_pos hgq, if_neg (by omega)]
        simp only [Option.bind_some]
        have := (h5 hgq (by omega)).2
        rw [if_pos (by simp), if_pos (by simp), CheckChain_eq hF h hf', this]
        simp
end
end Go.Proofs.Ytdimoehnkagghaa
