/-
  RightChains. Condition: there are enough rounds, and the layer works on its own book.
-/
import Derived.Test.YtdimoehnkagghaaSpecI
namespace Go.Proofs.Ytdimoehnkagghaa
open Go Go.Md Go.RowKit
theorem tb_in {s : TBook} {f : List Int} (h : ¬ tb s f < 0) : ∃ t : Nat, tb s f = (t : Int) ∧ t < s.2.2.2.2.length ∧ ∀ x ∈ s.2.2.2.2.getD t [], Hd s f x := by
  unfold tb fst at h ⊢
  by_cases ha : (s.2.2.2.2.any fun t => t.all (hd s f)) = true
  · have hlt : (s.2.2.2.2.findIdx fun t => t.all (hd s f)) < s.2.2.2.2.length := List.findIdx_lt_length.2 (by simpa [List.any_eq_true] using ha)
    refine ⟨_, if_pos ha, hlt, fun x hx => ?_⟩
    have := List.findIdx_getElem (w := hlt)
    rw [List.getD_eq_getElem?_getD, List.getElem?_eq_getElem hlt] at hx
    exact hd_iff.1 (List.all_eq_true.1 this x hx)
  · rw [if_neg ha] at h
    omega
theorem cb_or (s : TBook) : cb s = 0 ∨ cb s = 21 ∨ cb s = 6 ∨ cb s = 2 := by
  unfold cb
  split
  · split <;> simp
  · unfold vd
    split
    · simp
    split
    · simp
    split
    · simp
    split
    · simp
    split <;> simp
theorem gq_or (s : TBook) (f : List Int) : gq s f = 0 ∨ gq s f = 21 ∨ gq s f = 6 ∨ gq s f = 2 ∨ gq s f = 3 := by
  unfold gq
  split
  · split <;> simp
  · have := cb_or s
    omega
section
variable {F : Nat} {s : TBook} {f : List Int}
theorem BrokenError_eq (hF : 2000000000 < F) (h : Fit s) (hf : Sm f) : ref10_BrokenError F s f = some (if gq s f = 0 then (if tb s f < 0 then 5 else 0) else gq s f) := by
  unfold ref10_BrokenError
  show ((ref10_Check F s f) >>= fun x3 => _) = _
  rw [Check_eq hF h hf]
  simp only [Option.bind_eq_bind, Option.bind_some]
  unfold ck
  have hq := gq_or s f
  by_cases h0 : gq s f = 0
  · simp only [if_pos h0]
    by_cases h1 : tb s f < 0
    · simp [h1]
    · simp [h1]
  · simp only [if_neg h0]
    rw [if_neg (by simpa using h0), if_neg (by rw [decide_eq_true_eq]; omega)]
theorem Broken_eq (hF : 2000000000 < F) (h : Fit s) (hf : Sm f) : ∃ l, right_Broken F s f = some (if gq s f = 0 then (if tb s f < 0 then (0, [], 5) else (tb s f, l, 0)) else (0, [], gq s f)) ∧ (gq s f = 0 → ¬ tb s f < 0 → l.length ≤ 30 ∧ ccv s f (tb s f) l = 0) := by
  unfold right_Broken
  show ∃ l, ((right_open F s f) >>= fun x3 => _) = _ ∧ _
  rw [open_eq hF h hf]
  simp only [Option.bind_eq_bind, Option.bind_some]
  by_cases h0 : gq s f = 0
  · have h1 := gq_zero h0
    have hs := (cb_zero h1.1).1
    have hg := rise_in h1.2
    have hsm := inG_small hs hg
    simp only [if_pos h0]
    have e0 : right_treaty_broken F (((treaty s).1.1, (treaty s).1.2.1, (treaty s).1.2.2.1, (treaty s).1.2.2.2.1, (treaty s).1.2.2.2.2), (treaty s).2.1, (treaty s).2.2.1, (treaty s).2.2.2) (bitsI f : Nat) = some (tb s f) := broken_eq hF hs hg hsm
    by_cases h2 : tb s f < 0
    · refine ⟨[], ?_, fun _ h => absurd h2 h⟩
      rw [if_neg (by simp)]
      simp only [Option.bind_some]
      rw [e0]
      simp only [Option.bind_some]
      rw [if_pos (by simpa using h2), if_pos h2]
    · obtain ⟨t, ht, hlt, hh⟩ := tb_in h2
      obtain ⟨l, hl, hl30, y, hr, hy⟩ := chain_eq (F := F) hF hs hg hlt hh
      refine ⟨l, ?_, fun _ _ => ⟨hl30, ?_⟩⟩
      · rw [if_neg (by simp)]
        simp only [Option.bind_some]
        rw [e0]
        simp only [Option.bind_some]
        have e1 : right_treaty_chain F (((treaty s).1.1, (treaty s).1.2.1, (treaty s).1.2.2.1, (treaty s).1.2.2.2.1, (treaty s).1.2.2.2.2), (treaty s).2.1, (treaty s).2.2.1, (treaty s).2.2.2) (bitsI f : Nat) (tb s f) = some l := by rw [ht]; exact hl
        rw [if_neg (by simpa using h2), if_neg h2, e1]
        simp only [Option.bind_some]
        have e2 : mks 16 (l.length : Int) ((false, (0 : Int))) = some (List.replicate l.length (false, 0)) := by
          unfold mks
          rw [if_pos (by omega), Int.toNat_natCast]
        rw [e2]
        simp only [Option.bind_some]
        unfold rcopy
        rw [List.length_replicate, List.take_length, List.drop_eq_nil_of_le (by simp), List.append_nil]
      · unfold ccv
        rw [if_pos h0, ht, if_neg (by simp; omega), if_neg (by omega), hr]
        simp only [Int.toNat_natCast]
        rw [if_pos hy]
  · refine ⟨[], ?_, fun h => absurd h h0⟩
    simp only [if_neg h0]
    rw [if_pos (by simpa using h0)]
theorem chains_law (hF : 2000000000 < F) (hW : law10_Works F = some true) {t : Int} {l : List (Bool × Int)} : law10_RightChains F s f t l = some true := by
  unfold law10_RightChains
  obtain ⟨b, h1, h2⟩ := great_eq (F := F) (s := s) (by omega)
  show ((law10_great F s) >>= fun x5 => if ((x5 || decide (20 < (f.length : Int))) || decide (100 < (l.length : Int))) = true then (law10_Works F) >>= fun x6 => some x6 else (right_Broken F s f) >>= fun x7 => (right_CheckChain F s f t l) >>= fun x8 => (ref10_CheckChain F s f t l) >>= fun x9 =>
    (gd (!(!decide (x8 = x9))) (ref10_BrokenError F s f) 0) >>= fun x10 => if ((!decide (x8 = x9)) || (!decide (x7.2.2 = x10))) = true then some false else if (!decide (x7.2.2 = 0)) = true then _ else
      (ref10_Taboo F s f) >>= fun x12 => (gd ((decide (x7.1 = x12)) && (decide ((x7.2.1.length : Int) ≤ 30))) (ref10_CheckChain F s f x7.1 x7.2.1) 0) >>= fun x13 => _) = _
  rw [h1, hW]
  simp only [Option.bind_eq_bind, Option.bind_some]
  by_cases hc : ((b || decide (20 < (f.length : Int))) || decide (100 < (l.length : Int))) = true
  · rw [if_pos hc]
  · rw [if_neg hc]
    rw [Bool.not_eq_true, Bool.or_eq_false_iff, Bool.or_eq_false_iff, decide_eq_false_iff_not, decide_eq_false_iff_not] at hc
    have h := h2 hc.1.1
    have hf : Sm f := by show _ ≤ _; omega
    obtain ⟨c, h3, h4⟩ := Broken_eq (F := F) hF h hf
    rw [h3, checkChain_eq hF h hf, CheckChain_eq hF h hf, BrokenError_eq hF h hf]
    simp only [Option.bind_some, decide_true, Bool.not_true, Bool.not_false, gd, cond_true, Bool.false_or]
    by_cases h0 : gq s f = 0
    · have hs := (cb_zero (gq_zero h0).1).1
      have hg := rise_in (gq_zero h0).2
      simp only [if_pos h0]
      by_cases h5 : tb s f < 0
      · simp [h5]
      · simp only [if_neg h5]
        obtain ⟨h6, h7⟩ := h4 h0 h5
        rw [if_neg (by simp), if_neg (by simp), Taboo_eq (by omega) hs hg hf]
        simp only [Option.bind_some]
        rw [CheckChain_eq hF h hf, h7]
        have : decide ((c.length : Int) ≤ 30) = true := by simp only [decide_eq_true_eq]; omega
        simp [this]
    · simp only [if_neg h0]
      rw [if_neg (by simp), if_pos (by simpa using h0)]
      simp
end
end Go.Proofs.Ytdimoehnkagghaa
