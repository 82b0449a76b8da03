/-
  Books held up, what they hold, and grants decided one by one. Condition: there are enough rounds, and the layer works on its own book.
-/
import Derived.Test.YtdimoehnkagghaaSpecE
namespace Go.Proofs.Ytdimoehnkagghaa
open Go Go.Md Go.RowKit

theorem great_eq {F : Nat} {s : TBook} (hF : 1000000 < F) : ∃ b, law10_great F s = some b ∧ (b = false → Fit s) := by
  unfold law10_great
  by_cases h0 : (((decide (40 < (s.2.1.length : Int)) || decide (50 < (s.2.2.1.length : Int))) || decide (20 < (s.2.2.2.1.length : Int))) || decide (20 < (s.2.2.2.2.length : Int))) = true
  · rw [h0]
    exact ⟨true, rfl, fun h => by cases h⟩
  · rw [Bool.not_eq_true] at h0
    rw [h0]
    simp only [Bool.or_eq_false_iff, decide_eq_false_iff_not] at h0
    have hl : s.2.2.2.2.length ≤ 1000000 := by omega
    rw [long_eq hF (show _ ≤ _ by omega), long_eq hF (show _ ≤ _ by omega)]
    cases h1 : s.2.2.1.any fun r => decide (12 < (r.1.length : Int))
    · cases h2 : s.2.2.2.1.any fun r => decide (12 < (r.1.length : Int))
      · have := any_loop0 (l := s.2.2.2.2) (L := fun m k => law10_great_l1 F s m (k : Int)) (p := fun t => decide (12 < (t.length : Int))) (c := true) (fun m => by
          simp only [law10_great_l1]; rw [if_neg nltd]) (fun m k h => by
          simp only [law10_great_l1]
          rw [if_pos (ltd h), ix_nat h, w64_succ (by omega)]
          rfl) (m := F) (by omega)
        simp only [Int.natCast_zero] at this
        simp only [Bool.not_false, Bool.or_false, gd, cond_true, Option.bind_eq_bind, Option.bind_some, Bool.false_eq_true, if_false]
        rw [this]
        cases h3 : s.2.2.2.2.any fun t => decide (12 < (t.length : Int))
        · refine ⟨false, rfl, fun _ => ?_⟩
          rw [List.any_eq_false] at h1 h2 h3
          exact ⟨show _ ≤ _ by omega, show _ ≤ _ by omega, show _ ≤ _ by omega, show _ ≤ _ by omega,
            fun r hr => by have := h1 r hr; rw [decide_eq_true_eq] at this; show _ ≤ _; omega,
            fun r hr => by have := h2 r hr; rw [decide_eq_true_eq] at this; show _ ≤ _; omega,
            fun t ht => by have := h3 t ht; rw [decide_eq_true_eq] at this; show _ ≤ _; omega⟩
        · exact ⟨true, rfl, fun h => by cases h⟩
      · exact ⟨true, rfl, fun h => by cases h⟩
    · exact ⟨true, rfl, fun h => by cases h⟩

/-- What a book is blamed for, or the grants. -/
noncomputable def gq (s : TBook) (f : List Int) : Int := if cb s = 0 then (if rise f s.2.2.2.1.length = true then 0 else 3) else cb s
theorem gq_zero {s : TBook} {f : List Int} (h : gq s f = 0) : cb s = 0 ∧ rise f s.2.2.2.1.length = true := by
  unfold gq at h
  split at h
  · rename_i h0
    split at h
    · exact ⟨h0, by assumption⟩
    · cases h
  · exact absurd h (by assumption)
theorem rise_in {s : TBook} {f : List Int} (h : rise f s.2.2.2.1.length = true) : InG s f := rise_mem h
theorem inG_small {s : TBook} {f : List Int} (hs : Sound s) (h : InG s f) : Small f := fun x hx => by have := h x hx; have := hs.given; omega
section
variable {F : Nat} {s : TBook} {f : List Int}
theorem granted_eq (hF : 2000000000 < F) (h : Fit s) (hf : Sm f) : ref10_IsGranted F s f = some (gq s f) := by
  unfold ref10_IsGranted gq
  show ((ref10_CheckBook F s) >>= fun x3 => if (!decide (x3 = 0)) = true then (ref10_CheckBook F s) >>= fun x4 => some x4 else _) = _
  rw [Book_cb (by omega) h, Rising_eq (by omega) hf]
  simp only [Option.bind_eq_bind, Option.bind_some]
  by_cases h0 : cb s = 0
  · rw [if_neg (by simp [h0]), if_pos h0]
    cases rise f (s.2.2.2.1.length : Int) <;> rfl
  · rw [if_pos (by simp [h0]), if_neg h0]
theorem open_eq (hF : 2000000000 < F) (h : Fit s) (hf : Sm f) : right_open F s f = some (if gq s f = 0 then (⟨some (treaty s)⟩, ((bitsI f : Nat) : Int), 0) else (⟨none⟩, 0, gq s f)) := by
  unfold right_open gq
  show ((right_newTreaty F s) >>= fun x3 => _) = _
  rw [newTreaty_eq hF h]
  simp only [Option.bind_eq_bind, Option.bind_some]
  by_cases h0 : cb s = 0
  · simp only [if_pos h0]
    rw [if_neg (by simp), rising_eq (by omega) hf]
    simp only [Option.bind_some]
    cases hr : rise f (s.2.2.2.1.length : Int)
    · rfl
    · rw [together_eq (by omega) hf (inG_small (cb_zero h0).1 (rise_in hr))]
      rfl
  · simp only [if_neg h0]
    rw [if_pos (by simp [h0])]
noncomputable def ck (s : TBook) (f : List Int) : Int := if gq s f = 0 then (if tb s f < 0 then 0 else 23) else gq s f
theorem Check_eq (hF : 2000000000 < F) (h : Fit s) (hf : Sm f) : ref10_Check F s f = some (ck s f) := by
  unfold ref10_Check ck
  show ((ref10_IsGranted F s f) >>= fun x3 => if (!decide (x3 = 0)) = true then (ref10_IsGranted F s f) >>= fun x4 => some x4 else (ref10_Taboo F s f) >>= fun x5 => _) = _
  rw [granted_eq hF h hf]
  simp only [Option.bind_eq_bind, Option.bind_some]
  by_cases h0 : gq s f = 0
  · have h1 := gq_zero h0
    rw [if_neg (by simp [h0]), if_pos h0, Taboo_eq (by omega) (cb_zero h1.1).1 (rise_in h1.2) hf]
    simp only [Option.bind_some]
    by_cases h2 : tb s f < 0
    · rw [if_neg (by simp; omega), if_pos h2]
    · rw [if_pos (by simp; omega), if_neg h2]
  · rw [if_pos (by simp [h0]), if_neg h0]
theorem check_eq (hF : 2000000000 < F) (h : Fit s) (hf : Sm f) : right_Check F s f = some (ck s f) := by
  unfold right_Check ck
  show ((right_open F s f) >>= fun x3 => _) = _
  rw [open_eq hF h hf]
  simp only [Option.bind_eq_bind, Option.bind_some]
  by_cases h0 : gq s f = 0
  · have h1 := gq_zero h0
    have hs := (cb_zero h1.1).1
    simp only [if_pos h0]
    rw [if_neg (by simp)]
    simp only [Option.bind_some]
    have e : right_treaty_safe F (((treaty s).1.1, (treaty s).1.2.1, (treaty s).1.2.2.1, (treaty s).1.2.2.2.1, (treaty s).1.2.2.2.2), (treaty s).2.1, (treaty s).2.2.1, (treaty s).2.2.2) (bitsI f : Nat) = some (decide (tb s f < 0)) := safe_eq hF hs (rise_in h1.2) (inG_small hs (rise_in h1.2))
    rw [e]
    simp only [Option.bind_some]
    by_cases h2 : tb s f < 0
    · simp [h2]
    · simp [h2]
  · simp only [if_neg h0]
    rw [if_pos (by simp [h0])]
theorem Hd.rg (hs : Sound s) {x : Int} (h : Hd s f x) : 0 ≤ x ∧ x < s.1 := by
  cases h with
  | held hx => exact rise_mem hs.held _ hx
  | rule hr _ => exact (hs.rule _ hr).2
  | give _ hr _ => exact (hs.give _ (List.mem_of_getElem? hr)).2
theorem lst_more {M a : Nat} (h : ∀ j, a ≤ j → M.testBit j = false) : ∀ d, lst M (a + d) = lst M a
  | 0 => rfl
  | d + 1 => by rw [← Nat.add_assoc, lst_succ, h _ (by omega), if_neg (by simp), lst_more h d]
theorem Holds_loop (hF : 2000000000 < F) (hs : Sound s) {l : List Int} (hl : Sm l) {M : Nat} (hM : ∀ i : Nat, M.testBit i = decide ((i : Int) ∈ l)) : ∀ m k, k ≤ s.1.toNat → s.1.toNat - k < m → ref10_Holds_l1 F s l m (lst M k) (k : Int) = some (lst M s.1.toNat)
  | 0, k, _, h => by omega
  | m + 1, k, hk, h => by
    have h1 := hs.n1
    have h2 := hs.n2
    simp only [ref10_Holds_l1]
    by_cases hlt : k < s.1.toNat
    · rw [if_pos (by simp only [decide_eq_true_eq]; omega), in_eq (by omega) hl, w64_succ (by omega), ← hM]
      simp only [Option.bind_eq_bind, Option.bind_some]
      have := lst_len M k
      rw [app_some (by simp; omega)]
      have e := Holds_loop hF hs hl hM m (k + 1) (by omega) (by omega)
      rw [lst_succ] at e
      cases hb : M.testBit k <;> simpa [hb] using e
    · have : k = s.1.toNat := by omega
      subst this
      rw [if_neg (by simp only [decide_eq_true_eq]; omega)]
theorem holds_both (hF : 2000000000 < F) (h : Fit s) (hf : Sm f) : ∃ r, right_Holds F s f = some r ∧ ref10_Holds F s f = some r ∧ Sm r.1 := by
  unfold right_Holds ref10_Holds
  show ∃ r, ((right_open F s f) >>= fun x3 => _) = _ ∧ ((ref10_IsGranted F s f) >>= fun x3 => if (!decide (x3 = 0)) = true then (ref10_IsGranted F s f) >>= fun x4 => some ([], x4) else (ref10_Closed F s f) >>= fun x5 => _) = _ ∧ _
  rw [open_eq hF h hf, granted_eq hF h hf]
  simp only [Option.bind_eq_bind, Option.bind_some]
  by_cases h0 : gq s f = 0
  · have h1 := gq_zero h0
    have hs := (cb_zero h1.1).1
    have hg := rise_in h1.2
    simp only [if_pos h0]
    rw [if_neg (by simp), if_neg (by simp [h0])]
    simp only [Option.bind_some]
    obtain ⟨M, h2, h3, h4⟩ := holds_eq hF hs hg (inG_small hs hg)
    have e : right_treaty_holds F (((treaty s).1.1, (treaty s).1.2.1, (treaty s).1.2.2.1, (treaty s).1.2.2.2.1, (treaty s).1.2.2.2.2), (treaty s).2.1, (treaty s).2.2.1, (treaty s).2.2.2) (bitsI f : Nat) = some (M : Int) := h2
    rw [e]
    simp only [Option.bind_some]
    rw [numbers_eq (by omega) (b30 h3)]
    obtain ⟨l, h5, h6, h7⟩ := Closed_eq (F := F) (by omega) hs hg hf
    rw [h5]
    simp only [Option.bind_some]
    have hl : Sm l := by have := h6.len hs; show _ ≤ _; omega
    have h8 := Holds_loop hF hs hl (M := M) (fun i => by rw [Bool.eq_iff_iff, h4, decide_eq_true_eq, h7]) F 0 (by omega) (by have := hs.n2; omega)
    have e0 : lst M 0 = [] := rfl
    rw [e0] at h8
    simp only [Int.natCast_zero] at h8
    rw [h8]
    have e1 : lst M 62 = lst M s.1.toNat := by
      have := hs.n2
      have h9 := lst_more (M := M) (a := s.1.toNat) (fun j hj => by
        rw [← Bool.not_eq_true, h4]
        intro h10
        have := h10.rg hs
        omega) (62 - s.1.toNat)
      rwa [show s.1.toNat + (62 - s.1.toNat) = 62 by omega] at h9
    rw [e1]
    refine ⟨_, rfl, rfl, ?_⟩
    have := lst_len M s.1.toNat
    have := hs.n2
    show _ ≤ _
    simp only
    omega
  · simp only [if_neg h0]
    rw [if_pos (by simp [h0]), if_pos (by simp [h0])]
    exact ⟨_, rfl, rfl, by show _ ≤ _; simp⟩
theorem books_law (hF : 2000000000 < F) (hW : law10_Works F = some true) : law10_RightBooks F s f = some true := by
  unfold law10_RightBooks
  obtain ⟨b, h1, h2⟩ := great_eq (F := F) (s := s) (by omega)
  show ((law10_great F s) >>= fun x3 => if (x3 || decide (20 < (f.length : Int))) = true then (law10_Works F) >>= fun x4 => some x4 else (right_Holds F s f) >>= fun x5 => (ref10_Holds F s f) >>= fun x6 => (right_CheckBook F s) >>= fun x7 => (ref10_CheckBook F s) >>= fun x8 =>
    (gd (decide (x7 = x8)) (law10_ints F x5.1 x6.1) false) >>= fun x9 => (gd (((decide (x7 = x8)) && x9) && (decide (x5.2 = x6.2))) (right_Check F s f) 0) >>= fun x10 => (gd (((decide (x7 = x8)) && x9) && (decide (x5.2 = x6.2))) (ref10_Check F s f) 0) >>= fun x11 => _) = _
  rw [h1, hW]
  simp only [Option.bind_eq_bind, Option.bind_some]
  by_cases hc : (b || decide (20 < (f.length : Int))) = true
  · rw [if_pos hc]
  · rw [if_neg hc]
    rw [Bool.not_eq_true, Bool.or_eq_false_iff, decide_eq_false_iff_not] at hc
    have h := h2 hc.1
    have hf : Sm f := by show _ ≤ _; omega
    obtain ⟨r, h3, h4, h5⟩ := holds_both hF h hf
    have h6 : right_CheckBook F s = some (cb s) := by
      unfold right_CheckBook
      show ((right_newTreaty F s) >>= fun x2 => some x2.2) = _
      rw [newTreaty_eq hF h]
      by_cases h0 : cb s = 0
      · simp [h0]
      · simp [h0]
    rw [h3, h4, h6, Book_cb (by omega) h, check_eq hF h hf, Check_eq hF h hf]
    simp only [Option.bind_some, decide_true]
    rw [ints_same (by omega) h5]
    simp [gd]

/-! ### Grants decided one by one -/
theorem bitsI_snoc (g : List Int) (k : Nat) : bitsI (g ++ [(k : Int)]) = bitsI g ||| 2 ^ k := by
  unfold bitsI bitsN
  rw [List.map_append, List.foldl_append]
  simp
theorem decide_both (hF : 2000000000 < F) (hs : Sound s) {x2 : Ob TTreaty × Int} (hx : x2.1.v = some (treaty s)) : ∀ m (k : Nat) (g y : List Int), InG s g → g.length ≤ k → y.length ≤ k → k ≤ s.2.2.2.1.length → s.2.2.2.1.length - k < m →
    ∃ r, right_Decide_l1 F s x2 m (bitsI g : Nat) y (k : Int) = some r ∧ ref10_Decide_l1 F s m g y (k : Int) = some r ∧ Sm r
  | 0, k, _, _, _, _, _, _, h => by omega
  | m + 1, k, g, y, hg, hgl, hy, hk, h => by
    have hn := hs.given
    simp only [right_Decide_l1, ref10_Decide_l1]
    by_cases hlt : k < s.2.2.2.1.length
    · have hg' : InG s (g ++ [(k : Int)]) := fun x hx => by
        rcases List.mem_append.1 hx with hx | hx
        · exact hg x hx
        · rw [List.mem_singleton] at hx; omega
      have hsm' := inG_small hs hg'
      have e1 : bor .i64 ((bitsI g : Nat) : Int) ((2 ^ k : Nat) : Int) = ((bitsI (g ++ [(k : Int)]) : Nat) : Int) := by
        rw [bor_nat (bitsI62 (inG_small hs hg)) (pow62 (by omega)), bitsI_snoc]
      rw [if_pos (ltd hlt), if_pos (ltd hlt), shl1 (by omega), w64_succ (by omega), hx, app_some (by simp; omega), List.nil_append]
      simp only [Option.bind_eq_bind, Option.bind_some, e1]
      rw [app_some (by simp; omega)]
      simp only [Option.bind_some]
      have e2 : right_treaty_broken F (((treaty s).1.1, (treaty s).1.2.1, (treaty s).1.2.2.1, (treaty s).1.2.2.2.1, (treaty s).1.2.2.2.2), (treaty s).2.1, (treaty s).2.2.1, (treaty s).2.2.2) (bitsI (g ++ [(k : Int)]) : Nat) = some (tb s (g ++ [(k : Int)])) := broken_eq hF hs hg' hsm'
      have e3 : ref10_Taboo F (s.1, s.2.1, s.2.2.1, s.2.2.2.1, s.2.2.2.2) (g ++ [(k : Int)]) = some (tb s (g ++ [(k : Int)])) := Taboo_eq (by omega) hs hg' (by show _ ≤ _; simp; omega)
      rw [e2, e3]
      simp only [Option.bind_some]
      by_cases ht : tb s (g ++ [(k : Int)]) < 0
      · rw [if_pos (by simpa using ht), if_pos (by simpa using ht)]
        simp only [Option.bind_some]
        rw [app_some (by simp; omega)]
        exact decide_both hF hs hx m (k + 1) _ _ hg' (by simp; omega) (by simp; omega) (by omega) (by omega)
      · rw [if_neg (by simpa using ht), if_neg (by simpa using ht)]
        simp only [Option.bind_some]
        rw [app_some (by simp; omega)]
        exact decide_both hF hs hx m (k + 1) _ _ hg (by omega) (by simp; omega) (by omega) (by omega)
    · have : k = s.2.2.2.1.length := by omega
      subst this
      rw [if_neg nltd, if_neg nltd]
      exact ⟨y, rfl, rfl, by show _ ≤ _; omega⟩
theorem decides_law (hF : 2000000000 < F) (hW : law10_Works F = some true) : law10_RightDecides F s = some true := by
  unfold law10_RightDecides
  obtain ⟨b, h1, h2⟩ := great_eq (F := F) (s := s) (by omega)
  show ((law10_great F s) >>= fun x2 => if x2 = true then (law10_Works F) >>= fun x3 => some x3 else (right_Decide F s) >>= fun x4 => (ref10_Decide F s) >>= fun x5 => (law10_ints F x4.1 x5.1) >>= fun x6 => _) = _
  rw [h1, hW]
  simp only [Option.bind_eq_bind, Option.bind_some]
  cases b with
  | true => rfl
  | false =>
    have h := h2 rfl
    rw [if_neg (by simp)]
    have key : ∃ r : List Int × Int, right_Decide F s = some r ∧ ref10_Decide F s = some r ∧ Sm r.1 := by
      unfold right_Decide ref10_Decide
      show ∃ r, ((right_newTreaty F s) >>= fun x2 => _) = _ ∧ ((ref10_CheckBook F s) >>= fun x2 => if (!decide (x2 = 0)) = true then (ref10_CheckBook F s) >>= fun x3 => some ([], x3) else _) = _ ∧ _
      rw [newTreaty_eq hF h, Book_cb (by omega) h]
      simp only [Option.bind_eq_bind, Option.bind_some]
      by_cases h0 : cb s = 0
      · have hs := (cb_zero h0).1
        simp only [if_pos h0]
        rw [if_neg (by simp), if_neg (by simp [h0])]
        obtain ⟨r, h3, h4, h5⟩ := decide_both (F := F) hF hs (x2 := (⟨some (treaty s)⟩, 0)) rfl F 0 [] [] (fun x hx => by cases hx) (by simp) (by simp) (by omega) (by have := hs.given; omega)
        have e0 : ((bitsI [] : Nat) : Int) = 0 := rfl
        rw [e0] at h3
        simp only [Int.natCast_zero] at h3 h4
        rw [h3, h4]
        exact ⟨(r, 0), rfl, rfl, h5⟩
      · simp only [if_neg h0]
        rw [if_pos (by simp [h0]), if_pos (by simp [h0])]
        exact ⟨_, rfl, rfl, by show _ ≤ _; simp⟩
    obtain ⟨r, h3, h4, h5⟩ := key
    rw [h3, h4]
    simp only [Option.bind_some]
    rw [ints_same (by omega) h5]
    simp [gd]
end
end Go.Proofs.Ytdimoehnkagghaa
