/-
  RightFewest. Condition: there are enough rounds, and the layer works on its own book.
-/
import Derived.Test.YtdimoehnkagghaaSpecP
import Derived.Test.YtdimoehnkagghaaPureE
namespace Go.Proofs.Ytdimoehnkagghaa
open Go Go.Md Go.RowKit
section
variable {F : Nat} {s : TBook} {f : List Int}
theorem comes_loop {a b : List Int} (hl : a.length = b.length) (hs : a.length ≤ 1000000) : ∀ m (k : Nat), k ≤ a.length → a.length - k < m → ∃ o : Sum Bool Unit, ref10_comes_l1 F a b m (k : Int) = some o ∧ (match o with | .inl r => r | .inr () => false) = lexLt (a.drop k) (b.drop k)
  | 0, k, _, h => by omega
  | m + 1, k, hk, h => by
    simp only [ref10_comes_l1]
    by_cases hlt : k < a.length
    · have hlt' : k < b.length := by omega
      rw [if_pos (ltd hlt), ix_nat hlt, ix_nat hlt', w64_succ (by omega), List.drop_eq_getElem_cons hlt, List.drop_eq_getElem_cons hlt']
      simp only [Option.bind_eq_bind, Option.bind_some]
      unfold lexLt
      by_cases he : a[k] = b[k]
      · rw [if_neg (by simp [he]), if_pos he]
        exact comes_loop hl hs m (k + 1) (by omega) (by omega)
      · rw [if_pos (by simp [he]), if_neg he]
        exact ⟨_, rfl, rfl⟩
    · have : k = a.length := by omega
      subst this
      rw [if_neg nltd, List.drop_length]
      exact ⟨_, rfl, by simp [lexLt]⟩
theorem comes_eq (hF : 2000000000 < F) {a b : List Int} (hl : a.length = b.length) (hs : Sm a) : ref10_comes F a b = some (lexLt a b) := by
  have hs' : a.length ≤ 1000000 := hs
  obtain ⟨o, h1, h2⟩ := comes_loop (F := F) hl hs F 0 (by omega) (by omega)
  simp only [Int.natCast_zero, List.drop_zero] at h1 h2
  unfold ref10_comes
  rw [h1, ← h2]
  cases o <;> rfl
theorem refFew_loop (hF : 2000000000 < F) (hs : Sound s) : ∀ m (N : Nat) (y : List Int), N ≤ 2 ^ s.2.2.2.1.length → 2 ^ s.2.2.2.1.length - N < m → tb s y < 0 → rise y s.2.2.2.1.length = true → (∀ M, M < N → tb s (lst M s.2.2.2.1.length) < 0 → ¬ Btr (lst M s.2.2.2.1.length) y) →
    ∃ z, ref10_Fewest_l1 F s m y (N : Int) = some z ∧ tb s z < 0 ∧ rise z s.2.2.2.1.length = true ∧ ∀ M, M < 2 ^ s.2.2.2.1.length → tb s (lst M s.2.2.2.1.length) < 0 → ¬ Btr (lst M s.2.2.2.1.length) z
  | 0, N, _, _, h, _, _, _ => by omega
  | m + 1, N, y, hN, h, h1, h2, h3 => by
    have hgl := hs.given
    have hp : 2 ^ s.2.2.2.1.length ≤ 2 ^ 12 := Nat.pow_le_pow_right (by decide) hgl
    have hp2 : (2 : Nat) ^ 12 = 4096 := by decide
    simp only [ref10_Fewest_l1]
    rw [shl1 (by omega)]
    simp only [Option.bind_eq_bind, Option.bind_some]
    by_cases hlt : N < 2 ^ s.2.2.2.1.length
    · have hN62 : B62 N := by show N < 4611686018427387904; omega
      rw [if_pos (ltd hlt), list_eq (by omega) hN62, w64_succ (by omega)]
      simp only [Option.bind_some]
      rw [lst_n hlt (by omega)]
      have hx := rise_lst N s.2.2.2.1.length (n := (s.2.2.2.1.length : Int)) (by omega)
      have hxl : Sm (lst N s.2.2.2.1.length) := by have := lst_len N s.2.2.2.1.length; show _ ≤ _; omega
      rw [show ref10_Taboo F (s.1, s.2.1, s.2.2.1, s.2.2.2.1, s.2.2.2.2) (lst N s.2.2.2.1.length) = some (tb s (lst N s.2.2.2.1.length)) from Taboo_eq (by omega) hs (rise_in hx) hxl]
      simp only [Option.bind_some]
      generalize hz : lst N s.2.2.2.1.length = x at hx hxl
      have key : (gd (((decide (tb s x < 0)) && !(decide ((y.length : Int) < (x.length : Int)))) && (decide ((x.length : Int) = (y.length : Int)))) (ref10_comes F x y) false).bind (fun x7 => (if ((decide (tb s x < 0)) && ((decide ((y.length : Int) < (x.length : Int))) || ((decide ((x.length : Int) = (y.length : Int))) && x7))) = true then some x else some y : Option (List Int))) = some (if tb s x < 0 ∧ Btr x y then x else y) := by
        by_cases c1 : tb s x < 0
        · by_cases c2 : y.length < x.length
          · have c2' : (y.length : Int) < (x.length : Int) := by omega
            have : Btr x y := .inl c2
            simp [gd, c1, c2, c2', this]
          · have c2' : ¬ (y.length : Int) < (x.length : Int) := by omega
            by_cases c3 : x.length = y.length
            · have c3' : (x.length : Int) = (y.length : Int) := by omega
              rw [comes_eq hF c3 hxl]
              by_cases c4 : lexLt x y = true
              · have : Btr x y := .inr ⟨c3, c4⟩
                simp [gd, c1, c3, c4, this]
              · rw [Bool.not_eq_true] at c4
                have : ¬ Btr x y := by rintro (h | ⟨_, h⟩) <;> simp_all
                simp [gd, c1, c3, c4, this]
            · have c3' : ¬ (x.length : Int) = (y.length : Int) := by omega
              have : ¬ Btr x y := by rintro (h | ⟨h, _⟩) <;> omega
              simp [gd, c1, c2', c3', this]
        · simp [gd, c1]
      have nxt : ∀ w, w = (if tb s x < 0 ∧ Btr x y then x else y) → ∃ z, ref10_Fewest_l1 F s m w ((N + 1 : Nat) : Int) = some z ∧ tb s z < 0 ∧ rise z s.2.2.2.1.length = true ∧ ∀ M, M < 2 ^ s.2.2.2.1.length → tb s (lst M s.2.2.2.1.length) < 0 → ¬ Btr (lst M s.2.2.2.1.length) z := fun w hw => by
        by_cases c : tb s x < 0 ∧ Btr x y
        · rw [if_pos c] at hw
          subst hw
          refine refFew_loop hF hs m (N + 1) _ (by omega) (by omega) c.1 hx fun M hM hsafe => ?_
          by_cases hMN : M = N
          · subst hMN
            rw [hz]
            rintro (h | ⟨_, h⟩)
            · omega
            · rw [lexLt_irrefl] at h; cases h
          · exact fun hb => h3 M (by omega) hsafe (hb.trans c.2)
        · rw [if_neg c] at hw
          subst hw
          refine refFew_loop hF hs m (N + 1) _ (by omega) (by omega) h1 h2 fun M hM hsafe => ?_
          by_cases hMN : M = N
          · subst hMN
            rw [hz] at hsafe ⊢
            exact fun hb => c ⟨hsafe, hb⟩
          · exact h3 M (by omega) hsafe
      obtain ⟨z, n1, n2⟩ := nxt _ rfl
      refine ⟨z, ?_, n2⟩
      rw [← n1]
      have bs : ∀ {α β γ : Type} (o : Option α) (g : α → Option β) (h : β → Option γ), (o.bind g).bind h = o.bind fun a => (g a).bind h := fun o g h => by cases o <;> rfl
      rw [← bs, key]
      rfl
    · have : N = 2 ^ s.2.2.2.1.length := by omega
      subst this
      rw [if_neg nltd]
      exact ⟨y, rfl, h1, h2, h3⟩
theorem Fewest_eq (hF : 2000000000 < F) (h : Fit s) : ref10_Fewest F s = some (if cb s = 0 then (fewR s s.2.2.2.1.length s.2.2.2.1.length, 0) else ([], cb s)) := by
  unfold ref10_Fewest
  show ((ref10_CheckBook F s) >>= fun x2 => if (!decide (x2 = 0)) = true then (ref10_CheckBook F s) >>= fun x3 => some ([], x3) else _) = _
  rw [Book_cb (by omega) h]
  simp only [Option.bind_eq_bind, Option.bind_some]
  by_cases h0 : cb s = 0
  · obtain ⟨hs, _, ht0⟩ := cb_zero h0
    have hgl := hs.given
    have hp : 2 ^ s.2.2.2.1.length ≤ 2 ^ 12 := Nat.pow_le_pow_right (by decide) hgl
    have hp2 : (2 : Nat) ^ 12 = 4096 := by decide
    rw [if_neg (by simp [h0]), if_pos h0]
    obtain ⟨z, h1, h2, h3, h4⟩ := refFew_loop (F := F) hF hs F 0 [] (Nat.zero_le _) (by omega) ht0 rfl (fun M hM => by omega)
    simp only [Int.natCast_zero] at h1
    rw [h1]
    have ht : Top s s.2.2.2.1.length z := ⟨h2, h3, fun l hl hsafe => by
      have e : lst (bitsI l) s.2.2.2.1.length = l := by rw [← lst_n (bits_lt hl (by omega)) (by omega), lst_bits hl (by omega)]
      have := h4 (bitsI l) (bits_lt hl (by omega))
      rw [e] at this
      exact this hsafe⟩
    rw [ht.uniq (fewR_Top ht0)]
    rfl
  · rw [if_pos (by simp [h0]), if_neg h0]
theorem fewest_eq (hF : 2000000000 < F) (h : Fit s) : right_Fewest F s = some (if cb s = 0 then (fewR s s.2.2.2.1.length s.2.2.2.1.length, 0) else ([], cb s)) := by
  by_cases h0 : cb s = 0
  · rw [few_eq hF h h0, if_pos h0]
  · unfold right_Fewest
    show ((right_newTreaty F s) >>= fun x2 => _) = _
    rw [newTreaty_eq hF h, if_neg h0]
    simp only [Option.bind_eq_bind, Option.bind_some]
    rw [if_pos (by simp [h0]), if_neg h0]
theorem fewest_law (hF : 2000000000 < F) (hW : law10_Works F = some true) : law10_RightFewest F s = some true := by
  unfold law10_RightFewest
  obtain ⟨b, h1, h2⟩ := great_eq (F := F) (s := s) (by omega)
  rw [show (s.1, s.2.1, s.2.2.1, s.2.2.2.1, s.2.2.2.2) = s from rfl, h1, hW]
  simp only [Option.bind_eq_bind, Option.bind_some]
  by_cases hc : (b || ((decide (7 < (s.2.2.2.1.length : Int))) && (decide ((s.2.2.2.1.length : Int) ≤ 12)))) = true
  · rw [if_pos hc]
  · rw [if_neg hc]
    rw [Bool.not_eq_true, Bool.or_eq_false_iff] at hc
    have h := h2 hc.1
    rw [fewest_eq hF h, Fewest_eq hF h]
    simp only [Option.bind_some]
    have hg : s.2.2.2.1.length ≤ 1000000 := h.given
    have hsm : Sm (if cb s = 0 then (fewR s s.2.2.2.1.length s.2.2.2.1.length, (0 : Int)) else ([], cb s)).1 := by
      split
      · have := fewR_len (s := s) (n := s.2.2.2.1.length) s.2.2.2.1.length
        show _ ≤ _
        simp only
        omega
      · show _ ≤ _; simp
    rw [ints_same (by omega) hsm]
    simp [gd]
end
end Go.Proofs.Ytdimoehnkagghaa
