/-
  RightLess. Condition: there are enough rounds, and the layer works on its own book.
-/
import Derived.Test.YtdimoehnkagghaaSpecM
import Derived.Test.YtdimoehnkagghaaPureG
namespace Go.Proofs.Ytdimoehnkagghaa
open Go Go.Md Go.RowKit
section
variable {F : Nat} {s : TBook} {f : List Int}
theorem Hd.book {b : TBook} (h1 : ∀ x ∈ s.2.1, x ∈ b.2.1) (h2 : ∀ r ∈ s.2.2.1, r ∈ b.2.2.1) (h3 : b.2.2.2.1 = s.2.2.2.1) {x : Int} (h : Hd s f x) : Hd b f x := by
  induction h with
  | held hx => exact .held (h1 _ hx)
  | rule hr _ ih => exact .rule (h2 _ hr) ih
  | give hi hr _ ih => exact .give hi (by rw [h3]; exact hr) ih
theorem tb_mono {b : TBook} {g : List Int} (ht : b.2.2.2.2 = s.2.2.2.2) (h : ∀ x, Hd s f x → Hd b g x) (hb : tb b g < 0) : tb s f < 0 := by
  rw [tb_neg] at hb ⊢
  intro t hm
  have := hb t (by rw [ht]; exact hm)
  rw [← Bool.not_eq_true, List.all_eq_true] at this ⊢
  exact fun h2 => this fun x hx => hd_iff.2 (h x (hd_iff.1 (h2 x hx)))
theorem less1 (hF : 2000000000 < F) (hs : Sound s) {q : Nat} {M : Nat} (hM : ∀ i : Nat, M.testBit i = (decide (i = q) || decide ((i : Int) ∈ s.2.1))) : ∀ m (k : Nat), k ≤ s.1.toNat → s.1.toNat - k < m →
    law10_RightLess_l1 F s (q : Int) m (k : Int) (s.1, lst M k, s.2.2.1, s.2.2.2.1, s.2.2.2.2) = some (s.1, lst M s.1.toNat, s.2.2.1, s.2.2.2.1, s.2.2.2.2)
  | 0, k, _, h => by omega
  | m + 1, k, hk, h => by
    have n1 := hs.n1
    have n2 := hs.n2
    have hl := lst_len M k
    simp only [law10_RightLess_l1]
    by_cases hlt : k < s.1.toNat
    · rw [if_pos (by simp only [decide_eq_true_eq]; omega), in_eq (by omega) (hs.smr hs.held), w64_succ (by omega)]
      have e := less1 hF hs hM m (k + 1) (by omega) (by omega)
      rw [lst_succ, hM] at e
      rw [app_some (by simp; omega)]
      by_cases hq : k = q
      · subst hq
        simpa [gd] using e
      · have hq' : ¬ (k : Int) = (q : Int) := by omega
        by_cases hm : (k : Int) ∈ s.2.1
        · simpa [gd, hq, hq', hm] using e
        · simpa [gd, hq, hq', hm] using e
    · have : k = s.1.toNat := by omega
      subst this
      rw [if_neg (by simp only [decide_eq_true_eq]; omega)]
structure Wider (s b : TBook) : Prop where
  held : ∀ x ∈ s.2.1, x ∈ b.2.1
  rules : ∀ r ∈ s.2.2.1, r ∈ b.2.2.1
  given : b.2.2.2.1 = s.2.2.2.1
  taboos : b.2.2.2.2 = s.2.2.2.2
theorem less2 (hF : 2000000000 < F) (hfit : Fit s) (h0 : cb s = 0) (hf : Sm f) (hr : rise f s.2.2.2.1.length = true) {x10 : List Int × Int} (hS : Sm x10.1) (hx : ∀ x, x ∈ x10.1 ↔ Hd s f x) {y5 z1 : TBook}
    (w1 : Wider s (z1.1, z1.2.1, s.2.2.1, s.2.2.2.1, s.2.2.2.2)) (w2 : Wider s (y5.1, s.2.1, y5.2.2.1, s.2.2.2.1, s.2.2.2.2)) : ∀ m (k : Nat), k ≤ 2 → 2 - k < m → law10_RightLess_l2 F s f x10 y5 z1 m (k : Int) = some (.inr ())
  | 0, k, _, h => by omega
  | m + 1, k, hk, h => by
    simp only [law10_RightLess_l2]
    by_cases hlt : k < 2
    · have hb : ∃ b, ix ([(z1.1, z1.2.1, s.2.2.1, s.2.2.2.1, s.2.2.2.2), (y5.1, s.2.1, y5.2.2.1, s.2.2.2.1, s.2.2.2.2)] : List TBook) (k : Int) = some b ∧ Wider s b := by
        have : k = 0 ∨ k = 1 := by omega
        rcases this with rfl | rfl
        · exact ⟨_, rfl, w1⟩
        · exact ⟨_, rfl, w2⟩
      obtain ⟨b, hb, w⟩ := hb
      rw [if_pos (by simp only [decide_eq_true_eq]; omega), hb, w64_succ (by omega)]
      simp only [Option.bind_eq_bind, Option.bind_some]
      obtain ⟨c, e1, e2⟩ := fine_eq (F := F) (s := b) hF
      rw [show (b.1, b.2.1, b.2.2.1, b.2.2.2.1, b.2.2.2.2) = b from rfl, e1]
      simp only [Option.bind_some]
      have nxt := less2 hF hfit h0 hf hr hS hx w1 w2 m (k + 1) (by omega) (by omega)
      cases c with
      | false => rw [if_pos (by rfl)]; exact nxt
      | true =>
        rw [if_neg (by simp)]
        obtain ⟨hfb, hb0⟩ := e2 rfl
        have hq : gq b f = 0 := by unfold gq; rw [if_pos hb0, w.given, if_pos hr]
        have hqs : gq s f = 0 := by unfold gq; rw [if_pos h0, if_pos hr]
        obtain ⟨M, h6, _, _, h9, h10⟩ := holds_val (F := F) hF hfb hf hq
        rw [h6]
        simp only [Option.bind_some]
        rw [if_neg (by simp), there_eq (by omega) h10 hS, allIn_iff.2 fun x hx' => (h9 x).2 (Hd.book w.held w.rules w.given ((hx x).1 hx'))]
        simp only [Option.bind_some]
        rw [if_neg (by simp), check_eq hF hfb hf]
        simp only [Option.bind_some]
        rw [show right_Check F (s.1, s.2.1, s.2.2.1, s.2.2.2.1, s.2.2.2.2) f = some (ck s f) from check_eq hF hfit hf]
        simp only [Option.bind_some]
        by_cases hc : ck b f = 0
        · have hcs : ck s f = 0 := by
            unfold ck at hc ⊢
            rw [if_pos hq] at hc
            rw [if_pos hqs]
            split at hc
            · rename_i ht
              rw [if_pos (tb_mono w.taboos (fun x hx => Hd.book w.held w.rules w.given hx) ht)]
            · cases hc
          rw [if_pos (by simpa using hc), hcs]
          exact nxt
        · rw [if_neg (by simpa using hc)]
          exact nxt
    · have : k = 2 := by omega
      subst this
      rw [if_neg (by decide)]
theorem less_law (hF : 2000000000 < F) (hW : law10_Works F = some true) {x1 x2 x3 : Int} {x4 : List Int × Int} (h1 : (Lit.int .u16 x1).wf = true) (h2 : (Lit.int .u16 x2).wf = true) (h3 : (Lit.int .u8 x3).wf = true) : law10_RightLess F s x1 x2 x3 x4 = some true := by
  unfold law10_RightLess
  obtain ⟨b, e1, e2⟩ := fine_eq (F := F) (s := s) hF
  rw [show (s.1, s.2.1, s.2.2.1, s.2.2.2.1, s.2.2.2.2) = s from rfl, e1, hW]
  simp only [Option.bind_eq_bind, Option.bind_some]
  by_cases hc : (!b) = true
  · rw [if_pos hc]
  · rw [if_neg hc]
    obtain ⟨h, h0⟩ := e2 (by simpa using hc)
    obtain ⟨hs, _, _⟩ := cb_zero h0
    have n1 := hs.n1
    have n2 := hs.n2
    have v1 := wf_u16 h1
    have v2 := wf_u16 h2
    have v3 := wf_u8 h3
    have eb : band .u16 x1 x2 = ((x1.toNat &&& x2.toNat : Nat) : Int) := by
      have := band16 (a := x1.toNat) (b := x2.toNat) (by omega) (by omega)
      rwa [show ((x1.toNat : Nat) : Int) = x1 by omega, show ((x2.toNat : Nat) : Int) = x2 by omega] at this
    have vb : x1.toNat &&& x2.toNat ≤ x1.toNat := Nat.and_le_left
    obtain ⟨g1, r1, f1⟩ := Granted_eq (F := F) hF hs v1
    obtain ⟨g2, r2, f2⟩ := Granted_eq (F := F) (s := s) hF hs (x := band .u16 x1 x2) (by rw [eb]; omega)
    have sub : ∀ x ∈ lst (band .u16 x1 x2).toNat s.2.2.2.1.length, x ∈ lst x1.toNat s.2.2.2.1.length := fun x hx => by
      rw [lst_mem] at hx ⊢
      obtain ⟨i, rfl, hi, ht⟩ := hx
      refine ⟨i, rfl, hi, ?_⟩
      rw [eb, Int.toNat_natCast, Nat.testBit_and, Bool.and_eq_true] at ht
      exact ht.1
    rw [g1, g2]
    simp only [Option.bind_some]
    generalize lst x1.toNat s.2.2.2.1.length = f at g1 r1 f1 sub
    generalize lst (band .u16 x1 x2).toNat s.2.2.2.1.length = g at g2 r2 f2 sub
    have q1 : gq s f = 0 := by unfold gq; rw [if_pos h0, if_pos r1]
    have q2 : gq s g = 0 := by unfold gq; rw [if_pos h0, if_pos r2]
    obtain ⟨M, a1, _, _, a4, a5⟩ := holds_val (F := F) hF h f1 q1
    obtain ⟨N, b1, _, _, b4, b5⟩ := holds_val (F := F) hF h f2 q2
    rw [a1, b1]
    simp only [Option.bind_some]
    rw [there_eq (by omega) a5 b5, allIn_iff.2 fun x hx => (a4 x).2 (Hd.mono sub ((b4 x).1 hx)), check_eq hF h f1, check_eq hF h f2]
    have hck : ck s f = 0 → ck s g = 0 := fun hc => by
      unfold ck at hc ⊢
      rw [if_pos q1] at hc
      rw [if_pos q2]
      split at hc
      · rename_i ht
        rw [if_pos (tb_mono rfl (fun x hx => Hd.mono sub hx) ht)]
      · cases hc
    have hcond : ∀ {α : Type} (A B : Option α), ((gd (!((!decide ((0 : Int) = 0)) || (!decide ((0 : Int) = 0)))) (some true) false).bind fun x12 => (gd (!(((!decide ((0 : Int) = 0)) || (!decide ((0 : Int) = 0))) || (!x12))) (some (ck s f)) 0).bind fun x13 =>
        (gd ((!(((!decide ((0 : Int) = 0)) || (!decide ((0 : Int) = 0))) || (!x12))) && (decide (x13 = 0))) (some (ck s g)) 0).bind fun x14 =>
        if ((((!decide ((0 : Int) = 0)) || (!decide ((0 : Int) = 0))) || (!x12)) || ((decide (x13 = 0)) && (!decide (x14 = 0)))) = true then A else B) = B := fun A B => by
      by_cases hc : ck s f = 0
      · simp [gd, hc, hck hc]
      · simp [gd, hc]
    refine Eq.trans (hcond _ _) ?_
    have e5 : w64 x3 = ((x3.toNat : Nat) : Int) := by rw [w64_in (by omega)]; omega
    have en : s.1 = ((s.1.toNat : Nat) : Int) := by omega
    have hqn : x3.toNat % s.1.toNat < s.1.toNat := Nat.mod_lt _ (by omega)
    have e6 : rem (w64 x3) s.1 = some ((x3.toNat % s.1.toNat : Nat) : Int) := by
      rw [e5]
      have := rem_nat (a := x3.toNat) (b := s.1.toNat) (by omega)
      rwa [← en] at this
    rw [e6]
    simp only [Option.bind_some]
    generalize x3.toNat % s.1.toNat = q at hqn
    have l1 := less1 (F := F) hF hs (q := q) (M := 2 ^ q ||| bitsI s.2.1) (fun i => by
      rw [Nat.testBit_or, tb_pow, (bits_held hs).2]
      congr 1
      exact decide_eq_decide.2 ⟨Eq.symm, Eq.symm⟩) F 0 (by omega) (by omega)
    have e0 : lst (2 ^ q ||| bitsI s.2.1) 0 = [] := rfl
    rw [e0] at l1
    simp only [Int.natCast_zero] at l1
    rw [l1]
    simp only [Option.bind_some]
    have hrl := hs.rules
    rw [app_some (by simp; omega), List.nil_append]
    simp only [Option.bind_some]
    rw [app_some (by simp; omega)]
    simp only [Option.bind_some]
    have l2 := less2 (F := F) hF h h0 f1 r1 (x10 := (lst M s.1.toNat, 0)) a5 a4 (y5 := (s.1, s.2.1, s.2.2.1 ++ [(x4.1, x4.2)], s.2.2.2.1, s.2.2.2.2)) (z1 := (s.1, lst (2 ^ q ||| bitsI s.2.1) s.1.toNat, s.2.2.1, s.2.2.2.1, s.2.2.2.2))
      ⟨fun x hx => by
        have hm := rise_mem hs.held x hx
        show x ∈ lst _ _
        rw [lst_mem]
        refine ⟨x.toNat, by omega, by omega, ?_⟩
        rw [Nat.testBit_or, (bits_held hs).2, show ((x.toNat : Nat) : Int) = x by omega]
        simp [hx], fun r hr => hr, rfl, rfl⟩
      ⟨fun x hx => hx, fun r hr => List.mem_append.2 (.inl hr), rfl, rfl⟩ F 0 (by omega) (by omega)
    simp only [Int.natCast_zero] at l2
    rw [l2]
    rfl
end
end Go.Proofs.Ytdimoehnkagghaa
