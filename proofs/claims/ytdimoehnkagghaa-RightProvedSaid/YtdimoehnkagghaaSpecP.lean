/-
  RightOrdered. Condition: there are enough rounds, and the layer works on its own book.
-/
import Derived.Test.YtdimoehnkagghaaSpecO
import Derived.Test.YtdimoehnkagghaaPureG
namespace Go.Proofs.Ytdimoehnkagghaa
open Go Go.Md Go.RowKit
section
variable {F : Nat} {s : TBook} {f : List Int}
/-- The rules, turned by q. -/
def turned (l : List TRule) (q : Nat) (k : Nat) : List TRule := (List.range k).map fun i => l.getD ((i + q) % l.length) ([], 0)
theorem turned_succ (l : List TRule) (q k : Nat) : turned l q (k + 1) = turned l q k ++ [l.getD ((k + q) % l.length) ([], 0)] := by
  unfold turned
  rw [List.range_succ, List.map_append]
  rfl
theorem turned_mem {l : List TRule} {q : Nat} {r : TRule} : r ∈ turned l q l.length ↔ r ∈ l := by
  unfold turned
  rw [List.mem_map]
  constructor
  · rintro ⟨i, hi, rfl⟩
    rw [List.mem_range] at hi
    have : (i + q) % l.length < l.length := Nat.mod_lt _ (by omega)
    rw [List.getD_eq_getElem?_getD, List.getElem?_eq_getElem this]
    exact List.getElem_mem this
  · intro hr
    obtain ⟨j, hj, rfl⟩ := List.getElem_of_mem hr
    refine ⟨(j + l.length - q % l.length) % l.length, List.mem_range.2 (Nat.mod_lt _ (by omega)), ?_⟩
    have e : ((j + l.length - q % l.length) % l.length + q) % l.length = j := by
      have hq : q % l.length < l.length := Nat.mod_lt _ (by omega)
      rw [Nat.mod_add_mod]
      have h1 : j + l.length - q % l.length + q = j + l.length * (1 + q / l.length) := by
        have := Nat.div_add_mod q l.length
        rw [Nat.mul_add, Nat.mul_one]
        omega
      rw [h1, Nat.add_mul_mod_self_left, Nat.mod_eq_of_lt hj]
    rw [e, List.getD_eq_getElem?_getD, List.getElem?_eq_getElem hj]
    rfl
theorem ord1 (hF : 2000000000 < F) (hl : s.2.2.1.length ≤ 40) {x2 : Int} (hx : 0 ≤ x2 ∧ x2 ≤ 255) : ∀ m (k : Nat), k ≤ s.2.2.1.length → s.2.2.1.length - k < m →
    law10_RightOrdered_l1 F s x2 m (k : Int) (s.1, s.2.1, turned s.2.2.1 x2.toNat k, s.2.2.2.1, s.2.2.2.2) = some (s.1, s.2.1, turned s.2.2.1 x2.toNat s.2.2.1.length, s.2.2.2.1, s.2.2.2.2)
  | 0, k, _, h => by omega
  | m + 1, k, hk, h => by
    simp only [law10_RightOrdered_l1]
    by_cases hlt : k < s.2.2.1.length
    · have e1 : w64 ((k : Int) + w64 x2) = ((k + x2.toNat : Nat) : Int) := by rw [w64_in (n := x2) (by omega), w64_in (by omega)]; omega
      have hq : (k + x2.toNat) % s.2.2.1.length < s.2.2.1.length := Nat.mod_lt _ (by omega)
      rw [if_pos (ltd hlt), e1, rem_nat (by omega), w64_succ (by omega)]
      simp only [Option.bind_eq_bind, Option.bind_some]
      rw [ix_nat hq]
      simp only [Option.bind_some]
      have hlen : (turned s.2.2.1 x2.toNat k).length = k := by simp [turned]
      rw [app_some (by simp [hlen]; omega)]
      simp only [Option.bind_some]
      have e := ord1 hF hl hx m (k + 1) (by omega) (by omega)
      rw [turned_succ, List.getD_eq_getElem?_getD, List.getElem?_eq_getElem hq] at e
      exact e
    · have : k = s.2.2.1.length := by omega
      subst this
      rw [if_neg nltd]
/-- Two books from which the same follows. -/
structure Alike (s b : TBook) : Prop where
  n : b.1 = s.1
  given : b.2.2.2.1 = s.2.2.2.1
  taboos : b.2.2.2.2 = s.2.2.2.2
  hd : ∀ f x, Hd s f x ↔ Hd b f x
theorem Alike.tb {b : TBook} (h : Alike s b) (g : List Int) : Go.Proofs.Ytdimoehnkagghaa.tb b g = Go.Proofs.Ytdimoehnkagghaa.tb s g := by
  have e : Go.Proofs.Ytdimoehnkagghaa.hd b g = Go.Proofs.Ytdimoehnkagghaa.hd s g := by
    funext x
    rw [Bool.eq_iff_iff, hd_iff, hd_iff]
    exact (h.hd g x).symm
  unfold Go.Proofs.Ytdimoehnkagghaa.tb
  rw [h.taboos, e]
theorem Alike.dec {b : TBook} (h : Alike s b) : ∀ k, Go.Proofs.Ytdimoehnkagghaa.dec b k = Go.Proofs.Ytdimoehnkagghaa.dec s k
  | 0 => rfl
  | k + 1 => by rw [dec_succ, dec_succ, Alike.dec h k, h.tb]
theorem Alike.few {b : TBook} (h : Alike s b) : ∀ {n : Nat} k, fewR b n k = fewR s n k
  | n, 0 => rfl
  | n, k + 1 => by
    have e : safe b = safe s := by funext l; unfold safe; rw [h.tb]
    show (match (comb n (k + 1) 0).find? (safe b) with | some l => l | none => fewR b n k) = (match (comb n (k + 1) 0).find? (safe s) with | some l => l | none => fewR s n k)
    rw [e, Alike.few h k]
theorem ordered_law (hF : 2000000000 < F) (hW : law10_Works F = some true) {x1 x2 x3 x4 : Int} (h1 : (Lit.int .u16 x1).wf = true) (h2 : (Lit.int .u8 x2).wf = true) (h3 : (Lit.int .u8 x3).wf = true) (h4 : (Lit.int .u8 x4).wf = true) : law10_RightOrdered F s x1 x2 x3 x4 = some true := by
  unfold law10_RightOrdered
  obtain ⟨b, e1, e2⟩ := fine_eq (F := F) (s := s) hF
  rw [show (s.1, s.2.1, s.2.2.1, s.2.2.2.1, s.2.2.2.2) = s from rfl, e1, hW]
  simp only [Option.bind_eq_bind, Option.bind_some]
  by_cases hc : (!b) = true
  · rw [if_pos hc]
  · rw [if_neg hc]
    obtain ⟨h, h0⟩ := e2 (by simpa using hc)
    obtain ⟨hs, hv0, ht0⟩ := cb_zero h0
    have n1 := hs.n1
    have n2 := hs.n2
    have hrl := hs.rules
    have v3 := wf_u8 h3
    have v4 := wf_u8 h4
    have o1 := ord1 (F := F) hF hs.rules (wf_u8 h2) F 0 (by omega) (by omega)
    have e0 : turned s.2.2.1 x2.toNat 0 = [] := rfl
    rw [e0] at o1
    simp only [Int.natCast_zero] at o1
    rw [o1]
    simp only [Option.bind_some]
    have htl : (turned s.2.2.1 x2.toNat s.2.2.1.length).length = s.2.2.1.length := by simp [turned]
    have hmem : ∀ r, r ∈ turned s.2.2.1 x2.toNat s.2.2.1.length ↔ r ∈ s.2.2.1 := fun r => turned_mem
    generalize turned s.2.2.1 x2.toNat s.2.2.1.length = T at htl hmem
    -- the other book's rules
    have hbook : ∃ R : List TRule, (if (decide (0 < (s.2.1.length : Int)) && decide ((s.2.2.1.length : Int) < 40)) = true then (rem (w64 x3) (s.2.1.length : Int)).bind fun x11 => (ix s.2.1 x11).bind fun x12 => (rem (w64 x4) s.1).bind fun x13 =>
        (app 32 T [([x13], x12)]).bind fun x14 => some (s.1, s.2.1, x14, s.2.2.2.1, s.2.2.2.2) else some (s.1, s.2.1, T, s.2.2.2.1, s.2.2.2.2)) = some (s.1, s.2.1, R, s.2.2.2.1, s.2.2.2.2) ∧
        R.length ≤ 40 ∧ (∀ r ∈ s.2.2.1, r ∈ R) ∧ (∀ r ∈ R, (r ∈ s.2.2.1 ∨ (r.2 ∈ s.2.1 ∧ r.1.length = 1 ∧ rise r.1 s.1 = true))) := by
      by_cases hc : (decide (0 < (s.2.1.length : Int)) && decide ((s.2.2.1.length : Int) < 40)) = true
      · rw [if_pos hc]
        simp only [Bool.and_eq_true, decide_eq_true_eq] at hc
        have e3 : w64 x3 = ((x3.toNat : Nat) : Int) := by rw [w64_in (by omega)]; omega
        have e4 : w64 x4 = ((x4.toNat : Nat) : Int) := by rw [w64_in (by omega)]; omega
        have q3 : x3.toNat % s.2.1.length < s.2.1.length := Nat.mod_lt _ (by omega)
        have q4 : x4.toNat % s.1.toNat < s.1.toNat := Nat.mod_lt _ (by omega)
        have e6 : rem (w64 x4) s.1 = some ((x4.toNat % s.1.toNat : Nat) : Int) := by
          rw [e4]
          have := rem_nat (a := x4.toNat) (b := s.1.toNat) (by omega)
          rwa [show ((s.1.toNat : Nat) : Int) = s.1 by omega] at this
        generalize x4.toNat % s.1.toNat = q at q4 e6
        rw [e3, rem_nat (by omega)]
        simp only [Option.bind_some]
        rw [ix_nat q3]
        simp only [Option.bind_some]
        rw [e6]
        simp only [Option.bind_some]
        rw [app_some (by simp; omega)]
        refine ⟨_, rfl, by simp; omega, fun r hr => List.mem_append.2 (.inl ((hmem r).2 hr)), fun r hr => ?_⟩
        rcases List.mem_append.1 hr with hr | hr
        · exact .inl ((hmem r).1 hr)
        · rw [List.mem_singleton] at hr
          subst hr
          refine .inr ⟨List.getElem_mem q3, rfl, ?_⟩
          show riseG s.1 (-1) [_] = true
          rw [riseG_cons]
          simp [riseG]
          omega
      · rw [if_neg hc]
        exact ⟨T, rfl, by omega, fun r hr => (hmem r).2 hr, fun r hr => .inl ((hmem r).1 hr)⟩
    obtain ⟨R, b1, b2, b3, b4⟩ := hbook
    rw [b1]
    simp only [Option.bind_some]
    generalize hB : ((s.1, s.2.1, R, s.2.2.2.1, s.2.2.2.2) : TBook) = B
    have c1 : B.1 = s.1 := by rw [← hB]
    have c2 : B.2.1 = s.2.1 := by rw [← hB]
    have c3 : B.2.2.1 = R := by rw [← hB]
    have c4 : B.2.2.2.1 = s.2.2.2.1 := by rw [← hB]
    have c5 : B.2.2.2.2 = s.2.2.2.2 := by rw [← hB]
    have al : Alike s B := ⟨c1, c4, c5, fun g x => ⟨fun hx => Hd.book (fun y hy => by rw [c2]; exact hy) (fun r hr => by rw [c3]; exact b3 r hr) c4 hx, fun hx => by
      induction hx with
      | held hx => rw [c2] at hx; exact .held hx
      | rule hr _ ih =>
        rw [c3] at hr
        rcases b4 _ hr with hr | hr
        · exact .rule hr ih
        · exact .held hr.1
      | give hi hr _ ih => rw [c4] at hr; exact .give hi hr ih⟩⟩
    have fitB : Fit B := ⟨by rw [c2]; exact h.held, by rw [c3]; show _ ≤ _; omega, by rw [c4]; exact h.given, by rw [c5]; exact h.taboos, fun r hr => by
      rw [c3] at hr
      rcases b4 r hr with hr | hr
      · exact h.rule r hr
      · show _ ≤ _; omega, by rw [c4]; exact h.give, by rw [c5]; exact h.taboo⟩
    have vB : vd B = 0 := by
      unfold vd at hv0 ⊢
      rw [c1, c2, c3, c4, c5]
      split at hv0
      · cases hv0
      rename_i q1
      split at hv0
      · cases hv0
      rename_i q2
      split at hv0
      · cases hv0
      rename_i q3
      split at hv0
      · cases hv0
      rename_i q4
      split at hv0
      · cases hv0
      rename_i q5
      have p1 : ¬ (((((decide (s.1 < 1)) || (decide (30 < s.1))) || (decide (40 < (R.length : Int)))) || (decide (12 < (s.2.2.2.1.length : Int)))) || (decide (10 < (s.2.2.2.2.length : Int)))) = true := by
        simp only [Bool.or_eq_true, decide_eq_true_eq, not_or] at q1 ⊢
        omega
      rw [if_neg p1]
      have p2 : ¬ (R.any lg6 || s.2.2.2.1.any lg6) = true := by
        rw [Bool.not_eq_true, Bool.or_eq_false_iff] at q2 ⊢
        refine ⟨?_, q2.2⟩
        rw [List.any_eq_false] at q2 ⊢
        intro r hr
        rcases b4 r hr with hr | hr
        · exact q2.1 r hr
        · simp only [lg6, decide_eq_true_eq]; omega
      rw [if_neg p2, if_neg q3]
      have p4 : ¬ ((!rise s.2.1 s.1 || R.any (oddR s.1)) || s.2.2.2.1.any (oddR s.1)) = true := by
        rw [Bool.not_eq_true, Bool.or_eq_false_iff, Bool.or_eq_false_iff] at q4 ⊢
        refine ⟨⟨q4.1.1, ?_⟩, q4.2⟩
        rw [List.any_eq_false]
        have q6 := q4.1.2
        rw [List.any_eq_false] at q6
        intro r hr
        rcases b4 r hr with hr | hr
        · exact q6 r hr
        · have := rise_mem hs.held _ hr.1
          simp only [oddR, hr.2.2, Bool.not_true, Bool.false_or, Bool.or_eq_true, decide_eq_true_eq, not_or]
          omega
      rw [if_neg p4, if_neg q5]
    have h0B : cb B = 0 := by
      unfold cb
      rw [if_pos vB, al.tb, if_pos ht0]
    obtain ⟨g1, r1, f1⟩ := Granted_eq (F := F) hF hs (wf_u16 h1)
    rw [g1]
    simp only [Option.bind_some]
    generalize lst x1.toNat s.2.2.2.1.length = f at g1 r1 f1
    have q1 : gq s f = 0 := by unfold gq; rw [if_pos h0, if_pos r1]
    have q2 : gq B f = 0 := by unfold gq; rw [if_pos h0B, c4, if_pos r1]
    obtain ⟨M, a1, _, a3, _, a5⟩ := holds_val (F := F) hF h f1 q1
    obtain ⟨N, d1, _, d3, _, _⟩ := holds_val (F := F) hF fitB f1 q2
    have hMN : N = M := Nat.eq_of_testBit_eq fun i => by
      rw [Bool.eq_iff_iff, d3, a3]
      exact (al.hd f i).symm
    have d1' : right_Holds F B f = some (lst M s.1.toNat, 0) := by
      rw [← hMN, ← c1]
      exact d1
    have hDB : right_Decide F B = some ((dec s s.2.2.2.1.length).2, 0) := by
      rw [← al.dec, ← c4]
      exact Decide_val hF fitB h0B
    have hFB : right_Fewest F B = some (fewR s s.2.2.2.1.length s.2.2.2.1.length, 0) := by
      rw [← al.few, ← c4]
      exact few_eq hF fitB h0B
    rw [a1]
    simp only [Option.bind_some]
    rw [d1']
    simp only [Option.bind_some]
    rw [Decide_val hF h h0]
    simp only [Option.bind_some]
    rw [hDB]
    simp only [Option.bind_some]
    rw [few_eq hF h h0]
    simp only [Option.bind_some]
    rw [hFB]
    simp only [Option.bind_some]
    have hgl := hs.given
    rw [ints_same (by omega) a5, ints_same (by omega) (l := (dec s s.2.2.2.1.length).2) (by show _ ≤ _; rw [(dec_len s _).1]; omega), ints_same (by omega) (l := fewR s s.2.2.2.1.length s.2.2.2.1.length) (by have := fewR_len (s := s) (n := s.2.2.2.1.length) s.2.2.2.1.length; show _ ≤ _; omega)]
    simp [gd]
end
end Go.Proofs.Ytdimoehnkagghaa
