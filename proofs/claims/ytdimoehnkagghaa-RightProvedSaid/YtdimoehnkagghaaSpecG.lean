/-
  Chains: a chain checked against a book, step by step. Condition: the book is sound; there are enough rounds.
-/
import Derived.Test.YtdimoehnkagghaaSpecF
namespace Go.Proofs.Ytdimoehnkagghaa
open Go Go.Md Go.RowKit

/-- The rule that a step takes. -/
def ruleOf (s : TBook) (f : List Int) (st : Bool × Int) : Option TRule :=
  if st.1 = true then (if st.2 ∈ f then s.2.2.2.1[st.2.toNat]? else none) else (if 0 ≤ st.2 then s.2.2.1[st.2.toNat]? else none)
def stepC (s : TBook) (f y : List Int) (st : Bool × Int) : Option (List Int) :=
  match ruleOf s f st with
  | none => none
  | some r => if allIn y r.1 = true then some (y ++ [r.2]) else none
def runC (s : TBook) (f : List Int) : List (Bool × Int) → List Int → Option (List Int)
  | [], y => some y
  | st :: sts, y => match stepC s f y st with
    | none => none
    | some y' => runC s f sts y'
/-- What the check of a chain answers. -/
noncomputable def ccv (s : TBook) (f : List Int) (t : Int) (l : List (Bool × Int)) : Int :=
  if gq s f = 0 then (if (decide (t < 0) || decide ((s.2.2.2.2.length : Int) ≤ t)) = true then 2 else if 4096 < l.length then 6 else match runC s f l s.2.1 with
    | none => 16
    | some y => if allIn y (s.2.2.2.2.getD t.toNat []) = true then 0 else 14) else gq s f
theorem ruleOf_ok {s : TBook} {f : List Int} (hs : Sound s) {st : Bool × Int} {r : TRule} (h : ruleOf s f st = some r) : rise r.1 s.1 = true ∧ 0 ≤ r.2 ∧ r.2 < s.1 := by
  unfold ruleOf at h
  split at h
  · split at h
    · exact hs.give r (List.mem_of_getElem? h)
    · cases h
  · split at h
    · exact hs.rule r (List.mem_of_getElem? h)
    · cases h

section
variable {F : Nat} {s : TBook} {f : List Int}
theorem ccstep (hF : 2000000000 < F) (hs : Sound s) (hg : InG s f) (hf : Sm f) {st : Bool × Int} :
    (((gd st.1 (ref10_In F f st.2) false) >>= fun x10 => if (st.1 && x10) = true then (ix s.2.2.2.1 st.2) >>= fun x11 => some (.inr (x11.1, x11.2)) else
      if (((!st.1) && (decide (0 ≤ st.2))) && (decide (st.2 < (s.2.2.1.length : Int)))) = true then (ix s.2.2.1 st.2) >>= fun x13 => some (.inr (x13.1, x13.2)) else some (.inl 16)) : Option (Sum Int TRule)) =
    some (match ruleOf s f st with | none => .inl 16 | some r => .inr r) := by
  obtain ⟨b, n⟩ := st
  cases b
  · simp only [gd, cond_false, Bool.false_and, Option.bind_eq_bind, Option.bind_some, Bool.not_false, Bool.true_and, ruleOf, Bool.false_eq_true, if_false]
    by_cases h0 : 0 ≤ n
    · by_cases h1 : n < (s.2.2.1.length : Int)
      · rw [if_pos (by simp [h0, h1]), if_pos h0]
        unfold ix
        rw [if_pos h0]
        have : n.toNat < s.2.2.1.length := by omega
        rw [List.getElem?_eq_getElem this]
        rfl
      · rw [if_neg (by simp [h0]; omega), if_pos h0, List.getElem?_eq_none (by omega)]
    · rw [if_neg (by simp [h0]), if_neg h0]
  · simp only [gd, cond_true, Bool.true_and, Bool.not_true, Bool.false_and, ruleOf, if_true]
    rw [in_eq (by omega) hf]
    simp only [Option.bind_eq_bind, Option.bind_some]
    by_cases h : n ∈ f
    · have h1 := hg n h
      have h2 : n.toNat < s.2.2.2.1.length := by omega
      rw [if_pos (by simpa using h), if_pos h]
      unfold ix
      rw [if_pos h1.1, List.getElem?_eq_getElem h2]
      rfl
    · rw [if_neg (by simpa using h), if_neg h, if_neg (by simp)]
theorem cc_loop (hF : 2000000000 < F) (hs : Sound s) (hg : InG s f) (hf : Sm f) {l : List (Bool × Int)} (hl : l.length ≤ 4096) : ∀ m (k : Nat) (y : List Int), k ≤ l.length → l.length - k < m → y.length ≤ 100 + k →
    ref10_CheckChain_l1 F s f l m y (k : Int) = some (match runC s f (l.drop k) y with | none => .inl 16 | some y' => .inr y')
  | 0, k, _, _, h, _ => by omega
  | m + 1, k, y, hk, h, hy => by
    simp only [ref10_CheckChain_l1]
    by_cases hlt : k < l.length
    · rw [if_pos (ltd hlt), ix_nat hlt, w64_succ (by omega), List.drop_eq_getElem_cons hlt]
      simp only [Option.bind_eq_bind, Option.bind_some]
      have e := ccstep hF hs hg hf (st := l[k])
      simp only [Option.bind_eq_bind] at e
      unfold runC stepC
      rw [← Option.bind_assoc, e]
      simp only [Option.bind_some]
      cases hr : ruleOf s f l[k] with
      | none => rfl
      | some r =>
        have hq := ruleOf_ok hs hr
        simp only
        rw [all_eq (by omega) (show y.length ≤ 1000000 by omega) (hs.smr hq.1)]
        simp only [Option.bind_some]
        cases ha : allIn y r.1 with
        | false => rfl
        | true =>
          rw [if_neg (by simp), app_some (by simp; omega)]
          simp only [Option.bind_some, if_true]
          exact cc_loop hF hs hg hf hl m (k + 1) _ (by omega) (by omega) (by simp; omega)
    · have : k = l.length := by omega
      subst this
      rw [if_neg nltd, List.drop_length]
      rfl
theorem runC_len : ∀ {l : List (Bool × Int)} {y z : List Int}, runC s f l y = some z → z.length = y.length + l.length
  | [], y, z, h => by cases h; rfl
  | st :: l, y, z, h => by
    unfold runC at h
    split at h
    · cases h
    · rename_i y' hy
      rw [runC_len h, List.length_cons]
      unfold stepC at hy
      split at hy
      · cases hy
      · split at hy
        · cases hy; simp; omega
        · cases hy
theorem CheckChain_eq (hF : 2000000000 < F) (h : Fit s) (hf : Sm f) {t : Int} {l : List (Bool × Int)} : ref10_CheckChain F s f t l = some (ccv s f t l) := by
  unfold ref10_CheckChain ccv
  show ((ref10_IsGranted F s f) >>= fun x3 => if (!decide (x3 = 0)) = true then (ref10_IsGranted F s f) >>= fun x4 => some x4 else _) = _
  rw [granted_eq hF h hf]
  simp only [Option.bind_eq_bind, Option.bind_some]
  by_cases h0 : gq s f = 0
  · have h1 := gq_zero h0
    have hs := (cb_zero h1.1).1
    have hg := rise_in h1.2
    rw [if_neg (by simp [h0]), if_pos h0]
    by_cases h2 : (decide (t < 0) || decide ((s.2.2.2.2.length : Int) ≤ t)) = true
    · rw [if_pos h2, if_pos h2]
    · rw [if_neg h2, if_neg h2]
      by_cases h3 : 4096 < l.length
      · rw [if_pos (by simp only [decide_eq_true_eq]; omega), if_pos h3]
      · have hl0 : s.2.1.length ≤ 30 := by have := rise_len hs.held; have := hs.n2; omega
        rw [if_neg (by simp only [decide_eq_true_eq]; omega), if_neg h3, app_some (by simp; omega), List.nil_append]
        simp only [Option.bind_some]
        have e := cc_loop hF hs hg hf (l := l) (by omega) F 0 s.2.1 (by omega) (by omega) (by omega)
        simp only [Int.natCast_zero, List.drop_zero] at e
        rw [e]
        simp only [Option.bind_some]
        cases hr : runC s f l s.2.1 with
        | none => rfl
        | some z =>
          simp only
          simp only [Bool.or_eq_true, decide_eq_true_eq, not_or] at h2
          have ht : t.toNat < s.2.2.2.2.length := by omega
          have e1 : ix s.2.2.2.2 t = some (s.2.2.2.2.getD t.toNat []) := by
            unfold ix
            rw [if_pos (by omega), List.getD_eq_getElem?_getD, List.getElem?_eq_getElem ht]
            rfl
          have e2 : s.2.2.2.2.getD t.toNat [] ∈ s.2.2.2.2 := by
            rw [List.getD_eq_getElem?_getD, List.getElem?_eq_getElem ht]
            exact List.getElem_mem ht
          have hz := runC_len hr
          rw [e1]
          simp only [Option.bind_some]
          rw [all_eq (by omega) (show z.length ≤ 1000000 by omega) (hs.smr (hs.taboo _ e2))]
          simp only [Option.bind_some]
          cases allIn z (s.2.2.2.2.getD t.toNat []) <;> rfl
  · rw [if_pos (by simp [h0]), if_neg h0]

/-! ### The same over bits -/
theorem fst_some {α : Type} {l : List α} {p : α → Bool} (h : l.any p = true) : ∃ (x : α) (k : Nat), fst l p = (k : Int) ∧ ix l (k : Int) = some x ∧ x ∈ l ∧ p x = true := by
  have hlt : l.findIdx p < l.length := List.findIdx_lt_length.2 (by simpa [List.any_eq_true] using h)
  refine ⟨l[l.findIdx p], l.findIdx p, ?_, ix_nat hlt, List.getElem_mem hlt, List.findIdx_getElem⟩
  unfold fst
  rw [if_pos h]
theorem way_rule (hs : Sound s) {w : TWay} (hw : w ∈ ways s) : ∃ b i r, w = wy b i r ∧ RuleOk r ∧ ruleOf s f w.1 = (if (b = true → (i : Int) ∈ f) then some r else none) := by
  rcases way_or hw with ⟨i, r, hr, rfl⟩ | ⟨i, r, hr, rfl⟩
  · refine ⟨false, i, r, rfl, hs.rok (hs.rule r (List.mem_of_getElem? hr)), ?_⟩
    rw [if_pos (by intro h; cases h)]
    show ruleOf s f (false, (i : Int)) = _
    simp [ruleOf, hr]
  · refine ⟨true, i, r, rfl, hs.rok (hs.give r (List.mem_of_getElem? hr)), ?_⟩
    show ruleOf s f (true, (i : Int)) = _
    by_cases h : (i : Int) ∈ f <;> simp [ruleOf, hr, h]
theorem no_way (hg : InG s f) {st : Bool × Int} (h : (ways s).any (fun w => decide ((w.1.1, w.1.2) = (st.1, st.2))) = false) : ruleOf s f st = none := by
  rw [List.any_eq_false] at h
  obtain ⟨b, n⟩ := st
  have no : ∀ w ∈ ways s, w.1 ≠ (b, n) := fun w hw e => h w hw (by simp [e])
  cases hr : ruleOf s f (b, n) with
  | none => rfl
  | some r =>
    exfalso
    unfold ruleOf at hr
    cases b
    · simp only [Bool.false_eq_true, if_false] at hr
      split at hr
      · rename_i h0
        have := no (wy false n.toNat r) (List.mem_append.2 (.inl (wys_mem.2 ⟨_, r, hr, rfl⟩)))
        exact this (by unfold wy; simp; omega)
      · cases hr
    · simp only [if_true] at hr
      split at hr
      · rename_i h0
        have h1 : 0 ≤ n ∨ n < 0 := by omega
        rcases h1 with h1 | h1
        · have := no (wy true n.toNat r) (List.mem_append.2 (.inr (wys_mem.2 ⟨_, r, hr, rfl⟩)))
          exact this (by unfold wy; simp; omega)
        · have := hg n h0; omega
      · cases hr
theorem need_all {r : TRule} (hr : RuleOk r) {N : Nat} {y : List Int} (hy : ∀ i : Nat, N.testBit i = decide ((i : Int) ∈ y)) {b : Bool} {i : Nat} : decide (ndiff (wy b i r).2.1.toNat N = 0) = allIn y r.1 := by
  rw [Bool.eq_iff_iff, need_iff hr, allIn_iff]
  constructor
  · intro h n hn
    have h1 := h n hn
    have h2 := hr.1 n hn
    rw [hy, decide_eq_true_eq, show ((n.toNat : Nat) : Int) = n by omega] at h1
    exact h1
  · intro h n hn
    have h2 := hr.1 n hn
    rw [hy, decide_eq_true_eq, show ((n.toNat : Nat) : Int) = n by omega]
    exact h n hn
theorem cb_loop (hF : 2000000000 < F) (hs : Sound s) (hg : InG s f) {l : List (Bool × Int)} (hl : l.length ≤ 4096) : ∀ m (k N : Nat) (y : List Int), k ≤ l.length → l.length - k < m → N < 2 ^ 30 → (∀ i : Nat, N.testBit i = decide ((i : Int) ∈ y)) →
    ∃ o, right_CheckChain_l1 F l (⟨some (treaty s)⟩, ((bitsI f : Nat) : Int), 0) (treaty s) m (N : Int) (k : Int) = some o ∧
      match runC s f (l.drop k) y with
      | none => o = .inl 16
      | some y' => ∃ M : Nat, o = .inr (M : Int) ∧ M < 2 ^ 30 ∧ ∀ i : Nat, M.testBit i = decide ((i : Int) ∈ y')
  | 0, k, _, _, _, h, _, _ => by omega
  | m + 1, k, N, y, hk, h, hN, hy => by
    have hsm := inG_small hs hg
    have hwl := ways_len hs
    simp only [right_CheckChain_l1]
    by_cases hlt : k < l.length
    · rw [if_pos (ltd hlt), ix_nat hlt, w64_succ (by omega), List.drop_eq_getElem_cons hlt]
      simp only [Option.bind_eq_bind, Option.bind_some, right_CheckChain_1]
      have e1 : right_first__right_way F (treaty s).2.2.1 (fun y => some (decide ((y.1.1, y.1.2) = (l[k].1, l[k].2)))) = some (fst (ways s) (fun w => decide ((w.1.1, w.1.2) = (l[k].1, l[k].2)))) :=
        firstW (p := fun w => decide ((w.1.1, w.1.2) = (l[k].1, l[k].2))) (by omega) (by show (ways s).length ≤ 1000000; omega) (fun _ _ => rfl)
      rw [e1]
      simp only [Option.bind_some]
      unfold runC stepC
      cases ha : (ways s).any (fun w => decide ((w.1.1, w.1.2) = (l[k].1, l[k].2))) with
      | false =>
        have e2 : fst (ways s) (fun w => decide ((w.1.1, w.1.2) = (l[k].1, l[k].2))) = -1 := by unfold fst; rw [ha]; rfl
        rw [e2, no_way hg ha, if_pos (by decide)]
        exact ⟨_, rfl, rfl⟩
      | true =>
        obtain ⟨w, j, e2, e3, hw, hp⟩ := fst_some ha
        have e4 : w.1 = l[k] := by
          have := of_decide_eq_true hp
          exact this
        rw [e2, if_neg (by simp only [decide_eq_true_eq]; omega)]
        have e3' : ix (treaty s).2.2.1 (j : Int) = some w := e3
        rw [e3']
        simp only [Option.bind_some]
        have e5 : right_way_may ((w.1.1, w.1.2), w.2.1, w.2.2) ((bitsI f : Nat) : Int) (N : Int) = some (mayw f N w) := may_eq (ways_is hs w hw) hsm (b30 hN)
        rw [e5]
        simp only [Option.bind_some]
        obtain ⟨b, i, r, hwy, hrok, hru⟩ := way_rule (f := f) hs hw
        rw [← e4, hru]
        have hneed := need_all hrok hy (b := b) (i := i)
        by_cases hbi : b = true → (i : Int) ∈ f
        · rw [if_pos hbi]
          have hm : mayw f N w = allIn y r.1 := by
            unfold mayw
            rw [hwy, hneed]
            have : (!(wy b i r).1.1 || decide ((wy b i r).1.2 ∈ f)) = true := by
              show (!b || decide ((i : Int) ∈ f)) = true
              cases b
              · rfl
              · simpa using hbi rfl
            rw [this, Bool.true_and]
          rw [hm]
          simp only
          cases allIn y r.1 with
          | false => exact ⟨_, rfl, rfl⟩
          | true =>
            rw [if_neg (by simp)]
            simp only [if_true]
            have e6 : bor .i64 (N : Int) w.2.2 = ((N ||| 2 ^ r.2.toNat : Nat) : Int) := by
              rw [hwy]
              exact bor_nat (b30 hN) (p62 hrok)
            rw [e6]
            refine cb_loop hF hs hg hl m (k + 1) _ _ (by omega) (by omega) (Nat.or_lt_two_pow hN (Nat.pow_lt_pow_right (by decide) (by have := hrok.2.2.2; omega))) fun q => ?_
            rw [Nat.testBit_or, tb_pow, hy, Bool.eq_iff_iff]
            simp only [Bool.or_eq_true, decide_eq_true_eq, List.mem_append, List.mem_singleton]
            have := hrok.2.2.1
            constructor
            · rintro (h | h)
              · exact .inl h
              · exact .inr (by omega)
            · rintro (h | h)
              · exact .inl h
              · exact .inr (by omega)
        · rw [if_neg hbi]
          have hm : mayw f N w = false := by
            unfold mayw
            rw [hwy]
            have : (!(wy b i r).1.1 || decide ((wy b i r).1.2 ∈ f)) = false := by
              show (!b || decide ((i : Int) ∈ f)) = false
              cases b
              · exact absurd (fun h => by cases h) hbi
              · simpa using hbi
            rw [this, Bool.false_and]
          rw [hm]
          exact ⟨_, rfl, rfl⟩
    · have : k = l.length := by omega
      subst this
      rw [if_neg nltd, List.drop_length]
      exact ⟨_, rfl, N, rfl, hN, hy⟩
end
end Go.Proofs.Ytdimoehnkagghaa
