/-
  What Reach, Stocks, Most and Stuck return, and what the reference says. Condition: there are enough rounds.
-/
import Derived.Test.YtboefnpnoojfpaaSpecE
namespace Go.Proofs.Ytboefnpnoojfpaa
open Go Go.Md Go.RowKit

theorem mks_eq {n : Int} (h0 : 0 ≤ n) (h : n ≤ 1000000) : mks 8 n (0 : Int) = some (List.replicate n.toNat 0) := by
  unfold mks
  rw [if_pos ⟨h0, by omega⟩]
theorem far_eq {F : Nat} {x : Spec} {s : List Int} (hF : 1000000 < F) (hx : V x) (hs : Stk x s) : ∃ L, ref11_Far F x s = some L ∧ Fin x s L := by
  have hp := hx.prd
  have h0 : 0 ≤ prd x.1 := (many_eq (F := 1000001) (by omega) (by have := hx.k5; omega) (inr_iff.2 hx.cap)).2
  have hm : ref11_Many F (x.1, x.2) = some (prd x.1) := Many_eq (x := x) hF (by have := hx.k5; omega) (inr_iff.2 hx.cap)
  have hidx := idx_bd hx hs
  unfold ref11_Far
  simp only [hm, Option.bind_eq_bind, Option.bind_some, mks_eq h0 (by omega : prd x.1 ≤ 1000000)]
  obtain ⟨N, hN⟩ : ∃ N : Nat, prd x.1 = (N : Int) := ⟨(prd x.1).toNat, by omega⟩
  have loop : ∀ (m k : Nat) (y : List Int), k ≤ N → N - k < m → y.length = N → y.take k = List.replicate k (-1) → ref11_Far_l1 F m y (k : Int) = some (List.replicate N (-1)) := by
    intro m
    induction m with
    | zero => intro k _ _ h; omega
    | succ m ih =>
      intro k y hk h hy ht
      simp only [ref11_Far_l1]
      by_cases hlt : k < y.length
      · rw [if_pos (ltd hlt), ix_nat hlt, w64_succ (by omega)]
        simp only [Option.bind_eq_bind, Option.bind_some]
        refine ih (k + 1) _ (by omega) (by omega) (by simp [rset, hy]) ?_
        simp only [rset, Int.toNat_natCast]
        rw [List.take_add_one, List.take_set_of_le (Nat.le_refl _), ht, List.getElem?_set, if_pos rfl, if_pos hlt, List.replicate_succ']
        rfl
      · have : k = N := by omega
        subst this
        rw [← hy] at ht ⊢
        rw [if_neg nltd]
        rw [List.take_length] at ht
        rw [ht, List.length_replicate]
  have hl := loop F 0 (List.replicate (prd x.1).toNat 0) (by omega) (by omega) (by rw [List.length_replicate]; omega) rfl
  simp only [Int.natCast_zero] at hl
  have hi : ref11_index F (x.1, x.2) s = some (idx x s) := index_eq hF hx hs
  simp only [hl, Option.bind_some, hi]
  have hiv : ((iv x s : Nat) : Int) = idx x s := by unfold iv; omega
  have hivN : iv x s < N := by omega
  rw [← hiv, ix_nat (by rw [List.length_replicate]; exact hivN)]
  simp only [Option.bind_some]
  obtain ⟨L', h1, h2⟩ := far_l2_eq hF hx hs F 0 (rset (List.replicate N (-1)) ((iv x s : Nat) : Int) 0) true (by omega) (by simp only [Int.natCast_zero]; omega) (by simp [rset]; omega)
    (fun v hv k hk hd => by
      have : k = 0 := by omega
      subst this
      have := Rn_zero.1 hd.1
      subst this
      simp only [rset, Int.toNat_natCast]
      rw [List.getElem?_set, if_pos rfl, if_pos (by rw [List.length_replicate]; exact hivN)]
      rfl)
    (fun q hq => by
      simp only [rset, Int.toNat_natCast, List.length_set, List.length_replicate] at hq ⊢
      rw [List.getElem?_set]
      by_cases e : iv x s = q
      · exact .inr ⟨s, 0, hs, Nat.le_refl _, e, D.refl, by rw [if_pos e, if_pos (by rw [List.length_replicate]; exact hivN)]; rfl⟩
      · left
        rw [if_neg e, List.getElem?_replicate, if_pos hq])
    (fun _ => ⟨s, D.refl⟩) (fun e => by cases e)
  simp only [Int.natCast_zero] at h1
  rw [h1]
  exact ⟨L', rfl, h2⟩
theorem Fin.pos {x : Spec} {s L v : List Int} (h : Fin x s L) (hx : V x) (hv : Stk x v) {n : Int} (hn : L[iv x v]? = some n) : (0 ≤ n ↔ ∃ k, D x s v k) ∧ ∀ k, D x s v k → n = (k : Int) := by
  refine ⟨⟨fun h0 => ?_, fun ⟨k, hd⟩ => ?_⟩, fun k hd => ?_⟩
  · rcases h.no _ (iv_lt hx hv h.len).1 with h1 | ⟨w, k, hw, h1, h2, _⟩
    · rw [hn] at h1
      have := Option.some.inj h1
      omega
    · have := iv_inj hx hw hv h1
      subst this
      exact ⟨k, h2⟩
  · have := h.ok v hv k hd
    rw [hn] at this
    have := Option.some.inj this
    omega
  · have := h.ok v hv k hd
    rw [hn] at this
    exact Option.some.inj this

/-! ### Lists, element by element -/
def Pw {α β : Type} (P : α → β → Prop) : List α → List β → Prop
  | [], [] => True
  | a :: l, b :: k => P a b ∧ Pw P l k
  | _, _ => False
theorem pw_of {α β : Type} {P : α → β → Prop} : ∀ {l : List α} {k : List β}, l.length = k.length → (∀ (i : Nat) a b, l[i]? = some a → k[i]? = some b → P a b) → Pw P l k
  | [], [], _, _ => trivial
  | [], _ :: _, h, _ => by simp at h
  | _ :: _, [], h, _ => by simp at h
  | a :: l, b :: k, h, hp => ⟨hp 0 a b rfl rfl, pw_of (by simpa using h) fun i a b h1 h2 => hp (i + 1) a b (by simpa using h1) (by simpa using h2)⟩
theorem Out.pw {x : Spec} {s : List Int} {Q : List (List Int)} {us : List (St × By)} {bf : By} (h : Out x s Q us bf) : Pw (fun (p : St × By) v => p.1 = pad v ∧ mhas p.2 (pad v) = true ∧ ByOk x s p.2) us Q := by
  refine pw_of ?_ h.byok
  have := congrArg List.length h.map
  simpa using this
theorem Out.len {x : Spec} {s : List Int} {Q : List (List Int)} {us : List (St × By)} {bf : By} (h : Out x s Q us bf) : us.length = Q.length := by
  have := congrArg List.length h.map
  simpa using this

/-! ### Reach -/
/-- What Reach returns. -/
def ReachS (x : Spec) (s t : List Int) (r : List Int × Int) : Prop :=
  (two x s t ≠ 0 ∧ r = ([], two x s t)) ∨ (two x s t = 0 ∧ ((∃ k, D x s t k ∧ r.2 = 0 ∧ r.1.length = k ∧ run x r.1 s = some t) ∨ ((∀ k, ¬ D x s t k) ∧ r = ([], 13))))
theorem reach_eq {F : Nat} {x : Spec} {s t : List Int} (hF : 1000000 < F) : ∃ r, bath_Reach F x s t = some r ∧ ReachS x s t r := by
  unfold bath_Reach ReachS
  rw [open2 hF]
  simp only [Option.bind_eq_bind, Option.bind_some]
  by_cases h : two x s t = 0
  · obtain ⟨hx, hs, ht⟩ := two_ok.1 h
    obtain ⟨Q, us, bf, h1, h2, h3⟩ := reached_eq hF hx hs
    simp only [h, if_true, decide_true, Bool.not_true, Bool.false_eq_true, if_false]
    have e0 : ix [pad s, pad t] (0 : Int) = some (pad s) := rfl
    have e1 : ix [pad s, pad t] (1 : Int) = some (pad t) := rfl
    simp only [e0, e1, Option.bind_some, h1]
    have hpw := h2.pw
    have loop : ∀ (us : List (St × By)) (Q' : List (List Int)), (∀ v ∈ Q', Stk x v ∧ ∃ k, D x s v k) → Pw (fun (p : St × By) v => p.1 = pad v ∧ mhas p.2 (pad v) = true ∧ ByOk x s p.2) us Q' →
        ∃ r, reachIn F (pad t) us = some r ∧ ((t ∈ Q' ∧ ∃ k, D x s t k ∧ r.2 = 0 ∧ r.1.length = k ∧ run x r.1 s = some t) ∨ (t ∉ Q' ∧ r = ([], 13))) := by
      intro us
      induction us with
      | nil =>
        intro Q' _ hp
        cases Q' with
        | nil => exact ⟨_, rfl, .inr ⟨by simp, rfl⟩⟩
        | cons _ _ => exact hp.elim
      | cons p us ih =>
        intro Q' hQ hp
        cases Q' with
        | nil => exact hp.elim
        | cons v Q' =>
          obtain ⟨⟨p1, p2, p3⟩, hp⟩ := hp
          obtain ⟨hv, k, hk⟩ := hQ v (by simp)
          by_cases e : v = t
          · subst e
            have := dist_lt hx hs hk
            have hpr := hx.prd
            obtain ⟨w, w1, w2, w3⟩ := way_eq hF hx hs p3 hv p2 hk (by omega)
            refine ⟨(w, 0), ?_, .inl ⟨by simp, k, hk, rfl, w2, w3⟩⟩
            unfold reachIn
            rw [p1, if_pos (by simp), w1]
            rfl
          · obtain ⟨r, r1, r2⟩ := ih Q' (fun u hu => hQ u (by simp [hu])) hp
            have hne : pad v ≠ pad t := fun e2 => e (pad_inj (by rw [hv.len, ht.len]) (by rw [hv.len]; exact hx.k5) e2)
            refine ⟨r, ?_, ?_⟩
            · unfold reachIn
              rw [p1, if_neg (by simpa using hne)]
              exact r1
            · rcases r2 with ⟨r3, r4⟩ | ⟨r3, r4⟩
              · exact .inl ⟨by simp [r3], r4⟩
              · exact .inr ⟨by simp [Ne.symm e, r3], r4⟩
    obtain ⟨r, r1, r2⟩ := loop us Q (fun v hv => ⟨h3.stk v hv, h3.dd v hv⟩) hpw
    refine ⟨r, r1, .inr ⟨trivial, ?_⟩⟩
    rcases r2 with ⟨_, r4⟩ | ⟨r3, r4⟩
    · exact .inl r4
    · exact .inr ⟨fun k hk => r3 (h3.all t k hk.1), r4⟩
  · simp only [h, if_false, decide_false, Bool.not_false, if_true]
    exact ⟨_, rfl, .inl ⟨h, rfl⟩⟩
theorem fewest_eq {F : Nat} {x : Spec} {s t : List Int} (hF : 1000000 < F) : ∃ r, ref11_Fewest F x s t = some r ∧
    ((two x s t ≠ 0 ∧ r = (0, two x s t)) ∨ (two x s t = 0 ∧ ((∃ k : Nat, D x s t k ∧ r = ((k : Int), 0)) ∨ ((∀ k, ¬ D x s t k) ∧ r = (0, 13))))) := by
  unfold ref11_Fewest
  have ht : ref11_Two F (x.1, x.2) s t = some (two x s t) := two_eq hF
  simp only [ht, Option.bind_eq_bind, Option.bind_some]
  by_cases h : two x s t = 0
  · obtain ⟨hx, hs, ht⟩ := two_ok.1 h
    obtain ⟨L, h1, h2⟩ := far_eq hF hx hs
    have h1' : ref11_Far F (x.1, x.2) s = some L := h1
    obtain ⟨hlt, hiv⟩ := iv_lt hx ht h2.len
    have hi : ref11_index F (x.1, x.2) t = some ((iv x t : Nat) : Int) := by rw [hiv]; exact index_eq hF hx ht
    simp only [h, decide_true, Bool.not_true, Bool.false_eq_true, if_false, h1', hi, Option.bind_some, ix_nat hlt]
    obtain ⟨p1, p2⟩ := h2.pos hx ht (List.getElem?_eq_getElem hlt)
    by_cases hd : ∃ k, D x s t k
    · obtain ⟨k, hk⟩ := hd
      have := p2 k hk
      rw [if_neg (by simp; omega), this]
      exact ⟨_, rfl, .inr ⟨trivial, .inl ⟨k, hk, rfl⟩⟩⟩
    · have : ¬ 0 ≤ L[iv x t] := fun e => hd (p1.1 e)
      rw [if_pos (by simp; omega)]
      exact ⟨_, rfl, .inr ⟨trivial, .inr ⟨fun k hk => hd ⟨k, hk⟩, rfl⟩⟩⟩
  · simp only [h, decide_false, Bool.not_false, if_true]
    exact ⟨_, rfl, .inl ⟨h, rfl⟩⟩

/-! ### Stocks -/
theorem cnt_eq : ∀ {n : Nat}, n ≤ 1000000 → cnt n = (n : Int)
  | 0, _ => rfl
  | n + 1, h => by
    unfold cnt
    rw [cnt_eq (by omega), w64_succ (by omega)]
theorem stocks_eq {F : Nat} {x : Spec} {s : List Int} (hF : 1000000 < F) : (one x s ≠ 0 ∧ bath_Stocks F x s = some (0, one x s)) ∨ (V x ∧ Stk x s ∧ ∃ Q, All x s Q ∧ bath_Stocks F x s = some ((Q.length : Int), 0)) := by
  unfold bath_Stocks
  rw [open1 hF]
  simp only [Option.bind_eq_bind, Option.bind_some]
  by_cases h : one x s = 0
  · obtain ⟨hx, hs⟩ := one_ok.1 h
    obtain ⟨Q, us, bf, h1, h2, h3⟩ := reached_eq hF hx hs
    simp only [h, if_true, decide_true, Bool.not_true, Bool.false_eq_true, if_false]
    have e0 : ix [pad s] (0 : Int) = some (pad s) := rfl
    have hlen := stocks_len hx h3.nd h3.stk
    have hp := hx.prd
    simp only [e0, Option.bind_some, h1, h2.len]
    rw [cnt_eq (by omega)]
    exact .inr ⟨hx, hs, Q, h3, rfl⟩
  · simp only [h, if_false, decide_false, Bool.not_false, if_true]
    exact .inl ⟨h, trivial⟩
theorem filt_lt {α : Type} {f : α → Nat} {n : Nat} : ∀ {Q : List α}, (Q.filter fun v => decide (f v < n + 1)).length = (Q.filter fun v => decide (f v < n)).length + (Q.filter fun v => decide (f v = n)).length
  | [] => rfl
  | v :: Q => by
    have ih := filt_lt (f := f) (n := n) (Q := Q)
    rw [List.filter_cons, List.filter_cons, List.filter_cons]
    by_cases h1 : f v < n
    · rw [if_pos (by simp; omega), if_pos (by simpa using h1), if_neg (by simp; omega)]
      simp only [List.length_cons]
      omega
    · by_cases h2 : f v = n
      · rw [if_pos (by simp; omega), if_neg (by simpa using h1), if_pos (by simpa using h2)]
        simp only [List.length_cons]
        omega
      · rw [if_neg (by simp; omega), if_neg (by simpa using h1), if_neg (by simpa using h2)]
        exact ih
theorem one_len {α : Type} {l : List α} {v : α} (hn : l.Nodup) (hv : v ∈ l) (h : ∀ u ∈ l, u = v) : l.length = 1 := by
  match l, hn, hv, h with
  | [], _, hv, _ => cases hv
  | [a], _, _, _ => rfl
  | a :: b :: l, hn, _, h =>
    have h1 := h a (by simp)
    have h2 := h b (by simp)
    subst h1
    subst h2
    simp at hn
theorem rstocks_eq {F : Nat} {x : Spec} {s : List Int} (hF : 1000000 < F) : (one x s ≠ 0 ∧ ref11_Stocks F x s = some (0, one x s)) ∨ (one x s = 0 ∧ ∀ Q, All x s Q → ref11_Stocks F x s = some ((Q.length : Int), 0)) := by
  unfold ref11_Stocks
  have ho : ref11_One F (x.1, x.2) s = some (one x s) := one_eq hF
  simp only [ho, Option.bind_eq_bind, Option.bind_some]
  by_cases h : one x s = 0
  · obtain ⟨hx, hs⟩ := one_ok.1 h
    obtain ⟨L, h1, h2⟩ := far_eq hF hx hs
    have h1' : ref11_Far F (x.1, x.2) s = some L := h1
    have hp := hx.prd
    have hl := h2.len
    refine .inr ⟨h, fun Q hQ => ?_⟩
    have hlen := stocks_len hx hQ.nd hQ.stk
    simp only [h, decide_true, Bool.not_true, Bool.false_eq_true, if_false, h1', Option.bind_some]
    have hle : ∀ n, (Q.filter fun v => decide (iv x v < n)).length ≤ Q.length := fun n => List.length_filter_le _ _
    have loop : ∀ (m k : Nat), k ≤ L.length → L.length - k < m → ref11_Stocks_l1 F L m ((Q.filter fun v => decide (iv x v < k)).length : Int) (k : Int) = some (Q.length : Int) := by
      intro m
      induction m with
      | zero => intro k _ h; omega
      | succ m ih =>
        intro k hk h
        simp only [ref11_Stocks_l1]
        by_cases hlt : k < L.length
        · rw [if_pos (ltd hlt), ix_nat hlt, w64_succ (k := k) (by omega)]
          simp only [Option.bind_eq_bind, Option.bind_some]
          have ih' := ih (k + 1) (by omega) (by omega)
          rw [filt_lt] at ih'
          rcases h2.no k hlt with h3 | ⟨v, d, hv, h4, h5, h6⟩
          · have e : L[k] = -1 := by
              rw [List.getElem?_eq_getElem hlt] at h3
              exact Option.some.inj h3
            have e2 : (Q.filter fun v => decide (iv x v = k)) = [] := by
              rw [List.filter_eq_nil_iff]
              intro v hv
              simp only [decide_eq_true_eq]
              rintro rfl
              obtain ⟨d, hd⟩ := hQ.dd v hv
              have := h2.ok v (hQ.stk v hv) d hd
              rw [h3] at this
              have := Option.some.inj this
              omega
            rw [e2] at ih'
            rw [if_neg (by rw [e]; simp)]
            simpa using ih'
          · have e : L[k] = (d : Int) := by
              rw [List.getElem?_eq_getElem hlt] at h6
              exact Option.some.inj h6
            have e2 : (Q.filter fun v => decide (iv x v = k)).length = 1 := by
              refine one_len (v := v) (hQ.nd.filter _) ?_ ?_
              · rw [List.mem_filter]
                exact ⟨hQ.all v d h5.1, by simpa using h4⟩
              · intro u hu
                rw [List.mem_filter] at hu
                exact iv_inj hx (hQ.stk u hu.1) hv (by rw [h4]; simpa using hu.2)
            rw [e2] at ih'
            rw [if_pos (by rw [e]; simp)]
            simp only [Option.bind_some]
            have := hle k
            rw [w64_succ (by omega)]
            exact ih'
        · have : k = L.length := by omega
          subst this
          rw [if_neg nltd]
          congr 2
          rw [List.filter_eq_self.2]
          intro v hv
          simpa using (iv_lt hx (hQ.stk v hv) hl).1
    have := loop F 0 (by omega) (by omega)
    have e0 : (Q.filter fun v => decide (iv x v < 0)) = [] := by simp
    rw [e0] at this
    simp only [List.length_nil, Int.natCast_zero] at this
    rw [this]
    rfl
  · simp only [h, decide_false, Bool.not_false, if_true]
    exact .inl ⟨h, trivial⟩
end Go.Proofs.Ytboefnpnoojfpaa
