/-
  What can be reached, and in how many moves; the numbers of stocks; the search by a queue. Condition: there are enough rounds.
-/
import Derived.Test.YtboefnpnoojfpaaSpecC
namespace Go.Proofs.Ytboefnpnoojfpaa
open Go Go.Md Go.RowKit

/-! ### Maps -/
section
variable {κ ν : Type} [DecidableEq κ]
theorem mget_put {d : ν} {k k' : κ} {v : ν} : ∀ {l : List (κ × ν)}, mget d (mput l k v) k' = if k = k' then v else mget d l k'
  | [] => by simp [mput, mget]
  | (a, b) :: l => by
    by_cases h : a = k
    · subst h
      simp only [mput, if_true, mget]
      by_cases h2 : a = k' <;> simp [h2]
    · simp only [mput, if_neg h, mget, mget_put (l := l)]
      by_cases h2 : a = k'
      · subst h2
        rw [if_pos rfl, if_pos rfl, if_neg (Ne.symm h)]
      · rw [if_neg h2, if_neg h2]
theorem mhas_put {k k' : κ} {v : ν} : ∀ {l : List (κ × ν)}, mhas (mput l k v) k' = if k = k' then true else mhas l k'
  | [] => by simp [mput, mhas]
  | (a, b) :: l => by
    by_cases h : a = k
    · subst h
      simp only [mput, if_true, mhas]
      by_cases h2 : a = k' <;> simp [h2]
    · simp only [mput, if_neg h, mhas, mhas_put (l := l)]
      by_cases h2 : a = k'
      · subst h2
        rw [if_pos rfl, if_pos rfl, if_neg (Ne.symm h)]
      · rw [if_neg h2, if_neg h2]
theorem mget_del {d : ν} {k k' : κ} (h : k ≠ k') : ∀ {l : List (κ × ν)}, mget d (mdel l k) k' = mget d l k'
  | [] => rfl
  | (a, b) :: l => by
    by_cases h1 : a = k
    · subst h1
      simp only [mdel, if_true, mget, if_neg h]
    · simp only [mdel, if_neg h1, mget, mget_del h (l := l)]
end
theorem wf_in {n : Int} (h : -9223372036854775808 ≤ n ∧ n ≤ 9223372036854775807) : (Lit.int .i64 n).wf = true := by
  simp only [Lit.wf, Bool.and_eq_true, decide_eq_true_eq]
  exact ⟨by have : IntKind.min .i64 = -9223372036854775808 := by decide
            omega, by have : IntKind.max .i64 = 9223372036854775807 := by decide
                      omega⟩
theorem kok_int {n : Nat} (h : n ≤ 1000000) : kok (n : Int) = some () := by
  unfold kok
  exact if_pos (wf_in (by omega))
theorem kok_pad {x : Spec} {s : List Int} (hx : V x) (h : Stk x s) : kok (pad s) = some () := by
  unfold kok
  refine if_pos ?_
  show ((pad s).l.all fun i => (Lit.int .i64 i).wf) = true
  rw [List.all_eq_true]
  intro n hn
  have hm : n ∈ s ++ List.replicate 5 0 := List.mem_of_mem_take hn
  refine wf_in ?_
  rcases List.mem_append.1 hm with h1 | h1
  · have := h.rng hx n h1
    omega
  · have := (List.mem_replicate.1 h1).2
    omega

/-! ### Reaching -/
def Rn (x : Spec) (n : Nat) (s v : List Int) : Prop := ∃ w : List Int, w.length = n ∧ run x w s = some v
def D (x : Spec) (s v : List Int) (n : Nat) : Prop := Rn x n s v ∧ ∀ m, m < n → ¬ Rn x m s v
section
variable {x : Spec} {s u v : List Int}
theorem Rn_zero : Rn x 0 s v ↔ v = s := by
  constructor
  · rintro ⟨w, h1, h2⟩
    have := List.eq_nil_of_length_eq_zero h1
    subst this
    cases h2
    rfl
  · rintro rfl
    exact ⟨[], rfl, rfl⟩
theorem Rn.snoc {n : Nat} {i : Int} (h : Rn x n s u) (hi : stp x i u = some v) : Rn x (n + 1) s v := by
  obtain ⟨w, h1, h2⟩ := h
  refine ⟨w ++ [i], by simp [h1], ?_⟩
  rw [run_app, h2]
  simp [run_cons, hi, run_nil]
theorem Rn.split : ∀ {n : Nat} {s v : List Int}, Rn x (n + 1) s v → ∃ u i, Rn x n s u ∧ stp x i u = some v
  | 0, s, v, ⟨w, h1, h2⟩ => by
    match w, h1 with
    | [i], _ =>
      rw [run_cons] at h2
      obtain ⟨c, h3, h4⟩ := bs h2
      cases h4
      exact ⟨s, i, Rn_zero.2 rfl, h3⟩
  | n + 1, s, v, ⟨w, h1, h2⟩ => by
    match w, h1 with
    | i :: w, h1 =>
      rw [run_cons] at h2
      obtain ⟨c, h3, h4⟩ := bs h2
      obtain ⟨u, j, ⟨w', h5, h6⟩, h7⟩ := Rn.split (n := n) (s := c) ⟨w, by simpa using h1, h4⟩
      exact ⟨u, j, ⟨i :: w', by simp [h5], by rw [run_cons, h3]; exact h6⟩, h7⟩
theorem Rn.stk (hx : V x) {n : Nat} (hs : Stk x s) (h : Rn x n s v) : Stk x v := by
  obtain ⟨w, _, h⟩ := h
  exact hs.run hx h
theorem D.ex {n : Nat} (h : Rn x n s v) : ∃ k, k ≤ n ∧ D x s v k := by
  induction n using Nat.strongRecOn with
  | _ n ih =>
    by_cases h1 : ∃ m, m < n ∧ Rn x m s v
    · obtain ⟨m, hm, h2⟩ := h1
      obtain ⟨k, hk, h3⟩ := ih m hm h2
      exact ⟨k, by omega, h3⟩
    · exact ⟨n, Nat.le_refl _, h, fun m hm h2 => h1 ⟨m, hm, h2⟩⟩
theorem D.uniq {n m : Nat} (h : D x s v n) (k : D x s v m) : n = m := by
  rcases Nat.lt_trichotomy n m with h1 | h1 | h1
  · exact (k.2 n h1 h.1).elim
  · exact h1
  · exact (h.2 m h1 k.1).elim
theorem D.le {n m : Nat} (h : D x s v n) (k : Rn x m s v) : n ≤ m := by
  rcases Nat.lt_or_ge m n with h1 | h1
  · exact (h.2 m h1 k).elim
  · exact h1
theorem D.refl : D x s s 0 := ⟨Rn_zero.2 rfl, fun m h => by omega⟩
theorem D.pred {n : Nat} (h : D x s v (n + 1)) : ∃ u i, D x s u n ∧ stp x i u = some v := by
  obtain ⟨u, i, h1, h2⟩ := h.1.split
  exact ⟨u, i, ⟨h1, fun m hm h3 => h.2 (m + 1) (by omega) (h3.snoc h2)⟩, h2⟩
theorem Rn.trans {n m : Nat} (h : Rn x n s u) (k : Rn x m u v) : Rn x (n + m) s v := by
  obtain ⟨w, h1, h2⟩ := h
  obtain ⟨w', h3, h4⟩ := k
  exact ⟨w ++ w', by simp [h1, h3], by rw [run_app, h2]; exact h4⟩
end

/-! ### The number of a stock -/
def idxA : Int → List Int → List Int → Int
  | acc, c :: cs, s :: ss => idxA (acc * (c + 1) + s) cs ss
  | acc, _, _ => acc
theorem idxA_bd : ∀ {cs ss : List Int} {acc : Int}, 0 ≤ acc → (∀ c ∈ cs, 0 ≤ c) → inC cs ss = true → ss.length = cs.length → 0 ≤ idxA acc cs ss ∧ idxA acc cs ss + 1 ≤ cs.foldl (fun y c => y * (c + 1)) (acc + 1)
  | [], [], acc, h0, _, _, _ => ⟨h0, Int.le_refl _⟩
  | [], _ :: _, _, _, _, _, hl => by simp at hl
  | _ :: _, [], _, _, _, _, hl => by simp at hl
  | c :: cs, s :: ss, acc, h0, hc, hi, hl => by
    rw [inC_cons] at hi
    simp only [Bool.and_eq_true, decide_eq_true_eq] at hi
    have hc0 := hc c (by simp)
    have h1 : 0 ≤ acc * (c + 1) := Int.mul_nonneg h0 (by omega)
    have ih := idxA_bd (cs := cs) (ss := ss) (acc := acc * (c + 1) + s) (by omega) (fun c hc' => hc c (by simp [hc'])) hi.2 (by simpa using hl)
    simp only [idxA, List.foldl_cons]
    refine ⟨ih.1, Int.le_trans ih.2 ?_⟩
    have mono : ∀ (l : List Int) (a b : Int), (∀ c ∈ l, 0 ≤ c) → a ≤ b → l.foldl (fun y c => y * (c + 1)) a ≤ l.foldl (fun y c => y * (c + 1)) b := by
      intro l
      induction l with
      | nil => intro a b _ h; exact h
      | cons d l ih =>
        intro a b hl h
        have hd := hl d (by simp)
        exact ih _ _ (fun c hc => hl c (by simp [hc])) (Int.mul_le_mul_of_nonneg_right h (by omega))
    refine mono cs _ _ (fun c hc' => hc c (by simp [hc'])) ?_
    have : (acc + 1) * (c + 1) = acc * (c + 1) + (c + 1) := by rw [Int.add_mul, Int.one_mul]
    omega
theorem idxA_inj : ∀ {cs ss tt : List Int} {a b : Int}, inC cs ss = true → inC cs tt = true → ss.length = cs.length → tt.length = cs.length → idxA a cs ss = idxA b cs tt → a = b ∧ ss = tt
  | [], [], [], a, b, _, _, _, _, h => ⟨h, rfl⟩
  | [], _ :: _, _, _, _, _, _, hl, _, _ => by simp at hl
  | [], [], _ :: _, _, _, _, _, _, hl, _ => by simp at hl
  | _ :: _, [], _, _, _, _, _, hl, _, _ => by simp at hl
  | _ :: _, _ :: _, [], _, _, _, _, _, hl, _ => by simp at hl
  | c :: cs, s :: ss, t :: tt, a, b, h1, h2, l1, l2, h => by
    rw [inC_cons] at h1 h2
    simp only [Bool.and_eq_true, decide_eq_true_eq] at h1 h2
    simp only [idxA] at h
    obtain ⟨h3, rfl⟩ := idxA_inj h1.2 h2.2 (by simpa using l1) (by simpa using l2) h
    have h4 : a = b := by
      rcases Int.lt_trichotomy a b with h5 | h5 | h5
      · have : (a + 1) * (c + 1) ≤ b * (c + 1) := Int.mul_le_mul_of_nonneg_right (by omega) (by omega)
        rw [Int.add_mul, Int.one_mul] at this
        omega
      · exact h5
      · have : (b + 1) * (c + 1) ≤ a * (c + 1) := Int.mul_le_mul_of_nonneg_right (by omega) (by omega)
        rw [Int.add_mul, Int.one_mul] at this
        omega
    subst h4
    exact ⟨rfl, by rw [show s = t by omega]⟩
def idx (x : Spec) (s : List Int) : Int := idxA 0 x.1 s
section
variable {x : Spec} {s t : List Int}
theorem idx_bd (hx : V x) (h : Stk x s) : 0 ≤ idx x s ∧ idx x s < prd x.1 := by
  have := idxA_bd (acc := 0) (Int.le_refl _) (fun c hc => (hx.cap c hc).1) h.inc h.len
  unfold idx prd
  simp only [Int.zero_add] at this
  omega
theorem idx_inj (h : Stk x s) (k : Stk x t) (e : idx x s = idx x t) : s = t := (idxA_inj h.inc k.inc h.len k.len e).2
theorem nodup_len : ∀ (N : Nat) (M : List Int), M.Nodup → (∀ w ∈ M, 0 ≤ w ∧ w < N) → M.length ≤ N
  | 0, M, _, h => by
    cases M with
    | nil => simp
    | cons a M => have := h a (by simp); omega
  | N + 1, M, hn, h => by
    have h1 := nodup_len N (M.filter fun w => !decide (w = (N : Int))) (hn.filter _) (fun w hw => by
      simp only [List.mem_filter, Bool.not_eq_true', decide_eq_false_iff_not] at hw
      have := h w hw.1
      omega)
    have h2 : M.length ≤ (M.filter fun w => !decide (w = (N : Int))).length + 1 := by
      clear h h1
      induction M with
      | nil => simp
      | cons a M ih =>
        simp only [List.nodup_cons] at hn
        by_cases ha : a = (N : Int)
        · have e : (M.filter fun w => !decide (w = (N : Int))) = M := by
            refine List.filter_eq_self.2 fun w hw => ?_
            simp only [Bool.not_eq_true', decide_eq_false_iff_not]
            rintro rfl
            exact hn.1 (ha ▸ hw)
          rw [List.filter_cons, ha, if_neg (by simp), e]
          exact Nat.le_refl _
        · rw [List.filter_cons, if_pos (by simp [ha]), List.length_cons, List.length_cons]
          have := ih hn.2
          omega
    omega
theorem nodup_map {α : Type} {f : α → Int} : ∀ {l : List α}, l.Nodup → (∀ a ∈ l, ∀ b ∈ l, f a = f b → a = b) → (l.map f).Nodup
  | [], _, _ => List.nodup_nil
  | a :: l, h, hi => by
    rw [List.nodup_cons] at h
    rw [List.map_cons, List.nodup_cons]
    refine ⟨fun hm => ?_, nodup_map h.2 fun b hb c hc => hi b (by simp [hb]) c (by simp [hc])⟩
    obtain ⟨b, hb, e⟩ := List.mem_map.1 hm
    have := hi b (by simp [hb]) a (by simp) e
    subst this
    exact h.1 hb
theorem stocks_len (hx : V x) {Q : List (List Int)} (hq : Q.Nodup) (h : ∀ v ∈ Q, Stk x v) : (Q.length : Int) ≤ prd x.1 := by
  have h0 : 0 ≤ prd x.1 := (many_eq (F := 1000001) (by omega) (by have := hx.k5; omega) (inr_iff.2 hx.cap)).2
  have := nodup_len (prd x.1).toNat (Q.map (idx x)) (nodup_map hq fun a ha b hb e => idx_inj (h a ha) (h b hb) e) fun w hw => by
    obtain ⟨v, hv, rfl⟩ := List.mem_map.1 hw
    have := idx_bd hx (h v hv)
    omega
  rw [List.length_map] at this
  omega
end

/-! ### The search by a queue -/
structure BI (x : Spec) (s : List Int) (Q : List (List Int)) (n i l0 : Nat) (by_ : By) (left : Left) : Prop where
  nd : Q.Nodup
  stk : ∀ v ∈ Q, Stk x v
  hd : s ∈ Q
  lft : ∀ j (h : j < Q.length), l0 ≤ j → mget z79 left (j : Int) = pad Q[j]
  bh : ∀ v, Stk x v → (mhas by_ (pad v) = true ↔ v ∈ Q)
  par : ∀ v ∈ Q, (v = s ∧ mget z111 by_ (pad v) = ((-1, z79) : Step)) ∨ ∃ i u k, mget z111 by_ (pad v) = ((i, pad u) : Step) ∧ u ∈ Q ∧ stp x i u = some v ∧ D x s u k ∧ D x s v (k + 1)
  lev : ∀ j k (hj : j < Q.length) (hk : k < Q.length), j ≤ k → ∀ a b, D x s Q[j] a → D x s Q[k] b → a ≤ b
  dd : ∀ v ∈ Q, ∃ k, D x s v k
  cl : ∀ j (h : j < Q.length), j < n → ∀ i v, stp x i Q[j] = some v → v ∈ Q
  cli : ∀ (h : n < Q.length) (j : Nat) v, j < i → stp x (j : Int) Q[n] = some v → v ∈ Q
  gap : ∀ (h : n < Q.length) j (hj : j < Q.length) a b, D x s Q[n] a → D x s Q[j] b → b ≤ a + 1
section
variable {x : Spec} {s : List Int} {Q : List (List Int)} {n i l0 : Nat} {by_ : By} {left : Left}
theorem BI.comp (h : BI x s Q n i l0 by_ left) (hn : n < Q.length) {a : Nat} (ha : D x s Q[n] a) : ∀ k, k ≤ a → ∀ v, D x s v k → v ∈ Q := by
  intro k
  induction k with
  | zero =>
    intro _ v hv
    have := Rn_zero.1 hv.1
    subst this
    exact h.hd
  | succ k ih =>
    intro hk v hv
    obtain ⟨u, j, hu, hj⟩ := hv.pred
    obtain ⟨q, hq, rfl⟩ := List.getElem_of_mem (ih (by omega) u hu)
    rcases Nat.lt_or_ge q n with h1 | h1
    · exact h.cl q hq h1 j v hj
    · have := h.lev n q hn hq h1 a k ha hu
      omega
theorem BI.skip (h : BI x s Q n i l0 by_ left) (hn : n < Q.length) (hc : ∀ v, stp x (i : Int) Q[n] = some v → v ∈ Q) : BI x s Q n (i + 1) l0 by_ left := by
  refine { h with cli := fun hn j v hj hv => ?_ }
  rcases Nat.lt_or_ge j i with h1 | h1
  · exact h.cli hn j v h1 hv
  · have : j = i := by omega
    subst this
    exact hc v hv
theorem BI.add (hx : V x) (h : BI x s Q n i l0 by_ left) (hn : n < Q.length) {v : List Int} (hv : stp x (i : Int) Q[n] = some v) (hq : v ∉ Q) :
    BI x s (Q ++ [v]) n (i + 1) l0 (mput by_ (pad v) (((i : Int), pad Q[n]) : Step)) (mput left (Q.length : Int) (pad v)) := by
  have hm : Q[n] ∈ Q := List.getElem_mem hn
  have hst := (h.stk _ hm).stp hx hv
  have hne : ∀ u, Stk x u → pad v = pad u → v = u := fun u hu e => pad_inj (by rw [hst.len, hu.len]) (by rw [hst.len]; exact hx.k5) e
  obtain ⟨a, ha⟩ := h.dd _ hm
  have hd : D x s v (a + 1) := by
    refine ⟨ha.1.snoc hv, fun m hm2 hr => ?_⟩
    obtain ⟨k, hk, hk2⟩ := D.ex hr
    exact hq (h.comp hn ha k (by omega) v hk2)
  have old : ∀ {j : Nat} (hj : j < (Q ++ [v]).length), (∃ h : j < Q.length, (Q ++ [v])[j] = Q[j]) ∨ (j = Q.length ∧ (Q ++ [v])[j] = v) := by
    intro j hj
    rcases Nat.lt_or_ge j Q.length with h1 | h1
    · exact .inl ⟨h1, List.getElem_append_left h1⟩
    · have : j = Q.length := by simp at hj; omega
      subst this
      exact .inr ⟨rfl, by simp⟩
  have hnn : (Q ++ [v])[n]'(by simp; omega) = Q[n] := List.getElem_append_left hn
  refine ⟨?_, ?_, by simp [h.hd], ?_, ?_, ?_, ?_, ?_, ?_, ?_, ?_⟩
  · rw [List.nodup_append]
    refine ⟨h.nd, by simp, fun u hu w hw => ?_⟩
    simp only [List.mem_singleton] at hw
    subst hw
    rintro rfl
    exact hq hu
  · intro u hu
    rcases List.mem_append.1 hu with h1 | h1
    · exact h.stk u h1
    · simp only [List.mem_singleton] at h1
      subst h1
      exact hst
  · intro j hj hl
    rw [mget_put]
    rcases old hj with ⟨h1, e⟩ | ⟨h1, e⟩
    · rw [e, if_neg (by omega)]
      exact h.lft j h1 hl
    · rw [e, h1, if_pos rfl]
  · intro u hu
    rw [mhas_put]
    by_cases e : pad v = pad u
    · rw [if_pos e, hne u hu e]
      simp
    · rw [if_neg e, h.bh u hu]
      simp only [List.mem_append, List.mem_singleton]
      exact ⟨.inl, fun h1 => h1.elim id fun h2 => (e (by rw [h2])).elim⟩
  · intro u hu
    rw [mget_put]
    by_cases e : pad v = pad u
    · rw [if_pos e]
      have hu' : Stk x u := by
        rcases List.mem_append.1 hu with h1 | h1
        · exact h.stk u h1
        · simp only [List.mem_singleton] at h1
          subst h1
          exact hst
      have := hne u hu' e
      subst this
      exact .inr ⟨_, _, a, rfl, by simp [hm], hv, ha, hd⟩
    · rw [if_neg e]
      have hu' : u ∈ Q := by
        rcases List.mem_append.1 hu with h1 | h1
        · exact h1
        · simp only [List.mem_singleton] at h1
          exact (e (by rw [h1])).elim
      rcases h.par u hu' with h1 | ⟨j, w, k, h1, h2, h3⟩
      · exact .inl h1
      · exact .inr ⟨j, w, k, h1, by simp [h2], h3⟩
  · intro j k hj hk hjk b c hb hc
    rcases old hj with ⟨h1, e⟩ | ⟨h1, e⟩ <;> rcases old hk with ⟨h2, e2⟩ | ⟨h2, e2⟩
    · rw [e] at hb
      rw [e2] at hc
      exact h.lev j k h1 h2 hjk b c hb hc
    · rw [e] at hb
      rw [e2] at hc
      have := hc.uniq hd
      have := h.gap hn j h1 a b ha hb
      omega
    · omega
    · rw [e] at hb
      rw [e2] at hc
      have := hc.uniq hb
      omega
  · intro u hu
    rcases List.mem_append.1 hu with h1 | h1
    · exact h.dd u h1
    · simp only [List.mem_singleton] at h1
      subst h1
      exact ⟨_, hd⟩
  · intro j hj hjn k u hu
    rcases old hj with ⟨h1, e⟩ | ⟨h1, e⟩
    · rw [e] at hu
      simp [h.cl j h1 hjn k u hu]
    · omega
  · intro _ j u hj hu
    rw [hnn] at hu
    rcases Nat.lt_or_ge j i with h1 | h1
    · simp [h.cli hn j u h1 hu]
    · have : j = i := by omega
      subst this
      rw [hv] at hu
      cases hu
      simp
  · intro _ j hj b c hb hc
    rw [hnn] at hb
    rcases old hj with ⟨h1, e⟩ | ⟨h1, e⟩
    · rw [e] at hc
      exact h.gap hn j h1 b c hb hc
    · rw [e] at hc
      have := hb.uniq ha
      have := hc.uniq hd
      omega
theorem BI.next (h : BI x s Q n i l0 by_ left) (hn : n < Q.length) (hi : x.2.length ≤ i) : BI x s Q (n + 1) 0 l0 by_ left := by
  refine { h with cl := fun j hj hjn k v hv => ?_, cli := fun _ j v hj => by omega, gap := fun hn1 j hj a b ha hb => ?_ }
  · rcases Nat.lt_or_ge j n with h1 | h1
    · exact h.cl j hj h1 k v hv
    · have : j = n := by omega
      subst this
      have := stp_ix hv
      obtain ⟨q, rfl⟩ : ∃ q : Nat, k = (q : Int) := ⟨k.toNat, by omega⟩
      exact h.cli hn q v (by omega) hv
  · obtain ⟨c, hc⟩ := h.dd _ (List.getElem_mem hn)
    have := h.lev n (n + 1) hn hn1 (by omega) c a hc ha
    have := h.gap hn j hj c b hc hb
    omega
end
theorem stp_eq {x : Spec} {i : Int} {m : Mv} {a : List Int} (hm : ix x.2 i = some m) : stp x i a = if okm x.1 a m.1 m.2 = true then some (nx a m.1 m.2) else none := by
  unfold stp
  rw [hm]
  rfl

theorem rch_in_eq {F : Nat} {x : Spec} {s : List Int} (hF : 1000000 < F) (hx : V x) (hs : Stk x s) {n : Nat} : ∀ m i (Q : List (List Int)) (by_ : By) (left : Left), i ≤ x.2.length → x.2.length - i < m → (hn : n < Q.length) → BI x s Q n i (n + 1) by_ left →
    ∃ (R : List (List Int)) (b2 : By) (l2 : Left), rch_in F x (pad Q[n]) m (i : Int) by_ left (Q.length : Int) = some (b2, l2, ((Q ++ R).length : Int)) ∧ BI x s (Q ++ R) (n + 1) 0 (n + 1) b2 l2
  | 0, i, _, _, _, _, h, _, _ => by omega
  | m + 1, i, Q, by_, left, hi, h, hn, hb => by
    have hlen := stocks_len hx hb.nd hb.stk
    have hp := hx.prd
    have m8 := hx.m8
    unfold rch_in
    by_cases hlt : i < x.2.length
    · rw [if_pos (ltd hlt)]
      have hm : ix x.2 (i : Int) = some x.2[i] := ix_nat hlt
      have hq := hb.stk _ (List.getElem_mem hn)
      simp only [Option.bind_eq_bind, after_eq hF hx hq hm, Option.bind_some]
      have hst := stp_eq (a := Q[n]) hm
      by_cases e : okm x.1 Q[n] x.2[i].1 x.2[i].2 = true
      · rw [if_pos e] at hst
        have hst2 := hq.stp hx hst
        rw [e]
        simp only [Bool.not_true, Bool.false_eq_true, if_false, kok_pad hx hst2, Option.bind_some]
        by_cases e2 : nx Q[n] x.2[i].1 x.2[i].2 ∈ Q
        · rw [(hb.bh _ hst2).2 e2]
          simp only [Bool.not_true, Bool.false_eq_true, if_false]
          rw [w64_succ (by omega)]
          exact rch_in_eq hF hx hs m (i + 1) Q by_ left (by omega) (by omega) hn (hb.skip hn fun v hv => by rw [hst] at hv; cases hv; exact e2)
        · have e3 : mhas by_ (pad (nx Q[n] x.2[i].1 x.2[i].2)) = false := by
            have := hb.bh _ hst2
            cases h4 : mhas by_ (pad (nx Q[n] x.2[i].1 x.2[i].2)) with
            | false => rfl
            | true => exact (e2 (this.1 h4)).elim
          rw [e3]
          simp only [Bool.not_false, if_true, kok_int (n := Q.length) (by omega), Option.bind_some]
          have h5 := hb.add hx hn hst e2
          rw [w64_succ (by omega), w64_succ (by omega)]
          obtain ⟨R, b2, l2, h6, h7⟩ := rch_in_eq hF hx hs (n := n) m (i + 1) _ _ _ (by omega) (by omega) (by simp; omega) h5
          have hg : (Q ++ [nx Q[n] x.2[i].1 x.2[i].2])[n]'(by simp; omega) = Q[n] := List.getElem_append_left hn
          rw [hg, show (Q ++ [nx Q[n] x.2[i].1 x.2[i].2]).length = Q.length + 1 by simp] at h6
          exact ⟨nx Q[n] x.2[i].1 x.2[i].2 :: R, b2, l2, by rw [h6]; simp, by simpa using h7⟩
      · rw [if_neg e] at hst
        have e : okm x.1 Q[n] x.2[i].1 x.2[i].2 = false := by simpa using e
        rw [e]
        simp only [Bool.not_false, if_true]
        rw [w64_succ (by omega)]
        exact rch_in_eq hF hx hs m (i + 1) Q by_ left (by omega) (by omega) hn (hb.skip hn fun v hv => by rw [hst] at hv; cases hv)
    · have : i = x.2.length := by omega
      subst this
      rw [if_neg nltd]
      exact ⟨[], by_, left, by simp, by simpa using hb.next hn (Nat.le_refl _)⟩

/-- A map of how stocks were reached: it leads back to s. -/
def ByOk (x : Spec) (s : List Int) (by_ : By) : Prop := ∀ v, Stk x v → mhas by_ (pad v) = true → (v = s ∧ mget z111 by_ (pad v) = ((-1, z79) : Step)) ∨ ∃ i u k, mget z111 by_ (pad v) = ((i, pad u) : Step) ∧ Stk x u ∧ mhas by_ (pad u) = true ∧ stp x i u = some v ∧ D x s u k ∧ D x s v (k + 1)
theorem BI.byok {x : Spec} {s : List Int} {Q : List (List Int)} {n i l0 : Nat} {by_ : By} {left : Left} (h : BI x s Q n i l0 by_ left) : ByOk x s by_ := by
  intro v hv hm
  rcases h.par v ((h.bh v hv).1 hm) with h1 | ⟨i, u, k, h1, h2, h3⟩
  · exact .inl h1
  · exact .inr ⟨i, u, k, h1, h.stk u h2, (h.bh u (h.stk u h2)).2 h2, h3⟩
/-- What the iterator hands out. -/
structure Out (x : Spec) (s : List Int) (Q : List (List Int)) (us : List (St × By)) (bf : By) : Prop where
  map : us.map (·.1) = Q.map pad
  byok : ∀ (k : Nat) (p : St × By) (v : List Int), us[k]? = some p → Q[k]? = some v → p.1 = pad v ∧ mhas p.2 (pad v) = true ∧ ByOk x s p.2
  bf : ByOk x s bf ∧ ∀ v ∈ Q, mhas bf (pad v) = true
structure All (x : Spec) (s : List Int) (Q : List (List Int)) : Prop where
  nd : Q.Nodup
  hd : Q[0]? = some s
  stk : ∀ v ∈ Q, Stk x v
  dd : ∀ v ∈ Q, ∃ k, D x s v k
  all : ∀ v k, Rn x k s v → v ∈ Q
  lev : ∀ j k (hj : j < Q.length) (hk : k < Q.length), j ≤ k → ∀ a b, D x s Q[j] a → D x s Q[k] b → a ≤ b

theorem rch_out_eq {F : Nat} {x : Spec} {s : List Int} (hF : 1000000 < F) (hx : V x) (hs : Stk x s) : ∀ (m n : Nat) (Q : List (List Int)) (by_ : By) (left : Left), n ≤ Q.length → prd x.1 - (n : Int) < (m : Int) → BI x s Q n 0 n by_ left →
    ∃ (R : List (List Int)) (us : List (St × By)) (bf : By), rch_out F x m (n : Int) (Q.length : Int) by_ left = some (us, bf) ∧ us.map (·.1) = ((Q ++ R).drop n).map pad ∧ (∃ l2, BI x s (Q ++ R) (Q ++ R).length 0 (Q ++ R).length bf l2) ∧
      ∀ (k : Nat) (p : St × By) (v : List Int), us[k]? = some p → (Q ++ R)[n + k]? = some v → p.1 = pad v ∧ mhas p.2 (pad v) = true ∧ ByOk x s p.2
  | 0, n, Q, _, _, hn, h, hb => by
    have := stocks_len hx hb.nd hb.stk
    omega
  | m + 1, n, Q, by_, left, hn, h, hb => by
    have hlen := stocks_len hx hb.nd hb.stk
    have hp := hx.prd
    unfold rch_out
    by_cases hlt : n < Q.length
    · have hq := hb.stk _ (List.getElem_mem hlt)
      rw [if_pos (ltd hlt), hb.lft n hlt (Nat.le_refl _)]
      simp only [Option.bind_eq_bind, kok_int (n := n) (by omega), Option.bind_some]
      have hb' : BI x s Q n 0 (n + 1) by_ (mdel left (n : Int)) := { hb with lft := fun j hj hl => by rw [mget_del (by omega)]; exact hb.lft j hj (by omega) }
      obtain ⟨R, b2, l2, h1, h2⟩ := rch_in_eq hF hx hs (n := n) F 0 Q by_ (mdel left (n : Int)) (by omega) (by have := hx.m8; omega) hlt hb'
      simp only [Int.natCast_zero] at h1
      rw [h1]
      simp only [Option.bind_some]
      rw [w64_succ (by omega)]
      obtain ⟨R2, us, bf, h3, h4, h5, h6⟩ := rch_out_eq hF hx hs m (n + 1) (Q ++ R) b2 l2 (by simp; omega) (by omega) h2
      rw [h3]
      have hg : (Q ++ R ++ R2)[n]? = some Q[n] := by
        rw [List.append_assoc, List.getElem?_append_left hlt, List.getElem?_eq_getElem hlt]
      refine ⟨R ++ R2, (pad Q[n], by_) :: us, bf, by simp, ?_, by rw [← List.append_assoc]; exact h5, ?_⟩
      · rw [← List.append_assoc, List.map_cons, h4]
        have hl : n < (Q ++ R ++ R2).length := by simp; omega
        rw [List.drop_eq_getElem_cons hl, List.map_cons]
        congr 2
        rw [List.getElem?_eq_getElem hl] at hg
        exact congrArg pad (Option.some.inj hg).symm
      · intro k p v hk hv
        rw [← List.append_assoc] at hv
        cases k with
        | zero =>
          simp only [List.getElem?_cons_zero, Option.some.injEq] at hk
          rw [Nat.add_zero, hg] at hv
          cases hk
          cases hv
          exact ⟨rfl, (hb.bh _ hq).2 (List.getElem_mem hlt), hb.byok⟩
        | succ k =>
          simp only [List.getElem?_cons_succ] at hk
          exact h6 k p v hk (by rw [show n + 1 + k = n + (k + 1) by omega]; exact hv)
    · have : n = Q.length := by omega
      subst this
      rw [if_neg nltd]
      exact ⟨[], [], by_, rfl, by simp, ⟨left, by simpa using hb⟩, by simp⟩

theorem reached_eq {F : Nat} {x : Spec} {s : List Int} (hF : 1000000 < F) (hx : V x) (hs : Stk x s) : ∃ (Q : List (List Int)) (us : List (St × By)) (bf : By), bath_reached F x (pad s) = some (us, bf) ∧ Out x s Q us bf ∧ All x s Q := by
  unfold bath_reached
  simp only [Option.bind_eq_bind, kok_pad hx hs, Option.bind_some]
  have h0 : BI x s [s] 0 0 0 (mput [] (pad s) ((-1, z79) : Step)) (mput [] 0 (pad s)) := by
    refine ⟨by simp, by simpa using hs, by simp, ?_, ?_, ?_, ?_, ?_, ?_, ?_, ?_⟩
    · intro j hj _
      have : j = 0 := by simp at hj; omega
      subst this
      rw [mget_put]
      simp
    · intro v hv
      rw [mhas_put]
      by_cases e : pad s = pad v
      · have := pad_inj (by rw [hs.len, hv.len]) (by rw [hs.len]; exact hx.k5) e
        subst this
        simp
      · rw [if_neg e]
        simp only [mhas, List.mem_singleton]
        constructor
        · intro h; cases h
        · rintro rfl; exact (e rfl).elim
    · intro v hv
      simp only [List.mem_singleton] at hv
      subst hv
      exact .inl ⟨rfl, by rw [mget_put, if_pos rfl]⟩
    · intro j k hj hk _ a b ha hb
      have h1 : j = 0 := by simp at hj; omega
      have h2 : k = 0 := by simp at hk; omega
      subst h1 h2
      rw [ha.uniq hb]
      exact Nat.le_refl _
    · intro v hv
      simp only [List.mem_singleton] at hv
      subst hv
      exact ⟨0, D.refl⟩
    · intro j _ hj; omega
    · intro _ j v hj; omega
    · intro _ j hj a b _ hb
      have : j = 0 := by simp at hj; omega
      subst this
      have hb' : D x s s b := hb
      have := hb'.uniq D.refl
      omega
  obtain ⟨R, us, bf, h1, h2, ⟨l2, h3⟩, h4⟩ := rch_out_eq hF hx hs F 0 [s] _ _ (by simp) (by have := hx.prd; simp only [Int.natCast_zero]; omega) h0
  refine ⟨[s] ++ R, us, bf, by simpa using h1, ⟨by simpa using h2, fun k p v hk hv => h4 k p v hk (by simpa using hv), h3.byok, fun v hv => (h3.bh v (h3.stk v hv)).2 hv⟩, h3.nd, by simp, h3.stk, h3.dd, ?_, h3.lev⟩
  intro v k
  induction k generalizing v with
  | zero =>
    intro h
    have := Rn_zero.1 h
    subst this
    exact h3.hd
  | succ k ih =>
    intro h
    obtain ⟨u, i, h5, h6⟩ := h.split
    obtain ⟨q, hq, rfl⟩ := List.getElem_of_mem (ih u h5)
    exact h3.cl q hq hq i v h6

/-! ### The way to a stock -/
theorem reverse_eq {F : Nat} {l : List Int} (hF : 1000000 < F) (hl : l.length ≤ 1000000) : slices_Reverse_int F l = some l.reverse := by
  unfold slices_Reverse_int
  have loop : ∀ m i (y : List Int), l.length - i < m → y.length = l.length → 2 * i ≤ l.length + 1 → (∀ k, k < l.length → (k < i ∨ l.length - 1 - i < k → y[k]? = l.reverse[k]?) ∧ (i ≤ k → k ≤ l.length - 1 - i → y[k]? = l[k]?)) →
      slices_Reverse_int_l1 m y (i : Int) ((l.length : Int) - 1 - i) = some l.reverse := by
    intro m
    induction m with
    | zero => intro i y h; omega
    | succ m ih =>
      intro i y h hy h2 hk
      simp only [slices_Reverse_int_l1]
      by_cases hlt : (i : Int) < (l.length : Int) - 1 - i
      · obtain ⟨j, hj⟩ : ∃ j : Nat, (l.length : Int) - 1 - i = (j : Int) := ⟨l.length - 1 - i, by omega⟩
        have hj' : j = l.length - 1 - i := by omega
        have hil : i < y.length := by omega
        have hjl : j < y.length := by omega
        rw [hj] at hlt ⊢
        rw [if_pos (by simpa using hlt), ix_nat hjl, ix_nat hil]
        simp only [Option.bind_eq_bind, Option.bind_some]
        rw [w64_succ (by omega), w64_in (by omega), show (j : Int) - 1 = (l.length : Int) - 1 - ((i + 1 : Nat) : Int) by omega]
        have e1 : y[j]? = l[j]? := (hk j (by omega)).2 (by omega) (by omega)
        have e2 : y[i]? = l[i]? := (hk i (by omega)).2 (by omega) (by omega)
        refine ih (i + 1) _ (by omega) (by simp [rset, hy]) (by omega) fun k hkl => ?_
        simp only [rset, Int.toNat_natCast]
        rw [List.getElem?_set, List.getElem?_set]
        have hr : l.reverse[k]? = l[l.length - 1 - k]? := List.getElem?_reverse hkl
        by_cases c1 : j = k
        · subst c1
          rw [if_pos rfl, if_pos (by simpa using hjl)]
          refine ⟨fun _ => ?_, fun h3 h4 => by omega⟩
          rw [hr, show l.length - 1 - j = i by omega, ← e2, List.getElem?_eq_getElem hil]
        · rw [if_neg c1]
          by_cases c2 : i = k
          · subst c2
            rw [if_pos rfl, if_pos hil]
            refine ⟨fun _ => ?_, fun h3 h4 => by omega⟩
            rw [hr, show l.length - 1 - i = j by omega, ← e1, List.getElem?_eq_getElem hjl]
          · rw [if_neg c2]
            exact ⟨fun h3 => (hk k hkl).1 (by omega), fun h3 h4 => (hk k hkl).2 (by omega) (by omega)⟩
      · rw [if_neg (by simpa using hlt)]
        congr 1
        apply List.ext_getElem?
        intro k
        by_cases hkl : k < l.length
        · by_cases c : k < i ∨ l.length - 1 - i < k
          · exact (hk k hkl).1 c
          · have e := (hk k hkl).2 (by omega) (by omega)
            rw [e, List.getElem?_reverse hkl]
            congr 1
            omega
        · rw [List.getElem?_eq_none (by omega), List.getElem?_eq_none (by simp; omega)]
  have := loop F 0 l (by omega) rfl (by omega) fun k hk => ⟨fun h => by omega, fun _ _ => rfl⟩
  simp only [Int.natCast_zero, Int.sub_zero] at this
  rw [← this]
  congr 1
  exact w64_in (by omega)

theorem way_eq {F : Nat} {x : Spec} {s : List Int} (hF : 1000000 < F) (hx : V x) (hs : Stk x s) {by_ : By} (hb : ByOk x s by_) {v : List Int} (hv : Stk x v) (hm : mhas by_ (pad v) = true) {n : Nat} (hd : D x s v n) (hn : n ≤ 5000) :
    ∃ w, bath_shop_way F by_ (pad v) = some w ∧ w.length = n ∧ run x w s = some v := by
  have loop : ∀ (n : Nat) (v : List Int) (m : Nat) (out : List Int), Stk x v → mhas by_ (pad v) = true → D x s v n → n < m → out.length + n ≤ 5000 →
      ∃ w, bath_shop_way_l1 by_ m (mget z111 by_ (pad v)) out = some (out ++ w) ∧ w.length = n ∧ run x w.reverse s = some v := by
    intro n
    induction n with
    | zero =>
      intro v m out hv hm hd hnm ho
      obtain ⟨m, rfl⟩ : ∃ q, m = q + 1 := ⟨m - 1, by omega⟩
      have e := Rn_zero.1 hd.1
      subst e
      rcases hb v hv hm with ⟨_, h1⟩ | ⟨i, u, k, h1, _, _, _, _, h2⟩
      · rw [h1]
        refine ⟨[], ?_, rfl, rfl⟩
        simp [bath_shop_way_l1]
      · have := hd.uniq h2
        omega
    | succ n ih =>
      intro v m out hv hm hd hnm ho
      obtain ⟨m, rfl⟩ : ∃ q, m = q + 1 := ⟨m - 1, by omega⟩
      rcases hb v hv hm with ⟨rfl, h1⟩ | ⟨i, u, k, h1, h2, h3, h4, h5, h6⟩
      · have := hd.uniq D.refl
        omega
      · have hk : n = k := by have := hd.uniq h6; omega
        subst hk
        have hi := stp_ix h4
        rw [h1]
        simp only [bath_shop_way_l1]
        rw [if_pos (by simpa using hi.1), app_some (by simp; omega)]
        simp only [Option.bind_eq_bind, Option.bind_some, kok_pad hx h2]
        obtain ⟨w, h7, h8, h9⟩ := ih u m (out ++ [i]) h2 h3 h5 (by omega) (by simp; omega)
        refine ⟨i :: w, by rw [h7]; simp, by simp [h8], ?_⟩
        rw [List.reverse_cons, run_app, h9]
        simp [run_cons, h4, run_nil]
  obtain ⟨w, h1, h2, h3⟩ := loop n v F [] hv hm hd (by omega) (by simp; omega)
  unfold bath_shop_way
  simp only [Option.bind_eq_bind, kok_pad hx hv, Option.bind_some]
  rw [h1, List.nil_append]
  simp only [Option.bind_some]
  exact ⟨w.reverse, reverse_eq hF (by omega), by simpa using h2, h3⟩
end Go.Proofs.Ytboefnpnoojfpaa
