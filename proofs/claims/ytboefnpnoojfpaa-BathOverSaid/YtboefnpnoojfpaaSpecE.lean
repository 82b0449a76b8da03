/-
  The reference's search, round by round. Condition: there are enough rounds.
-/
import Derived.Test.YtboefnpnoojfpaaSpecD
namespace Go.Proofs.Ytboefnpnoojfpaa
open Go Go.Md Go.RowKit

/-! ### Numbers of stocks -/
theorem index_eq {F : Nat} {x : Spec} {s : List Int} (hF : 1000000 < F) (hx : V x) (hs : Stk x s) : ref11_index F x s = some (idx x s) := by
  have k5 := hx.k5
  have hl := hs.len
  have loop : ∀ m k y, k ≤ s.length → s.length - k < m → 0 ≤ y ∧ y + 1 ≤ (10 : Int) ^ k → ref11_index_l1 F x s m y (k : Int) = some (idxA y (x.1.drop k) (s.drop k)) := by
    intro m
    induction m with
    | zero => intro k y _ h; omega
    | succ m ih =>
      intro k y hk h hy
      simp only [ref11_index_l1]
      by_cases hlt : k < s.length
      · have c1 : k < x.1.length := by omega
        have b1 := hs.rng hx _ (List.getElem_mem hlt)
        have b2 := hx.cap _ (List.getElem_mem c1)
        have b3 := inC_get hs.inc k hlt c1
        rw [if_pos (ltd hlt), ix_nat hlt, ix_nat c1, w64_succ (by omega), List.drop_eq_getElem_cons hlt, List.drop_eq_getElem_cons c1]
        have hp := pow10 k (by omega)
        have e1 : w64 (x.1[k] + 1) = x.1[k] + 1 := w64_in (by omega)
        have h1 : 0 ≤ y * (x.1[k] + 1) := Int.mul_nonneg hy.1 (by omega)
        have h2 : y * (x.1[k] + 1) ≤ y * 10 := Int.mul_le_mul_of_nonneg_left (by omega) hy.1
        have e2 : w64 (y * (x.1[k] + 1)) = y * (x.1[k] + 1) := w64_in (by omega)
        have e3 : w64 (y * (x.1[k] + 1) + s[k]) = y * (x.1[k] + 1) + s[k] := w64_in (by omega)
        simp only [Option.bind_eq_bind, Option.bind_some, e1, e2, e3, idxA]
        refine ih (k + 1) _ (by omega) (by omega) ⟨by omega, ?_⟩
        rw [Int.pow_succ]
        omega
      · have : k = s.length := by omega
        subst this
        rw [if_neg nltd, List.drop_length]
        cases x.1.drop s.length <;> rfl
  unfold ref11_index
  have := loop F 0 0 (by omega) (by omega) (by simp)
  simp only [Int.natCast_zero, List.drop_zero] at this
  rw [this]
  rfl
theorem idxA_snoc : ∀ {cs ss : List Int} {acc : Int} {k : Nat} (h : k < cs.length) (h' : k < ss.length), idxA acc (cs.take (k + 1)) (ss.take (k + 1)) = idxA acc (cs.take k) (ss.take k) * (cs[k] + 1) + ss[k]
  | [], _, _, _, h, _ => by simp at h
  | _ :: _, [], _, _, _, h => by simp at h
  | c :: cs, s :: ss, acc, 0, _, _ => by simp [idxA]
  | c :: cs, s :: ss, acc, k + 1, h, h' => by
    have := idxA_snoc (cs := cs) (ss := ss) (acc := acc * (c + 1) + s) (k := k) (by simpa using h) (by simpa using h')
    simpa [idxA] using this
theorem stock_eq {F : Nat} {x : Spec} {v : List Int} (hF : 1000000 < F) (hx : V x) (hv : Stk x v) : ref11_stock F x (idx x v) = some v := by
  have k5 := hx.k5
  have hl := hv.len
  have loop : ∀ k m (y : List Int), k ≤ v.length → k < m → y.length = v.length → y.drop k = v.drop k → ref11_stock_l1 F x m (idxA 0 (x.1.take k) (v.take k)) y ((k : Int) - 1) = some v := by
    intro k
    induction k with
    | zero =>
      intro m y _ hm hy hd
      obtain ⟨m, rfl⟩ : ∃ q, m = q + 1 := ⟨m - 1, by omega⟩
      simp only [ref11_stock_l1]
      rw [if_neg (by simp)]
      simpa using hd
    | succ k ih =>
      intro m y hk hm hy hd
      obtain ⟨m, rfl⟩ : ∃ q, m = q + 1 := ⟨m - 1, by omega⟩
      have c0 : k < v.length := by omega
      have c1 : k < x.1.length := by omega
      have c2 : k < y.length := by omega
      have b2 := hx.cap _ (List.getElem_mem c1)
      have b3 := inC_get hv.inc k c0 c1
      have hb := idxA_bd (acc := 0) (cs := x.1.take k) (ss := v.take k) (Int.le_refl _) (fun c hc => (hx.cap c (List.mem_of_mem_take hc)).1) (by
        have : ∀ (k : Nat) (cs ss : List Int), inC cs ss = true → inC (cs.take k) (ss.take k) = true := by
          intro k
          induction k with
          | zero => intro cs ss _; rfl
          | succ k ih =>
            intro cs ss h
            match cs, ss with
            | [], _ => rfl
            | _ :: _, [] => rfl
            | c :: cs, s :: ss =>
              rw [inC_cons] at h
              rw [List.take_succ_cons, List.take_succ_cons, inC_cons]
              simp only [Bool.and_eq_true] at h ⊢
              exact ⟨h.1, ih cs ss h.2⟩
        exact this k _ _ hv.inc) (by simp; omega)
      have hf : (x.1.take k).foldl (fun y c => y * (c + 1)) (0 + 1) ≤ 1000000000 := by
        have : ∀ (l : List Int) (a : Int) (n : Nat), l.length + n < 10 → (∀ c ∈ l, 0 ≤ c ∧ c ≤ 9) → 0 ≤ a → a ≤ (10 : Int) ^ n → l.foldl (fun y c => y * (c + 1)) a ≤ 1000000000 := by
          intro l
          induction l with
          | nil => intro a n h _ _ ha; exact Int.le_trans ha (pow10 n (by simpa using h))
          | cons c l ih =>
            intro a n h hc h0 ha
            have := hc c (by simp)
            simp only [List.length_cons] at h
            refine ih _ (n + 1) (by omega) (fun d hd => hc d (by simp [hd])) (Int.mul_nonneg h0 (by omega)) ?_
            have h1 : a * (c + 1) ≤ a * 10 := Int.mul_le_mul_of_nonneg_left (by omega) h0
            show a * (c + 1) ≤ (10 : Int) ^ (n + 1)
            rw [Int.pow_succ]
            omega
        exact this _ _ 0 (by simp; omega) (fun c hc => hx.cap c (List.mem_of_mem_take hc)) (by omega) (by simp)
      generalize hI : idxA 0 (x.1.take k) (v.take k) = I at hb
      have es := idxA_snoc (acc := 0) c1 c0
      rw [hI] at es
      simp only [ref11_stock_l1]
      rw [show ((k + 1 : Nat) : Int) - 1 = (k : Int) by omega, if_pos (by simp), ix_nat c1, ix_nat c2]
      have e1 : w64 (x.1[k] + 1) = x.1[k] + 1 := w64_in (by omega)
      simp only [Option.bind_eq_bind, Option.bind_some, e1]
      rw [es]
      have h1 : 0 ≤ I * (x.1[k] + 1) := Int.mul_nonneg hb.1 (by omega)
      have e2 : (I * (x.1[k] + 1) + v[k]).tmod (x.1[k] + 1) = v[k] := by
        rw [Int.tmod_eq_emod_of_nonneg (by omega), Int.add_comm, Int.add_mul_emod_self_right, Int.emod_eq_of_lt b3.1 (by omega)]
      have e3 : (I * (x.1[k] + 1) + v[k]).tdiv (x.1[k] + 1) = I := by
        rw [Int.tdiv_eq_ediv_of_nonneg (by omega), Int.add_comm, Int.add_mul_ediv_right _ _ (by omega), Int.ediv_eq_zero_of_lt b3.1 (by omega), Int.zero_add]
      have e4 : w64 I = I := w64_in (by omega)
      unfold rem quo
      rw [if_neg (by omega), if_neg (by omega)]
      simp only [Option.bind_some, e2, e3, e4]
      rw [w64_in (by omega), ← hI]
      refine ih m _ (by omega) (by omega) (by simp [rset, hy]) ?_
      simp only [rset, Int.toNat_natCast]
      rw [List.drop_eq_getElem_cons (by simpa using c2), List.drop_eq_getElem_cons c0]
      congr 1
      · simp
      · rw [List.drop_set_of_lt (by omega), hd]
  unfold ref11_stock
  have e1 : mks 8 (x.1.length : Int) (0 : Int) = some (List.replicate x.1.length 0) := by
    unfold mks
    rw [if_pos (by simp; omega)]
    simp
  rw [e1]
  simp only [Option.bind_eq_bind, Option.bind_some]
  have := loop v.length F (List.replicate x.1.length 0) (Nat.le_refl _) (by omega) (by simp [hl]) (by simp [hl])
  rw [List.take_length, List.take_of_length_le (by omega), hl] at this
  unfold idx
  rw [List.length_replicate, w64_in (by omega), this]
  rfl
theorem stock_any {F : Nat} {x : Spec} (hF : 1000000 < F) (hx : V x) (i : Int) : ∃ l, ref11_stock F x i = some l ∧ l.length = x.1.length := by
  have k5 := hx.k5
  have loop : ∀ k m (i : Int) (y : List Int), k ≤ x.1.length → k < m → y.length = x.1.length → ∃ l, ref11_stock_l1 F x m i y ((k : Int) - 1) = some l ∧ l.length = x.1.length := by
    intro k
    induction k with
    | zero =>
      intro m i y _ hm hy
      obtain ⟨m, rfl⟩ : ∃ q, m = q + 1 := ⟨m - 1, by omega⟩
      simp only [ref11_stock_l1]
      rw [if_neg (by simp)]
      exact ⟨y, rfl, hy⟩
    | succ k ih =>
      intro m i y hk hm hy
      obtain ⟨m, rfl⟩ : ∃ q, m = q + 1 := ⟨m - 1, by omega⟩
      have c1 : k < x.1.length := by omega
      have c2 : k < y.length := by omega
      have b2 := hx.cap _ (List.getElem_mem c1)
      simp only [ref11_stock_l1]
      have e1 : w64 (x.1[k] + 1) = x.1[k] + 1 := w64_in (by omega)
      rw [show ((k + 1 : Nat) : Int) - 1 = (k : Int) by omega, if_pos (by simp), ix_nat c1, ix_nat c2]
      simp only [Option.bind_eq_bind, Option.bind_some, e1]
      unfold rem quo
      rw [if_neg (by omega), if_neg (by omega)]
      simp only [Option.bind_some]
      rw [w64_in (by omega : -9223372036854775808 ≤ (k : Int) - 1 ∧ (k : Int) - 1 ≤ 9223372036854775807)]
      exact ih m _ _ (by omega) (by omega) (by simp [rset, hy])
  unfold ref11_stock
  have e1 : mks 8 (x.1.length : Int) (0 : Int) = some (List.replicate x.1.length 0) := by
    unfold mks
    rw [if_pos (by simp; omega)]
    simp
  rw [e1]
  simp only [Option.bind_eq_bind, Option.bind_some]
  obtain ⟨l, h1, h2⟩ := loop x.1.length F i (List.replicate x.1.length 0) (Nat.le_refl _) (by omega) (by simp)
  rw [List.length_replicate, w64_in (by omega), h1]
  exact ⟨l, rfl, h2⟩

/-! ### Distances are small -/
theorem dist_path {x : Spec} {s : List Int} (hx : V x) (hs : Stk x s) : ∀ {k : Nat} {v : List Int}, D x s v k → ∃ l : List (List Int), l.length = k + 1 ∧ l.Nodup ∧ ∀ u ∈ l, Stk x u ∧ ∃ j, j ≤ k ∧ D x s u j
  | 0, v, h => ⟨[v], rfl, by simp, fun u hu => by
      simp only [List.mem_singleton] at hu
      subst hu
      exact ⟨h.1.stk hx hs, 0, Nat.le_refl _, h⟩⟩
  | k + 1, v, h => by
    obtain ⟨u, i, h1, h2⟩ := h.pred
    obtain ⟨l, h3, h4, h5⟩ := dist_path hx hs h1
    refine ⟨v :: l, by simp [h3], List.nodup_cons.2 ⟨fun hm => ?_, h4⟩, fun w hw => ?_⟩
    · obtain ⟨_, j, hj, h6⟩ := h5 v hm
      have := h6.uniq h
      omega
    · rcases List.mem_cons.1 hw with rfl | hw
      · exact ⟨h.1.stk hx hs, k + 1, Nat.le_refl _, h⟩
      · obtain ⟨h6, j, hj, h7⟩ := h5 w hw
        exact ⟨h6, j, by omega, h7⟩
theorem dist_lt {x : Spec} {s v : List Int} (hx : V x) (hs : Stk x s) {k : Nat} (h : D x s v k) : (k : Int) < prd x.1 := by
  obtain ⟨l, h1, h2, h3⟩ := dist_path hx hs h
  have := stocks_len hx h2 fun u hu => (h3 u hu).1
  omega

/-! ### Rounds -/
abbrev iv (x : Spec) (v : List Int) : Nat := (idx x v).toNat
structure FP (x : Spec) (s : List Int) (L : List Int) (r : Nat) (more : Bool) (i j : Nat) : Prop where
  len : (L.length : Int) = prd x.1
  ok : ∀ v, Stk x v → ∀ k, k ≤ r → D x s v k → L[iv x v]? = some (k : Int)
  no : ∀ q, q < L.length → L[q]? = some (-1) ∨ ∃ v k, Stk x v ∧ k ≤ r + 1 ∧ iv x v = q ∧ D x s v k ∧ L[q]? = some (k : Int)
  dn : ∀ u, Stk x u → D x s u r → iv x u < i → ∀ q v, stp x q u = some v → L[iv x v]? ≠ some (-1)
  dj : ∀ u, Stk x u → D x s u r → iv x u = i → ∀ (q : Nat) v, q < j → stp x (q : Int) u = some v → L[iv x v]? ≠ some (-1)
  mr : more = true → ∃ v, D x s v (r + 1)
  mf : more = false → ∀ q : Nat, L[q]? ≠ some ((r : Int) + 1)
section
variable {x : Spec} {s L : List Int} {r i j : Nat} {more : Bool}
theorem iv_lt (hx : V x) {v : List Int} (hv : Stk x v) (h : (L.length : Int) = prd x.1) : iv x v < L.length ∧ ((iv x v : Nat) : Int) = idx x v := by
  have := idx_bd hx hv
  unfold iv
  omega
theorem iv_inj (hx : V x) {u v : List Int} (hu : Stk x u) (hv : Stk x v) (e : iv x u = iv x v) : u = v := by
  have h1 := idx_bd hx hu
  have h2 := idx_bd hx hv
  unfold iv at e
  exact idx_inj hu hv (by omega)
theorem FP.skip (h : FP x s L r more i j) {u : List Int} (hx : V x) (hu : Stk x u) (hd : D x s u r) (hi : iv x u = i) (hc : ∀ v, stp x (j : Int) u = some v → L[iv x v]? ≠ some (-1)) : FP x s L r more i (j + 1) := by
  refine { h with dj := fun w hw hd2 hi2 q v hq hv => ?_ }
  rcases Nat.lt_or_ge q j with h1 | h1
  · exact h.dj w hw hd2 hi2 q v h1 hv
  · have : q = j := by omega
    subst this
    have := iv_inj hx hw hu (by rw [hi2, hi])
    subst this
    exact hc v hv
theorem FP.mark (h : FP x s L r more i j) {u v : List Int} (hx : V x) (hu : Stk x u) (hd : D x s u r) (hi : iv x u = i) (hv : stp x (j : Int) u = some v) (hn : L[iv x v]? = some (-1)) : FP x s (L.set (iv x v) ((r : Int) + 1)) r true i (j + 1) := by
  have hst := hu.stp hx hv
  obtain ⟨hlt, _⟩ := iv_lt hx hst h.len
  have hdv : D x s v (r + 1) := by
    obtain ⟨k, hk, hk2⟩ := D.ex (hd.1.snoc hv)
    rcases Nat.lt_or_ge r k with h1 | h1
    · have : k = r + 1 := by omega
      subst this
      exact hk2
    · have := h.ok v hst k h1 hk2
      rw [hn] at this
      have h2 := Option.some.inj this
      omega
  have old : ∀ q, (L.set (iv x v) ((r : Int) + 1))[q]? = if iv x v = q then some ((r : Int) + 1) else L[q]? := fun q => by
    rw [List.getElem?_set]
    by_cases e : iv x v = q
    · subst e
      rw [if_pos rfl, if_pos hlt, if_pos rfl]
    · rw [if_neg e, if_neg e]
  have keep : ∀ q, L[q]? ≠ some (-1) → (L.set (iv x v) ((r : Int) + 1))[q]? ≠ some (-1) := fun q hq => by
    rw [old]
    split
    · intro e
      have := Option.some.inj e
      omega
    · exact hq
  refine ⟨by rw [List.length_set]; exact h.len, fun w hw k hk hdw => ?_, fun q hq => ?_, fun w hw hd2 hi2 q t ht => keep _ (h.dn w hw hd2 hi2 q t ht), fun w hw hd2 hi2 q t hq ht => ?_, fun _ => ⟨v, hdv⟩, fun e => by cases e⟩
  · rw [old]
    split
    · rename_i e
      have := iv_inj hx hst hw e
      subst this
      have := hdw.uniq hdv
      omega
    · exact h.ok w hw k hk hdw
  · rw [List.length_set] at hq
    rw [old]
    by_cases e : iv x v = q
    · exact .inr ⟨v, r + 1, hst, Nat.le_refl _, e, hdv, by rw [if_pos e]; simp⟩
    · rw [if_neg e]
      exact h.no q hq
  · rcases Nat.lt_or_ge q j with h1 | h1
    · exact keep _ (h.dj w hw hd2 hi2 q t h1 ht)
    · have : q = j := by omega
      subst this
      have := iv_inj hx hw hu (by rw [hi2, hi])
      subst this
      rw [hv] at ht
      cases ht
      rw [old, if_pos rfl]
      intro e
      have := Option.some.inj e
      omega
theorem FP.nexti (h : FP x s L r more i j) (hj : ∀ u, Stk x u → D x s u r → iv x u = i → x.2.length ≤ j) : FP x s L r more (i + 1) 0 := by
  refine { h with dn := fun w hw hd hi q v hv => ?_, dj := fun _ _ _ _ q _ hq => by omega }
  rcases Nat.lt_or_ge (iv x w) i with h1 | h1
  · exact h.dn w hw hd h1 q v hv
  · have e : iv x w = i := by omega
    have := stp_ix hv
    obtain ⟨p, rfl⟩ : ∃ p : Nat, q = (p : Int) := ⟨q.toNat, by omega⟩
    exact h.dj w hw hd e p v (by have := hj w hw hd e; omega) hv
end

theorem far_l4_eq {F : Nat} {x : Spec} {s u : List Int} (hF : 1000000 < F) (hx : V x) (hs : Stk x s) {r i : Nat} (hu : Stk x u) (hd : D x s u r) (hi : iv x u = i) : ∀ (m j : Nat) (L : List Int) (more : Bool), j ≤ x.2.length → x.2.length - j < m → FP x s L r more i j →
    ∃ L' more', ref11_Far_l4 F x (r : Int) (i : Int) m L more (j : Int) = some (L', more') ∧ FP x s L' r more' i x.2.length ∧ L'.length = L.length ∧ ∀ q : Nat, L[q]? = some (r : Int) → L'[q]? = some (r : Int)
  | 0, j, _, _, _, h, _ => by omega
  | m + 1, j, L, more, hj, h, hp => by
    have hr := dist_lt hx hs hd
    have hpr := hx.prd
    have m8 := hx.m8
    simp only [ref11_Far_l4]
    by_cases hlt : j < x.2.length
    · rw [if_pos (ltd hlt)]
      have hm : ix x.2 (j : Int) = some x.2[j] := ix_nat hlt
      have hiu : (i : Int) = idx x u := by rw [← hi]; exact (iv_lt hx hu hp.len).2
      have e1 : ref11_stock F (x.1, x.2) (i : Int) = some u := by rw [hiu]; exact stock_eq hF hx hu
      have e2 : ref11_after F (x.1, x.2) u (j : Int) = _ := rafter_eq hF hx hu hm
      have hst := stp_eq (a := u) hm
      rw [e1]
      have er : w64 ((r : Int) + 1) = (r : Int) + 1 := w64_in (by omega)
      simp only [Option.bind_eq_bind, Option.bind_some, e2, er]
      rw [w64_succ (k := j) (by omega)]
      by_cases e : okm x.1 u x.2[j].1 x.2[j].2 = true
      · rw [if_pos e] at hst
        rw [if_pos e]
        have hv := hu.stp hx hst
        obtain ⟨hlt2, e4⟩ := iv_lt hx hv hp.len
        have e3 : ref11_index F (x.1, x.2) (nx u x.2[j].1 x.2[j].2) = some ((iv x (nx u x.2[j].1 x.2[j].2) : Nat) : Int) := by
          rw [e4]; exact index_eq hF hx hv
        simp only [if_true, e3, Option.bind_some, ix_nat hlt2]
        by_cases e5 : L[iv x (nx u x.2[j].1 x.2[j].2)] < 0
        · have hneg : L[iv x (nx u x.2[j].1 x.2[j].2)]? = some (-1) := by
            rcases hp.no _ hlt2 with h1 | ⟨w, k, _, _, _, _, h1⟩
            · exact h1
            · rw [List.getElem?_eq_getElem hlt2] at h1
              have := Option.some.inj h1
              omega
          simp only [e5, decide_true, if_true, Option.bind_some]
          have hp2 := hp.mark hx hu hd hi hst hneg
          obtain ⟨L', mo, h1, h2, h3, h4⟩ := far_l4_eq hF hx hs hu hd hi m (j + 1) _ true (by omega) (by omega) hp2
          refine ⟨L', mo, h1, h2, by simpa using h3, fun q hq => h4 q ?_⟩
          rw [List.getElem?_set]
          by_cases e6 : iv x (nx u x.2[j].1 x.2[j].2) = q
          · subst e6
            rw [hneg] at hq
            have := Option.some.inj hq
            omega
          · rw [if_neg e6]
            exact hq
        · simp only [e5, decide_false, Bool.false_eq_true, if_false, Option.bind_some]
          exact far_l4_eq hF hx hs hu hd hi m (j + 1) L more (by omega) (by omega) (hp.skip hx hu hd hi fun v hv2 => by
            rw [hst] at hv2
            cases hv2
            rw [List.getElem?_eq_getElem hlt2]
            intro e6
            have := Option.some.inj e6
            omega)
      · rw [if_neg e] at hst
        rw [if_neg e]
        simp only [Bool.false_eq_true, if_false, Option.bind_some]
        exact far_l4_eq hF hx hs hu hd hi m (j + 1) L more (by omega) (by omega) (hp.skip hx hu hd hi fun v hv2 => by rw [hst] at hv2; cases hv2)
    · have : j = x.2.length := by omega
      subst this
      rw [if_neg nltd]
      exact ⟨L, more, rfl, hp, rfl, fun _ h => h⟩
theorem far_l3_eq {F : Nat} {x : Spec} {s : List Int} (hF : 1000000 < F) (hx : V x) (hs : Stk x s) {r : Nat} : ∀ (m i : Nat) (L : List Int) (more : Bool), i ≤ L.length → L.length - i < m → FP x s L r more i 0 →
    ∃ L' more', ref11_Far_l3 F x (r : Int) m L more (i : Int) = some (L', more') ∧ FP x s L' r more' L'.length 0
  | 0, i, L, _, _, h, _ => by omega
  | m + 1, i, L, more, hi, h, hp => by
    have hpr := hx.prd
    have hl := hp.len
    simp only [ref11_Far_l3]
    by_cases hlt : i < L.length
    · rw [if_pos (ltd hlt), ix_nat hlt, w64_succ (by omega)]
      simp only [Option.bind_eq_bind, Option.bind_some]
      by_cases e : L[i] = (r : Int)
      · rw [if_neg (by simp [e])]
        rcases hp.no i hlt with h1 | ⟨u, k, hu, hk, hiu, hd, h1⟩
        · rw [List.getElem?_eq_getElem hlt, e] at h1
          have := Option.some.inj h1
          omega
        · rw [List.getElem?_eq_getElem hlt, e] at h1
          have := Option.some.inj h1
          have : k = r := by omega
          subst this
          obtain ⟨L', mo, h2, h3, h4, _⟩ := far_l4_eq hF hx hs hu hd hiu F 0 L more (by omega) (by have := hx.m8; omega) hp
          simp only [Int.natCast_zero] at h2
          rw [h2]
          simp only [Option.bind_some]
          exact far_l3_eq hF hx hs m (i + 1) L' mo (by omega) (by omega) (h3.nexti fun _ _ _ _ => Nat.le_refl _)
      · rw [if_pos (by simp [e])]
        simp only [Option.bind_some]
        refine far_l3_eq hF hx hs m (i + 1) L more (by omega) (by omega) (hp.nexti fun u hu hd hiu => ?_)
        have := hp.ok u hu r (Nat.le_refl _) hd
        rw [hiu, List.getElem?_eq_getElem hlt] at this
        exact (e (Option.some.inj this)).elim
    · have : i = L.length := by omega
      subst this
      rw [if_neg nltd]
      exact ⟨L, more, rfl, hp⟩
/-- What Far returns. -/
structure Fin (x : Spec) (s : List Int) (L : List Int) : Prop where
  len : (L.length : Int) = prd x.1
  ok : ∀ v, Stk x v → ∀ k, D x s v k → L[iv x v]? = some (k : Int)
  no : ∀ q, q < L.length → L[q]? = some (-1) ∨ ∃ v k, Stk x v ∧ iv x v = q ∧ D x s v k ∧ L[q]? = some (k : Int)
theorem far_l2_eq {F : Nat} {x : Spec} {s : List Int} (hF : 1000000 < F) (hx : V x) (hs : Stk x s) : ∀ (m r : Nat) (L : List Int) (more : Bool), prd x.1 - (r : Int) < (m : Int) → (r : Int) ≤ prd x.1 → (L.length : Int) = prd x.1 → (∀ v, Stk x v → ∀ k, k ≤ r → D x s v k → L[iv x v]? = some (k : Int)) →
    (∀ q, q < L.length → L[q]? = some (-1) ∨ ∃ v k, Stk x v ∧ k ≤ r ∧ iv x v = q ∧ D x s v k ∧ L[q]? = some (k : Int)) → (more = true → ∃ v, D x s v r) → (more = false → ∀ v, ¬ D x s v r) →
    ∃ L', ref11_Far_l2 F x m L (r : Int) more = some L' ∧ Fin x s L'
  | 0, r, L, more, h, hr0, hl, ok, no, mt, mf => by omega
  | m + 1, r, L, more, h, hr0, hl, ok, no, mt, mf => by
    have hpr := hx.prd
    simp only [ref11_Far_l2]
    cases more with
    | false =>
      simp only [Bool.false_eq_true, if_false]
      have key : ∀ k v, D x s v k → k ≤ r := by
        intro k
        induction k with
        | zero => intro v _; omega
        | succ k ih =>
          intro v hv
          obtain ⟨u, i, h1, _⟩ := hv.pred
          have := ih u h1
          rcases Nat.lt_or_ge k r with h2 | h2
          · omega
          · have : k = r := by omega
            subst this
            exact (mf rfl u h1).elim
      exact ⟨L, rfl, hl, fun v hv k hd => ok v hv k (key k v hd) hd, fun q hq => (no q hq).imp id fun ⟨v, k, h1, _, h2⟩ => ⟨v, k, h1, h2⟩⟩
    | true =>
      simp only [if_true]
      obtain ⟨v0, hv0⟩ := mt rfl
      have hr := dist_lt hx hs hv0
      have hp : FP x s L r false 0 0 := ⟨hl, ok, fun q hq => (no q hq).imp id fun ⟨v, k, h1, h2, h3⟩ => ⟨v, k, h1, by omega, h3⟩, fun _ _ _ h => by omega, fun _ _ _ _ q _ hq => by omega, fun e => (by cases e), fun _ q hq => by
        have hq' := (List.getElem?_eq_some_iff.1 hq).1
        rcases no q hq' with h1 | ⟨v, k, _, h2, _, _, h3⟩
        · rw [hq] at h1
          have := Option.some.inj h1
          omega
        · rw [hq] at h3
          have := Option.some.inj h3
          omega⟩
      obtain ⟨L', mo, h1, h2⟩ := far_l3_eq hF hx hs (r := r) F 0 L false (by omega) (by omega) hp
      simp only [Int.natCast_zero] at h1
      simp only [Option.bind_eq_bind, h1, Option.bind_some]
      rw [w64_succ (by omega)]
      have hall : ∀ v, Stk x v → D x s v (r + 1) → L'[iv x v]? = some (((r + 1 : Nat)) : Int) := fun v hv hd => by
        obtain ⟨u, i, h3, h4⟩ := hd.pred
        have hu := h3.1.stk hx hs
        have h5 := h2.dn u hu h3 (iv_lt hx hu h2.len).1 i v h4
        rcases h2.no _ (iv_lt hx hv h2.len).1 with h6 | ⟨w, k, hw, _, h7, h8, h9⟩
        · exact (h5 h6).elim
        · have := iv_inj hx hw hv h7
          subst this
          have := h8.uniq hd
          subst this
          exact h9
      refine far_l2_eq hF hx hs m (r + 1) L' mo (by omega) (by omega) h2.len (fun v hv k hk hd => ?_) h2.no h2.mr fun e v hd => ?_
      · rcases Nat.lt_or_ge r k with h3 | h3
        · have : k = r + 1 := by omega
          subst this
          exact hall v hv hd
        · exact h2.ok v hv k h3 hd
      · have := h2.mf e (iv x v)
        rw [hall v (hd.1.stk hx hs) hd] at this
        exact this (by simp)
end Go.Proofs.Ytboefnpnoojfpaa
