/-
  What Most and Stuck return; a walk by chance; BathReaches. Condition: there are enough rounds.
-/
import Derived.Test.YtboefnpnoojfpaaSpecF
namespace Go.Proofs.Ytboefnpnoojfpaa
open Go Go.Md Go.RowKit

theorem All.pair {x : Spec} {s : List Int} {Q : List (List Int)} (h : All x s Q) : Q.Pairwise fun u v => ∀ a b, D x s u a → D x s v b → a ≤ b := by
  rw [List.pairwise_iff_getElem]
  intro i j hi hj hij
  exact h.lev i j hi hj (Nat.le_of_lt hij)
/-- The most things of kind k are n, and it takes d moves to have so many. -/
def IsMost (x : Spec) (s : List Int) (k : Nat) (n : Int) (d : Nat) : Prop := ∀ u e, D x s u e → ∃ m, u[k]? = some m ∧ (m < n ∨ m = n ∧ d ≤ e)
theorem IsMost.uniq {x : Spec} {s u v : List Int} {k d e : Nat} {n m : Int} (h1 : IsMost x s k n d) (hu : D x s u d) (hun : u[k]? = some n) (h2 : IsMost x s k m e) (hv : D x s v e) (hvm : v[k]? = some m) : n = m ∧ d = e := by
  obtain ⟨a, h3, h4⟩ := h1 v e hv
  obtain ⟨b, h5, h6⟩ := h2 u d hu
  rw [hvm] at h3
  rw [hun] at h5
  cases h3
  cases h5
  omega
theorem mostIn_eq {x : Spec} {s : List Int} (hx : V x) {k : Nat} (hk : k < x.1.length) : ∀ (l : List (List Int)) (b : List Int), (∀ v ∈ b :: l, Stk x v ∧ ∃ d, D x s v d) → (b :: l).Pairwise (fun u v => ∀ a b, D x s u a → D x s v b → a ≤ b) →
    ∃ c n d, mostIn (k : Int) (l.map pad) (pad b) = some (pad c) ∧ c ∈ b :: l ∧ D x s c d ∧ c[k]? = some n ∧ ∀ v ∈ b :: l, ∀ e, D x s v e → ∃ m, v[k]? = some m ∧ (m < n ∨ m = n ∧ d ≤ e)
  | [], b, h, _ => by
    obtain ⟨hb, d, hd⟩ := h b (by simp)
    have hkb : k < b.length := by rw [hb.len]; exact hk
    refine ⟨b, b[k], d, rfl, by simp, hd, List.getElem?_eq_getElem hkb, fun v hv e he => ?_⟩
    simp only [List.mem_singleton] at hv
    subst hv
    exact ⟨_, List.getElem?_eq_getElem hkb, .inr ⟨rfl, by rw [hd.uniq he]; exact Nat.le_refl _⟩⟩
  | y :: l, b, h, hp => by
    have k5 := hx.k5
    obtain ⟨hb, db, hdb⟩ := h b (by simp)
    obtain ⟨hy, dy, hdy⟩ := h y (by simp)
    have hkb : k < b.length := by rw [hb.len]; exact hk
    have hky : k < y.length := by rw [hy.len]; exact hk
    rw [List.pairwise_cons] at hp
    have hst : mostIn (k : Int) ((y :: l).map pad) (pad b) = mostIn (k : Int) (l.map pad) (if decide (b[k] < y[k]) = true then pad y else pad b) := by
      rw [List.map_cons]
      conv => lhs; unfold mostIn
      rw [pad_ix (by rw [hy.len]; exact k5) hky, pad_ix (by rw [hb.len]; exact k5) hkb]
      rfl
    rw [hst]
    by_cases e : b[k] < y[k]
    · rw [if_pos (by simpa using e)]
      obtain ⟨c, n, d, h1, h2, h3, h4, h5⟩ := mostIn_eq hx hk l y (fun v hv => h v (by simp only [List.mem_cons] at hv ⊢; exact .inr hv)) hp.2
      refine ⟨c, n, d, h1, List.mem_cons_of_mem _ h2, h3, h4, fun v hv f hf => ?_⟩
      rcases List.mem_cons.1 hv with rfl | hv
      · obtain ⟨m, h6, h7⟩ := h5 y (by simp) dy hdy
        rw [List.getElem?_eq_getElem hky] at h6
        have := Option.some.inj h6
        exact ⟨_, List.getElem?_eq_getElem hkb, .inl (by omega)⟩
      · exact h5 v hv f hf
    · rw [if_neg (by simpa using e)]
      obtain ⟨c, n, d, h1, h2, h3, h4, h5⟩ := mostIn_eq hx hk l b (fun v hv => h v (by simp only [List.mem_cons] at hv ⊢; rcases hv with h | h; exact .inl h; exact .inr (.inr h))) (List.pairwise_cons.2 ⟨fun a ha => hp.1 a (by simp [ha]), (List.pairwise_cons.1 hp.2).2⟩)
      refine ⟨c, n, d, h1, by simp only [List.mem_cons] at h2 ⊢; rcases h2 with h | h; exact .inl h; exact .inr (.inr h), h3, h4, fun v hv f hf => ?_⟩
      simp only [List.mem_cons] at hv
      rcases hv with rfl | rfl | hv
      · exact h5 v (by simp) f hf
      · obtain ⟨m, h6, h7⟩ := h5 b (by simp) db hdb
        rw [List.getElem?_eq_getElem hkb] at h6
        have := Option.some.inj h6
        have := hp.1 v (by simp) db f hdb hf
        refine ⟨_, List.getElem?_eq_getElem hky, ?_⟩
        omega
      · exact h5 v (by simp [hv]) f hf
theorem most_eq {F : Nat} {x : Spec} {s : List Int} {kind : Int} (hF : 1000000 < F) : (one x s ≠ 0 ∧ bath_Most F x s kind = some (0, [], one x s)) ∨ (one x s = 0 ∧ (kind < 0 ∨ (x.1.length : Int) ≤ kind) ∧ bath_Most F x s kind = some (0, [], 2)) ∨
    ∃ k : Nat, kind = (k : Int) ∧ k < x.1.length ∧ V x ∧ Stk x s ∧ ∃ n w v d, bath_Most F x s kind = some (n, w, 0) ∧ D x s v d ∧ v[k]? = some n ∧ w.length = d ∧ run x w s = some v ∧ IsMost x s k n d := by
  unfold bath_Most
  rw [open1 hF]
  simp only [Option.bind_eq_bind, Option.bind_some]
  by_cases h : one x s = 0
  · obtain ⟨hx, hs⟩ := one_ok.1 h
    have k5 := hx.k5
    have hsl := hs.len
    simp only [h, if_true, decide_true, Bool.not_true, Bool.false_eq_true, if_false]
    by_cases hk : kind < 0 ∨ (x.1.length : Int) ≤ kind
    · rw [if_pos (by simp only [Bool.or_eq_true, decide_eq_true_eq]; omega)]
      exact .inr (.inl ⟨trivial, hk, rfl⟩)
    · rw [if_neg (by simp only [Bool.or_eq_true, decide_eq_true_eq]; omega)]
      obtain ⟨k, rfl⟩ : ∃ k : Nat, kind = (k : Int) := ⟨kind.toNat, by omega⟩
      have hk' : k < x.1.length := by omega
      obtain ⟨Q, us, bf, h1, h2, h3⟩ := reached_eq hF hx hs
      have e0 : ix [pad s] (0 : Int) = some (pad s) := rfl
      simp only [e0, Option.bind_some, h1, h2.map]
      obtain ⟨c, n, d, h4, h5, h6, h7, h8⟩ := mostIn_eq hx hk' Q s (fun v hv => by
        rcases List.mem_cons.1 hv with rfl | hv
        · exact ⟨hs, 0, D.refl⟩
        · exact ⟨h3.stk v hv, h3.dd v hv⟩) (List.pairwise_cons.2 ⟨fun v hv a b ha hb => by have := ha.uniq D.refl; omega, h3.pair⟩)
      have hcQ : c ∈ Q := h3.all c d h6.1
      have hc := h3.stk c hcQ
      have hkc : k < c.length := by rw [hc.len]; exact hk'
      rw [List.getElem?_eq_getElem hkc] at h7
      have h7' := Option.some.inj h7
      have := dist_lt hx hs h6
      have hpr := hx.prd
      obtain ⟨w, w1, w2, w3⟩ := way_eq hF hx hs h2.bf.1 hc (h2.bf.2 c hcQ) h6 (by omega)
      simp only [h4, Option.bind_some, pad_ix (by rw [hc.len]; exact k5) hkc, w1, h7']
      refine .inr (.inr ⟨k, rfl, hk', hx, hs, n, w, c, d, rfl, h6, by rw [List.getElem?_eq_getElem hkc, h7'], w2, w3, fun u e he => ?_⟩)
      exact h8 u (List.mem_cons_of_mem _ (h3.all u e he.1)) e he
  · simp only [h, if_false, decide_false, Bool.not_false, if_true]
    exact .inl ⟨h, trivial⟩
theorem rmost_eq {F : Nat} {x : Spec} {s : List Int} {kind : Int} (hF : 1000000 < F) : (one x s ≠ 0 ∧ ref11_Most F x s kind = some (0, 0, one x s)) ∨ (one x s = 0 ∧ (kind < 0 ∨ (x.1.length : Int) ≤ kind) ∧ ref11_Most F x s kind = some (0, 0, 2)) ∨
    ∃ k : Nat, kind = (k : Int) ∧ k < x.1.length ∧ V x ∧ Stk x s ∧ ∃ n v d, ref11_Most F x s kind = some (n, ((d : Nat) : Int), 0) ∧ D x s v d ∧ v[k]? = some n ∧ IsMost x s k n d := by
  unfold ref11_Most
  have ho : ref11_One F (x.1, x.2) s = some (one x s) := one_eq hF
  simp only [ho, Option.bind_eq_bind, Option.bind_some]
  by_cases h : one x s = 0
  · obtain ⟨hx, hs⟩ := one_ok.1 h
    have k5 := hx.k5
    simp only [h, decide_true, Bool.not_true, Bool.false_eq_true, if_false]
    by_cases hk : kind < 0 ∨ (x.1.length : Int) ≤ kind
    · rw [if_pos (by simp only [Bool.or_eq_true, decide_eq_true_eq]; omega)]
      exact .inr (.inl ⟨trivial, hk, rfl⟩)
    · rw [if_neg (by simp only [Bool.or_eq_true, decide_eq_true_eq]; omega)]
      obtain ⟨k, rfl⟩ : ∃ k : Nat, kind = (k : Int) := ⟨kind.toNat, by omega⟩
      have hk' : k < x.1.length := by omega
      obtain ⟨L, h1, h2⟩ := far_eq hF hx hs
      have h1' : ref11_Far F (x.1, x.2) s = some L := h1
      have hp := hx.prd
      have hl := h2.len
      have loop : ∀ (m q : Nat) (y1 y2 : Int), q ≤ L.length → L.length - q < m → ((y1 = -1 ∧ y2 = 0 ∧ ∀ u e, D x s u e → ¬ iv x u < q) ∨ (∃ v d, D x s v d ∧ iv x v < q ∧ v[k]? = some y1 ∧ y2 = ((d : Nat) : Int) ∧ ∀ u e, D x s u e → iv x u < q → ∃ m, u[k]? = some m ∧ (m < y1 ∨ m = y1 ∧ d ≤ e))) →
          ∃ z1 z2, ref11_Most_l1 F x (k : Int) L m y1 y2 (q : Int) = some (z1, z2) ∧ ((z1 = -1 ∧ z2 = 0 ∧ ∀ u e, D x s u e → ¬ iv x u < L.length) ∨ (∃ v d, D x s v d ∧ iv x v < L.length ∧ v[k]? = some z1 ∧ z2 = ((d : Nat) : Int) ∧ ∀ u e, D x s u e → iv x u < L.length → ∃ m, u[k]? = some m ∧ (m < z1 ∨ m = z1 ∧ d ≤ e))) := by
        intro m
        induction m with
        | zero => intro q _ _ _ h; omega
        | succ m ih =>
          intro q y1 y2 hq h hi
          simp only [ref11_Most_l1]
          by_cases hlt : q < L.length
          · rw [if_pos (ltd hlt), ix_nat hlt, w64_succ (k := q) (by omega)]
            obtain ⟨l, hl1, hl2⟩ := stock_any hF hx (q : Int)
            have hl1' : ref11_stock F (x.1, x.2) (q : Int) = some l := hl1
            have hkl : k < l.length := by omega
            simp only [Option.bind_eq_bind, hl1', Option.bind_some, ix_nat hkl]
            rcases h2.no q hlt with h3 | ⟨v, d, hv, h4, h5, h6⟩
            · have e : L[q] = -1 := by
                rw [List.getElem?_eq_getElem hlt] at h3
                exact Option.some.inj h3
              have hnone : ∀ u e, D x s u e → iv x u ≠ q := fun u f hf e2 => by
                have := h2.ok u (hf.1.stk hx hs) f hf
                rw [e2, h3] at this
                have := Option.some.inj this
                omega
              rw [if_neg (by rw [e]; simp)]
              simp only [Option.bind_some, Bool.false_eq_true, if_false]
              refine ih (q + 1) y1 y2 (by omega) (by omega) ?_
              rcases hi with ⟨i1, i2, i3⟩ | ⟨v, d, i1, i2, i3, i4, i5⟩
              · exact .inl ⟨i1, i2, fun u f hf hlt2 => by have := hnone u f hf; have := i3 u f hf; omega⟩
              · exact .inr ⟨v, d, i1, by omega, i3, i4, fun u f hf hlt2 => i5 u f hf (by have := hnone u f hf; omega)⟩
            · have e : L[q] = (d : Int) := by
                rw [List.getElem?_eq_getElem hlt] at h6
                exact Option.some.inj h6
              have hlv : l = v := by
                have h7 : ref11_stock F x (idx x v) = some v := stock_eq hF hx hv
                rw [← (iv_lt hx hv h2.len).2, h4, hl1] at h7
                exact Option.some.inj h7
              subst hlv
              have huq : ∀ u f, D x s u f → iv x u = q → u = l := fun u f hf e2 => iv_inj hx (hf.1.stk hx hs) hv (by rw [e2, h4])
              rw [if_pos (by rw [e]; simp)]
              by_cases c1 : y1 < l[k]
              · rw [if_pos (by simpa using c1)]
                simp only [Option.bind_some, if_true]
                rw [e]
                refine ih (q + 1) _ _ (by omega) (by omega) (.inr ⟨l, d, h5, by omega, List.getElem?_eq_getElem hkl, rfl, fun u f hf hlt2 => ?_⟩)
                by_cases c2 : iv x u = q
                · have := huq u f hf c2
                  subst this
                  exact ⟨_, List.getElem?_eq_getElem hkl, .inr ⟨rfl, by rw [h5.uniq hf]; exact Nat.le_refl _⟩⟩
                · rcases hi with ⟨i1, i2, i3⟩ | ⟨v, d2, i1, i2, i3, i4, i5⟩
                  · exact (i3 u f hf (by omega)).elim
                  · obtain ⟨m2, j1, j2⟩ := i5 u f hf (by omega)
                    exact ⟨m2, j1, .inl (by omega)⟩
              · rw [if_neg (by simpa using c1)]
                rcases hi with ⟨i1, i2, i3⟩ | ⟨v, d2, i1, i2, i3, i4, i5⟩
                · exfalso
                  have := (hv.rng hx l[k] (List.getElem_mem hkl)).1
                  omega
                · by_cases c3 : l[k] = y1
                  · rw [if_pos (by simpa using c3)]
                    simp only [Option.bind_some]
                    by_cases c4 : L[q] < y2
                    · simp only [c4, decide_true, if_true, Option.bind_some]
                      rw [e]
                      refine ih (q + 1) _ _ (by omega) (by omega) (.inr ⟨l, d, h5, by omega, List.getElem?_eq_getElem hkl, rfl, fun u f hf hlt2 => ?_⟩)
                      by_cases c2 : iv x u = q
                      · have := huq u f hf c2
                        subst this
                        exact ⟨_, List.getElem?_eq_getElem hkl, .inr ⟨rfl, by rw [h5.uniq hf]; exact Nat.le_refl _⟩⟩
                      · obtain ⟨m2, j1, j2⟩ := i5 u f hf (by omega)
                        exact ⟨m2, j1, by omega⟩
                    · simp only [c4, decide_false, Bool.false_eq_true, if_false, Option.bind_some]
                      refine ih (q + 1) _ _ (by omega) (by omega) (.inr ⟨v, d2, i1, by omega, i3, i4, fun u f hf hlt2 => ?_⟩)
                      by_cases c2 : iv x u = q
                      · have := huq u f hf c2
                        subst this
                        have := h5.uniq hf
                        exact ⟨_, List.getElem?_eq_getElem hkl, .inr ⟨c3, by omega⟩⟩
                      · exact i5 u f hf (by omega)
                  · rw [if_neg (by simpa using c3)]
                    simp only [Option.bind_some, Bool.false_eq_true, if_false]
                    refine ih (q + 1) _ _ (by omega) (by omega) (.inr ⟨v, d2, i1, by omega, i3, i4, fun u f hf hlt2 => ?_⟩)
                    by_cases c2 : iv x u = q
                    · have := huq u f hf c2
                      subst this
                      exact ⟨_, List.getElem?_eq_getElem hkl, .inl (by omega)⟩
                    · exact i5 u f hf (by omega)
          · have : q = L.length := by omega
            subst this
            rw [if_neg nltd]
            exact ⟨y1, y2, rfl, hi⟩
      obtain ⟨z1, z2, j1, j2⟩ := loop F 0 (-1) 0 (by omega) (by omega) (.inl ⟨rfl, rfl, fun u e _ h => by omega⟩)
      simp only [Int.natCast_zero] at j1
      have hall : ∀ u e, D x s u e → iv x u < L.length := fun u e he => (iv_lt hx (he.1.stk hx hs) h2.len).1
      rcases j2 with ⟨_, _, j3⟩ | ⟨v, d, j3, j4, j5, j6, j7⟩
      · exact (j3 s 0 D.refl (hall s 0 D.refl)).elim
      · subst j6
        simp only [h1', Option.bind_some, j1]
        exact .inr (.inr ⟨k, rfl, hk', hx, hs, z1, v, d, rfl, j3, j5, fun u e he => j7 u e he (hall u e he)⟩)
  · simp only [h, decide_false, Bool.not_false, if_true]
    exact .inl ⟨h, trivial⟩

/-! ### A stock without a move -/
def stl (x : Spec) (v : List Int) : Bool := !x.2.any fun m => okm x.1 v m.1 m.2
theorem stl_iff {x : Spec} {v : List Int} : stl x v = true ↔ ∀ i u, stp x i v ≠ some u := by
  unfold stl
  simp only [Bool.not_eq_true', List.any_eq_false]
  constructor
  · intro h i u hu
    obtain ⟨m, _, h1, h2, _⟩ := stp_some hu
    exact h m h1 h2
  · intro h m hm he
    obtain ⟨k, hk, rfl⟩ := List.getElem_of_mem hm
    have := stp_eq (x := x) (i := (k : Int)) (a := v) (ix_nat hk)
    rw [if_pos he] at this
    exact h _ _ this
theorem still_eq {F : Nat} {x : Spec} {v : List Int} (hF : 1000000 < F) (hx : V x) (hv : Stk x v) : bath_shop_still F (x, Opq.mk) (pad v) = some (stl x v) := by
  unfold bath_shop_still stl
  have m8 := hx.m8
  have := any_loop0 (l := x.2) (L := fun m k => bath_shop_still_l1 F (x, Opq.mk) (pad v) m (k : Int)) (p := fun m => okm x.1 v m.1 m.2) (c := false) (fun m => by
    simp only [bath_shop_still_l1]; rw [if_neg nltd]) (fun m k hk => by
    simp only [bath_shop_still_l1]
    have h1 : bath_shop_after F ((x.1, x.2), Opq.mk) (pad v) (k : Int) = _ := after_eq hF hx hv (ix_nat hk)
    rw [if_pos (ltd hk), w64_succ (by omega)]
    simp only [Option.bind_eq_bind, h1, Option.bind_some]) (m := F) (by omega)
  simp only [Int.natCast_zero] at this
  rw [this]
  cases x.2.any fun m => okm x.1 v m.1 m.2 <;> rfl
theorem rstill_eq {F : Nat} {x : Spec} {v : List Int} (hF : 1000000 < F) (hx : V x) (hv : Stk x v) : ref11_Still F x v = some (stl x v) := by
  unfold ref11_Still stl
  have m8 := hx.m8
  have := any_loop0 (l := x.2) (L := fun m k => ref11_Still_l1 F x v m (k : Int)) (p := fun m => okm x.1 v m.1 m.2) (c := false) (fun m => by
    simp only [ref11_Still_l1]; rw [if_neg nltd]) (fun m k hk => by
    simp only [ref11_Still_l1]
    have h1 : ref11_after F (x.1, x.2) v (k : Int) = _ := rafter_eq hF hx hv (ix_nat hk)
    rw [if_pos (ltd hk), w64_succ (by omega)]
    simp only [Option.bind_eq_bind, h1, Option.bind_some]
    by_cases e : okm x.1 v x.2[k].1 x.2[k].2 = true <;> simp [e]) (m := F) (by omega)
  simp only [Int.natCast_zero] at this
  rw [this]
  cases x.2.any fun m => okm x.1 v m.1 m.2 <;> rfl
/-- What Stuck returns, with V x and Stk x s. -/
def StuckS (x : Spec) (s : List Int) (r : List Int × Int) : Prop :=
  (∃ v d, D x s v d ∧ stl x v = true ∧ (∀ u e, D x s u e → stl x u = true → d ≤ e) ∧ r.2 = 0 ∧ r.1.length = d ∧ run x r.1 s = some v) ∨ ((∀ u e, D x s u e → stl x u = false) ∧ r = ([], 5))
theorem stuck_eq {F : Nat} {x : Spec} {s : List Int} (hF : 1000000 < F) : (one x s ≠ 0 ∧ bath_Stuck F x s = some ([], one x s)) ∨ (one x s = 0 ∧ ∃ r, bath_Stuck F x s = some r ∧ StuckS x s r) := by
  unfold bath_Stuck
  rw [open1 hF]
  simp only [Option.bind_eq_bind, Option.bind_some]
  by_cases h : one x s = 0
  · obtain ⟨hx, hs⟩ := one_ok.1 h
    obtain ⟨Q, us, bf, h1, h2, h3⟩ := reached_eq hF hx hs
    simp only [h, if_true, decide_true, Bool.not_true, Bool.false_eq_true, if_false]
    have e0 : ix [pad s] (0 : Int) = some (pad s) := rfl
    simp only [e0, Option.bind_some, h1]
    have loop : ∀ (us : List (St × By)) (Q' : List (List Int)), (∀ v ∈ Q', Stk x v ∧ ∃ k, D x s v k) → Q'.Pairwise (fun u v => ∀ a b, D x s u a → D x s v b → a ≤ b) → Pw (fun (p : St × By) v => p.1 = pad v ∧ mhas p.2 (pad v) = true ∧ ByOk x s p.2) us Q' →
        ∃ r, stuckIn F x us = some r ∧ ((∃ v d, D x s v d ∧ stl x v = true ∧ (∀ u ∈ Q', ∀ e, D x s u e → stl x u = true → d ≤ e) ∧ r.2 = 0 ∧ r.1.length = d ∧ run x r.1 s = some v) ∨ ((∀ u ∈ Q', stl x u = false) ∧ r = ([], 5))) := by
      intro us
      induction us with
      | nil =>
        intro Q' _ _ hp
        cases Q' with
        | nil => exact ⟨_, rfl, .inr ⟨by simp, rfl⟩⟩
        | cons _ _ => exact hp.elim
      | cons p us ih =>
        intro Q' hQ hpw hp
        cases Q' with
        | nil => exact hp.elim
        | cons v Q' =>
          obtain ⟨⟨p1, p2, p3⟩, hp⟩ := hp
          obtain ⟨hv, k, hk⟩ := hQ v (by simp)
          rw [List.pairwise_cons] at hpw
          have hst : stuckIn F x (p :: us) = if stl x v = true then (bath_shop_way F p.2 (pad v)) >>= fun w => some (w, 0) else stuckIn F x us := by
            conv => lhs; unfold stuckIn
            rw [p1, still_eq hF hx hv]
            rfl
          rw [hst]
          by_cases e : stl x v = true
          · have := dist_lt hx hs hk
            have hpr := hx.prd
            obtain ⟨w, w1, w2, w3⟩ := way_eq hF hx hs p3 hv p2 hk (by omega)
            rw [if_pos e, w1]
            refine ⟨(w, 0), rfl, .inl ⟨v, k, hk, e, fun u hu f hf _ => ?_, rfl, w2, w3⟩⟩
            rcases List.mem_cons.1 hu with rfl | hu
            · rw [hk.uniq hf]; exact Nat.le_refl _
            · exact hpw.1 u hu k f hk hf
          · rw [if_neg e]
            obtain ⟨r, r1, r2⟩ := ih Q' (fun u hu => hQ u (by simp [hu])) hpw.2 hp
            refine ⟨r, r1, ?_⟩
            rcases r2 with ⟨u, d, j1, j2, j3, j4⟩ | ⟨j1, j2⟩
            · refine .inl ⟨u, d, j1, j2, fun w hw f hf hw2 => ?_, j4⟩
              rcases List.mem_cons.1 hw with rfl | hw
              · exact (e hw2).elim
              · exact j3 w hw f hf hw2
            · refine .inr ⟨fun w hw => ?_, j2⟩
              rcases List.mem_cons.1 hw with rfl | hw
              · simpa using e
              · exact j1 w hw
    obtain ⟨r, r1, r2⟩ := loop us Q (fun v hv => ⟨h3.stk v hv, h3.dd v hv⟩) h3.pair h2.pw
    refine .inr ⟨trivial, r, r1, ?_⟩
    rcases r2 with ⟨v, d, j1, j2, j3, j4⟩ | ⟨j1, j2⟩
    · exact .inl ⟨v, d, j1, j2, fun u e he => j3 u (h3.all u e he.1) e he, j4⟩
    · exact .inr ⟨fun u e he => j1 u (h3.all u e he.1), j2⟩
  · simp only [h, if_false, decide_false, Bool.not_false, if_true]
    exact .inl ⟨h, trivial⟩
theorem rstuck_eq {F : Nat} {x : Spec} {s : List Int} (hF : 1000000 < F) : (one x s ≠ 0 ∧ ref11_Stuck F x s = some (0, one x s)) ∨ (one x s = 0 ∧ ((∃ v d, D x s v d ∧ stl x v = true ∧ (∀ u e, D x s u e → stl x u = true → d ≤ e) ∧ ref11_Stuck F x s = some (((d : Nat) : Int), 0)) ∨ ((∀ u e, D x s u e → stl x u = false) ∧ ref11_Stuck F x s = some (0, 5)))) := by
  unfold ref11_Stuck
  have ho : ref11_One F (x.1, x.2) s = some (one x s) := one_eq hF
  simp only [ho, Option.bind_eq_bind, Option.bind_some]
  by_cases h : one x s = 0
  · obtain ⟨hx, hs⟩ := one_ok.1 h
    simp only [h, decide_true, Bool.not_true, Bool.false_eq_true, if_false]
    obtain ⟨L, h1, h2⟩ := far_eq hF hx hs
    have h1' : ref11_Far F (x.1, x.2) s = some L := h1
    have hp := hx.prd
    have hl := h2.len
    have loop : ∀ (m q : Nat) (y : Int), q ≤ L.length → L.length - q < m → ((y = -1 ∧ ∀ u e, D x s u e → iv x u < q → stl x u = false) ∨ (∃ v d, D x s v d ∧ stl x v = true ∧ y = ((d : Nat) : Int) ∧ ∀ u e, D x s u e → iv x u < q → stl x u = true → d ≤ e)) →
        ∃ z, ref11_Stuck_l1 F x L m y (q : Int) = some z ∧ ((z = -1 ∧ ∀ u e, D x s u e → iv x u < L.length → stl x u = false) ∨ (∃ v d, D x s v d ∧ stl x v = true ∧ z = ((d : Nat) : Int) ∧ ∀ u e, D x s u e → iv x u < L.length → stl x u = true → d ≤ e)) := by
      intro m
      induction m with
      | zero => intro q _ _ h; omega
      | succ m ih =>
        intro q y hq h hi
        simp only [ref11_Stuck_l1]
        by_cases hlt : q < L.length
        · rw [if_pos (ltd hlt), ix_nat hlt, w64_succ (k := q) (by omega)]
          simp only [Option.bind_eq_bind, Option.bind_some]
          rcases h2.no q hlt with h3 | ⟨v, d, hv, h4, h5, h6⟩
          · have e : L[q] = -1 := by
              rw [List.getElem?_eq_getElem hlt] at h3
              exact Option.some.inj h3
            have hnone : ∀ u e, D x s u e → iv x u ≠ q := fun u f hf e2 => by
              have := h2.ok u (hf.1.stk hx hs) f hf
              rw [e2, h3] at this
              have := Option.some.inj this
              omega
            rw [if_neg (by rw [e]; simp)]
            simp only [Bool.false_eq_true, if_false, Option.bind_some]
            refine ih (q + 1) y (by omega) (by omega) ?_
            rcases hi with ⟨i1, i2⟩ | ⟨v, d, i1, i2, i3, i4⟩
            · exact .inl ⟨i1, fun u f hf hlt2 => i2 u f hf (by have := hnone u f hf; omega)⟩
            · exact .inr ⟨v, d, i1, i2, i3, fun u f hf hlt2 => i4 u f hf (by have := hnone u f hf; omega)⟩
          · have e : L[q] = (d : Int) := by
              rw [List.getElem?_eq_getElem hlt] at h6
              exact Option.some.inj h6
            have hst : ref11_stock F (x.1, x.2) (q : Int) = some v := by
              have h7 : ref11_stock F x (idx x v) = some v := stock_eq hF hx hv
              rw [← (iv_lt hx hv h2.len).2, h4] at h7
              exact h7
            have hstl : ref11_Still F (x.1, x.2) v = some (stl x v) := rstill_eq hF hx hv
            have huq : ∀ u f, D x s u f → iv x u = q → u = v := fun u f hf e2 => iv_inj hx (hf.1.stk hx hs) hv (by rw [e2, h4])
            rw [if_pos (by rw [e]; simp)]
            simp only [hst, hstl, Option.bind_some]
            by_cases c : stl x v = true
            · rw [if_pos c]
              rcases hi with ⟨i1, i2⟩ | ⟨w, d2, i1, i2, i3, i4⟩
              · rw [if_pos (by rw [i1]; simp)]
                simp only [Option.bind_some, if_true]
                rw [e]
                refine ih (q + 1) _ (by omega) (by omega) (.inr ⟨v, d, h5, c, rfl, fun u f hf hlt2 hu => ?_⟩)
                by_cases c2 : iv x u = q
                · have := huq u f hf c2
                  subst this
                  rw [h5.uniq hf]; exact Nat.le_refl _
                · have := i2 u f hf (by omega)
                  rw [this] at hu
                  cases hu
              · rw [if_neg (by rw [i3]; simp)]
                simp only [Option.bind_some]
                by_cases c4 : L[q] < y
                · simp only [c4, decide_true, if_true, Option.bind_some]
                  rw [e]
                  refine ih (q + 1) _ (by omega) (by omega) (.inr ⟨v, d, h5, c, rfl, fun u f hf hlt2 hu => ?_⟩)
                  by_cases c2 : iv x u = q
                  · have := huq u f hf c2
                    subst this
                    rw [h5.uniq hf]; exact Nat.le_refl _
                  · have := i4 u f hf (by omega) hu
                    omega
                · simp only [c4, decide_false, Bool.false_eq_true, if_false, Option.bind_some]
                  refine ih (q + 1) _ (by omega) (by omega) (.inr ⟨w, d2, i1, i2, i3, fun u f hf hlt2 hu => ?_⟩)
                  by_cases c2 : iv x u = q
                  · have := huq u f hf c2
                    subst this
                    have := h5.uniq hf
                    omega
                  · exact i4 u f hf (by omega) hu
            · rw [if_neg c]
              simp only [Option.bind_some, Bool.false_eq_true, if_false]
              refine ih (q + 1) y (by omega) (by omega) ?_
              rcases hi with ⟨i1, i2⟩ | ⟨w, d2, i1, i2, i3, i4⟩
              · refine .inl ⟨i1, fun u f hf hlt2 => ?_⟩
                by_cases c2 : iv x u = q
                · have := huq u f hf c2
                  subst this
                  simpa using c
                · exact i2 u f hf (by omega)
              · refine .inr ⟨w, d2, i1, i2, i3, fun u f hf hlt2 hu => ?_⟩
                by_cases c2 : iv x u = q
                · have := huq u f hf c2
                  subst this
                  exact (c hu).elim
                · exact i4 u f hf (by omega) hu
        · have : q = L.length := by omega
          subst this
          rw [if_neg nltd]
          exact ⟨y, rfl, hi⟩
    obtain ⟨z, j1, j2⟩ := loop F 0 (-1) (by omega) (by omega) (.inl ⟨rfl, fun u e _ h => by omega⟩)
    simp only [Int.natCast_zero] at j1
    have hall : ∀ u e, D x s u e → iv x u < L.length := fun u e he => (iv_lt hx (he.1.stk hx hs) h2.len).1
    simp only [h1', Option.bind_some, j1]
    refine .inr ⟨trivial, ?_⟩
    rcases j2 with ⟨j3, j4⟩ | ⟨v, d, j3, j4, j5, j6⟩
    · right
      rw [if_pos (by rw [j3]; simp)]
      exact ⟨fun u e he => j4 u e he (hall u e he), rfl⟩
    · left
      rw [if_neg (by rw [j5]; simp), j5]
      exact ⟨v, d, j3, j4, fun u e he => j6 u e he (hall u e he), rfl⟩
  · simp only [h, decide_false, Bool.not_false, if_true]
    exact .inl ⟨h, trivial⟩
end Go.Proofs.Ytboefnpnoojfpaa
