/-
  BathReaches; a walk by chance; BathMost. Condition: there are enough rounds.
-/
import Derived.Test.YtboefnpnoojfpaaSpecG
namespace Go.Proofs.Ytboefnpnoojfpaa
open Go Go.Md Go.RowKit

theorem gd_ex {α : Type} {c : Bool} {o : Option α} {d : α} (h : ∃ v, o = some v) : ∃ v, gd c o d = some v := by
  obtain ⟨v, rfl⟩ := h
  cases c
  · exact ⟨d, rfl⟩
  · exact ⟨v, rfl⟩
theorem gd_eq {α : Type} {c : Bool} {o : Option α} {d v : α} (h : c = true → o = some v) : gd c o d = some (if c = true then v else d) := by
  cases c
  · rfl
  · rw [h rfl]; rfl
theorem large_ex {F : Nat} {x : Spec} (hF : 1000000 < F) : ∃ b, law11_large F x = some b := by
  unfold law11_large
  have hc : ref11_CheckBath F (x.1, x.2) = some (cval x) := rcheck_eq hF
  simp only [hc, Option.bind_eq_bind, Option.bind_some]
  by_cases h : cval x = 0
  · have hx := cval_ok.1 h
    have hm : ref11_Many F (x.1, x.2) = some (prd x.1) := Many_eq (x := x) hF (by have := hx.k5; omega) (inr_iff.2 hx.cap)
    simp [h, gd, hm]
  · simp [h, gd]
def fine (x : Spec) (s : List Int) : Bool := !gr x && decide (s.length ≤ 10) && decide (one x s = 0) && decide (prd x.1 ≤ 300)
theorem fine_eq {F : Nat} {x : Spec} {s : List Int} (hF : 1000000 < F) : law11_fine F x s = some (fine x s) := by
  unfold law11_fine fine
  have hg : law11_great F (x.1, x.2) = some (gr x) := great_eq hF
  have ho : ref11_One F (x.1, x.2) s = some (one x s) := one_eq hF
  simp only [hg, ho, Option.bind_eq_bind, Option.bind_some]
  cases gr x with
  | true => simp [gd]
  | false =>
    by_cases h1 : s.length ≤ 10
    · by_cases h2 : one x s = 0
      · obtain ⟨hx, hs⟩ := one_ok.1 h2
        have hm : ref11_Many F (x.1, x.2) = some (prd x.1) := Many_eq (x := x) hF (by have := hx.k5; omega) (inr_iff.2 hx.cap)
        have h1' : (s.length : Int) ≤ 10 := by omega
        simp [gd, h1, h1', h2, hm]
      · have h1' : (s.length : Int) ≤ 10 := by omega
        simp [gd, h1, h1', h2]
    · have h1' : ¬ (s.length : Int) ≤ 10 := by omega
      simp [gd, h1, h1']
theorem fine_ok {x : Spec} {s : List Int} (h : fine x s = true) : V x ∧ Stk x s := by
  simp only [fine, Bool.and_eq_true, decide_eq_true_eq] at h
  exact one_ok.1 h.1.2
theorem mk_run {x : Spec} {s w v : List Int} (hx : V x) (hs : Stk x s) (h : run x w s = some v) (hw : w.length ≤ 4096) : mk x s w = (v, 0) := by
  unfold mk
  rw [if_neg (by rw [one_ok.2 ⟨hx, hs⟩]; simp), if_neg (by omega), if_neg, h]
  simp only [List.any_eq_true, not_exists, not_and]
  intro i hi
  have := run_ix h i hi
  simp only [badI, Bool.or_eq_true, decide_eq_true_eq]
  omega
theorem D.small {x : Spec} {s v : List Int} (hx : V x) (hs : Stk x s) {k : Nat} (h : D x s v k) : k ≤ 4096 := by
  have := dist_lt hx hs h
  have := hx.prd
  omega

/-! ### The program and the reference -/
theorem reach_both {F : Nat} {x : Spec} {s t : List Int} (hF : 1000000 < F) : ∃ r q, bath_Reach F x s t = some r ∧ ref11_Fewest F x s t = some q ∧ r.2 = q.2 ∧ (r.1.length : Int) = q.1 ∧ (r.2 = 0 → ref11_Make F x s r.1 = some (t, 0) ∧ t.length ≤ 5) := by
  obtain ⟨r, h1, h2⟩ := reach_eq (F := F) (x := x) (s := s) (t := t) hF
  obtain ⟨q, h3, h4⟩ := fewest_eq (F := F) (x := x) (s := s) (t := t) hF
  refine ⟨r, q, h1, h3, ?_⟩
  rcases h2 with ⟨e, rfl⟩ | ⟨e, ⟨k, hk, r1, r2, r3⟩ | ⟨hn, rfl⟩⟩
  · rcases h4 with ⟨_, rfl⟩ | ⟨e2, _⟩
    · exact ⟨rfl, rfl, fun h => (e h).elim⟩
    · exact (e e2).elim
  · rcases h4 with ⟨e2, _⟩ | ⟨_, ⟨k', hk', rfl⟩ | ⟨hn, _⟩⟩
    · exact (e2 e).elim
    · obtain ⟨hx, hs, ht⟩ := two_ok.1 e
      refine ⟨r1, by rw [r2, hk.uniq hk'], fun _ => ⟨?_, by rw [ht.len]; exact hx.k5⟩⟩
      rw [rmake_eq hF, mk_run hx hs r3 (by rw [r2]; exact hk.small hx hs)]
    · exact (hn k hk).elim
  · rcases h4 with ⟨e2, _⟩ | ⟨_, ⟨k', hk', rfl⟩ | ⟨_, rfl⟩⟩
    · exact (e2 e).elim
    · exact (hn k' hk').elim
    · exact ⟨rfl, rfl, fun h => by cases h⟩
theorem stocks_both {F : Nat} {x : Spec} {s : List Int} (hF : 1000000 < F) : ∃ r, bath_Stocks F x s = some r ∧ ref11_Stocks F x s = some r := by
  rcases stocks_eq (F := F) (x := x) (s := s) hF with ⟨h, h1⟩ | ⟨hx, hs, Q, hQ, h1⟩ <;> rcases rstocks_eq (F := F) (x := x) (s := s) hF with ⟨h2, h3⟩ | ⟨h2, h3⟩
  · exact ⟨_, h1, h3⟩
  · exact (h h2).elim
  · exact (h2 (one_ok.2 ⟨hx, hs⟩)).elim
  · exact ⟨_, h1, h3 Q hQ⟩
theorem most_both {F : Nat} {x : Spec} {s : List Int} {kind : Int} (hF : 1000000 < F) : ∃ n w e, bath_Most F x s kind = some (n, w, e) ∧ ref11_Most F x s kind = some (n, (w.length : Int), e) ∧
    (e = 0 → ∃ v k, kind = ((k : Nat) : Int) ∧ ref11_Make F x s w = some (v, 0) ∧ v[k]? = some n) := by
  rcases most_eq (F := F) (x := x) (s := s) (kind := kind) hF with ⟨h, h1⟩ | ⟨h, h0, h1⟩ | ⟨k, e0, hk, hx, hs, n, w, v, d, h1, h2, h3, h4, h5, h6⟩ <;>
    rcases rmost_eq (F := F) (x := x) (s := s) (kind := kind) hF with ⟨g, g1⟩ | ⟨g, g0, g1⟩ | ⟨k', e', hk', hx', hs', n', v', d', g1, g2, g3, g4⟩
  · exact ⟨_, _, _, h1, g1, fun e => (h e).elim⟩
  · exact (h g).elim
  · exact (h (one_ok.2 ⟨hx', hs'⟩)).elim
  · exact (g h).elim
  · exact ⟨_, _, _, h1, g1, fun e => by cases e⟩
  · subst e'; omega
  · exact (g (one_ok.2 ⟨hx, hs⟩)).elim
  · omega
  · obtain rfl : k = k' := by omega
    obtain ⟨rfl, rfl⟩ := h6.uniq h2 h3 g4 g2 g3
    refine ⟨n, w, 0, h1, by rw [g1, h4], fun _ => ⟨v, k, e0, ?_, h3⟩⟩
    rw [rmake_eq hF, mk_run hx hs h5 (by rw [h4]; exact h2.small hx hs)]
theorem stuck_both {F : Nat} {x : Spec} {s : List Int} (hF : 1000000 < F) : ∃ w e, bath_Stuck F x s = some (w, e) ∧ ref11_Stuck F x s = some ((w.length : Int), e) ∧ (e = 0 → ∃ v, ref11_Make F x s w = some (v, 0) ∧ ref11_Still F x v = some true) := by
  rcases stuck_eq (F := F) (x := x) (s := s) hF with ⟨h, h1⟩ | ⟨h, r, h1, h2⟩ <;> rcases rstuck_eq (F := F) (x := x) (s := s) hF with ⟨g, g1⟩ | ⟨g, g1⟩
  · exact ⟨_, _, h1, g1, fun e => (h e).elim⟩
  · exact (h g).elim
  · exact (g h).elim
  · obtain ⟨hx, hs⟩ := one_ok.1 h
    rcases h2 with ⟨v, d, a1, a2, a3, a4, a5, a6⟩ | ⟨a1, rfl⟩ <;> rcases g1 with ⟨v', d', b1, b2, b3, b4⟩ | ⟨b1, b2⟩
    · have e1 := a3 v' d' b1 b2
      have e2 := b3 v d a1 a2
      obtain rfl : d = d' := by omega
      refine ⟨r.1, r.2, h1, by rw [b4, a5, a4], fun _ => ⟨v, ?_, ?_⟩⟩
      · rw [rmake_eq hF, mk_run hx hs a6 (by rw [a5]; exact a1.small hx hs)]
      · rw [rstill_eq hF hx (a1.1.stk hx hs), a2]
    · have := b1 v d a1
      rw [a2] at this
      cases this
    · have := a1 v' d' b1
      rw [b2] at this
      cases this
    · exact ⟨_, _, h1, b2, fun e => by cases e⟩
theorem reaches_law {F : Nat} (hF : 2000000000 < F) (hW : law11_Works F = some true) {x : Spec} {s t : List Int} {kind : Int} : law11_BathReaches F x s t kind = some true := by
  have hF' : 1000000 < F := by omega
  unfold law11_BathReaches
  have hg : law11_great F (x.1, x.2) = some (gr x) := great_eq hF'
  obtain ⟨b, hb⟩ := gd_ex (c := !gr x) (d := false) (large_ex (F := F) (x := x) hF')
  have hb' : gd (!gr x) (law11_large F (x.1, x.2)) false = some b := hb
  obtain ⟨r, q, r1, r2, r3, r4, r5⟩ := reach_both (F := F) (x := x) (s := s) (t := t) hF'
  obtain ⟨a, a1, a2⟩ := stocks_both (F := F) (x := x) (s := s) hF'
  obtain ⟨n, w, e, m1, m2, m3⟩ := most_both (F := F) (x := x) (s := s) (kind := kind) hF'
  obtain ⟨u, f, u1, u2, u3⟩ := stuck_both (F := F) (x := x) (s := s) hF'
  simp only [hg, Option.bind_eq_bind, Option.bind_some, hb', hW]
  split
  · rfl
  rw [show bath_Reach F (x.1, x.2) s t = some r from r1, show ref11_Fewest F (x.1, x.2) s t = some q from r2, show bath_Stocks F (x.1, x.2) s = some a from a1, show ref11_Stocks F (x.1, x.2) s = some a from a2,
    show bath_Most F (x.1, x.2) s kind = _ from m1, show ref11_Most F (x.1, x.2) s kind = _ from m2, show bath_Stuck F (x.1, x.2) s = _ from u1, show ref11_Stuck F (x.1, x.2) s = _ from u2]
  simp only [Option.bind_some]
  rw [if_neg (by simp [r3, r4])]
  have e1 : (if decide (r.2 = 0) = true then (ref11_Make F (x.1, x.2) s r.1).bind fun x16 => (gd (!(!decide (x16.2 = 0))) (law11_longs F x16.1 t) false).bind fun x17 =>
      if ((!decide (x16.2 = 0)) || (!x17)) = true then some (Sum.inl false) else some (Sum.inr ()) else some (Sum.inr ()) : Option (Sum Bool Unit)) = some (.inr ()) := by
    by_cases h : r.2 = 0
    · obtain ⟨h1, h2⟩ := r5 h
      rw [if_pos (by simpa using h), show ref11_Make F (x.1, x.2) s r.1 = _ from h1]
      simp [gd, longs_same (F := F) (l := t) hF' (by omega)]
    · rw [if_neg (by simpa using h)]
  rw [e1]
  simp only [Option.bind_some]
  by_cases h : e = 0
  · obtain ⟨v, k, rfl, h1, h2⟩ := m3 h
    rw [if_pos (by simpa using h), show ref11_Make F (x.1, x.2) s w = _ from h1]
    have hkl : k < v.length := (List.getElem?_eq_some_iff.1 h2).1
    have hvk : v[k] = n := by
      rw [List.getElem?_eq_getElem hkl] at h2
      exact Option.some.inj h2
    simp only [Option.bind_some, decide_true, Bool.not_true, Bool.false_eq_true, if_false]
    rw [if_neg (by simpa using hkl), ix_nat hkl]
    simp only [Option.bind_some, hvk, decide_true, Bool.not_true, Bool.false_eq_true, if_false]
    by_cases h3 : f = 0
    · obtain ⟨c, h4, h5⟩ := u3 h3
      rw [if_pos (by simpa using h3), show ref11_Make F (x.1, x.2) s u = _ from h4]
      simp [gd, show ref11_Still F (x.1, x.2) c = _ from h5]
    · rw [if_neg (by simpa using h3)]
      rfl
  · rw [if_neg (by simpa using h)]
    simp only [Option.bind_some]
    by_cases h3 : f = 0
    · obtain ⟨c, h4, h5⟩ := u3 h3
      rw [if_pos (by simpa using h3), show ref11_Make F (x.1, x.2) s u = _ from h4]
      simp [gd, show ref11_Still F (x.1, x.2) c = _ from h5]
    · rw [if_neg (by simpa using h3)]
      rfl

/-! ### A walk by chance -/
abbrev OkB (b : KI .u8) : Prop := (Lit.int .u8 b.v).wf = true
theorem okb_rng {n : Int} (h : (Lit.int .u8 n).wf = true) : 0 ≤ n ∧ n ≤ 255 := by
  simp only [Lit.wf, Bool.and_eq_true, decide_eq_true_eq] at h
  have h1 : IntKind.min .u8 = 0 := by decide
  have h2 : IntKind.max .u8 = 255 := by decide
  omega
theorem rem_nat {a n : Int} (ha : 0 ≤ a ∧ a ≤ 255) (hn : 0 < n) (hn' : n ≤ 1000000) : ∃ k : Nat, rem (w64 a) n = some (k : Int) ∧ (k : Int) < n := by
  rw [w64_in (by omega)]
  unfold rem
  rw [if_neg (by omega), Int.tmod_eq_emod_of_nonneg ha.1]
  have h1 := Int.emod_nonneg a (by omega : n ≠ 0)
  have h2 := Int.emod_lt_of_pos a hn
  exact ⟨(a % n).toNat, by rw [Int.toNat_of_nonneg h1], by omega⟩
theorem walk_eq {F : Nat} {x : Spec} {s : List Int} {by_ : List (KI .u8)} (hF : 1000000 < F) (hx : V x) (hs : Stk x s) (hb : by_.length ≤ 100) (hB : ∀ b ∈ by_, OkB b) : ∃ w v, law11_Walk F x s by_ = some w ∧ run x w s = some v ∧ w.length ≤ by_.length := by
  have m8 := hx.m8
  have l2 : ∀ (now : List Int), Stk x now → ∃ z, law11_Walk_l2 F x (now, 0) F [] 0 = some z ∧ z.length ≤ 8 ∧ ∀ i ∈ z, ∃ u, stp x i now = some u := by
    intro now hnow
    have loop : ∀ (m k : Nat) (z : List Int), k ≤ x.2.length → x.2.length - k < m → z.length ≤ k → (∀ i ∈ z, ∃ u, stp x i now = some u) → ∃ z', law11_Walk_l2 F x (now, 0) m z (k : Int) = some z' ∧ z'.length ≤ x.2.length ∧ ∀ i ∈ z', ∃ u, stp x i now = some u := by
      intro m
      induction m with
      | zero => intro k _ _ h; omega
      | succ m ih =>
        intro k z hk h hz hz2
        simp only [law11_Walk_l2]
        by_cases hlt : k < x.2.length
        · have hm : ref11_Make F (x.1, x.2) now [(k : Int)] = some (mk x now [(k : Int)]) := rmake_eq hF
          rw [if_pos (ltd hlt), w64_succ (by omega)]
          simp only [hm, Option.bind_eq_bind, Option.bind_some]
          have hmk : mk x now [(k : Int)] = match stp x (k : Int) now with | some v => (v, 0) | none => ([], 9) := by
            unfold mk
            rw [if_neg (by rw [one_ok.2 ⟨hx, hnow⟩]; simp), if_neg (by simp), if_neg (by simp [badI]; omega)]
            rw [run_cons]
            cases stp x (k : Int) now <;> rfl
          rw [hmk]
          cases hst : stp x (k : Int) now with
          | none =>
            simp only [Int.reduceEq, decide_false, Bool.false_eq_true, if_false, Option.bind_some]
            exact ih (k + 1) z (by omega) (by omega) (by omega) hz2
          | some u =>
            simp only [decide_true, if_true]
            rw [app_some (by simp; omega)]
            simp only [Option.bind_some]
            refine ih (k + 1) _ (by omega) (by omega) (by simp; omega) fun i hi => ?_
            rcases List.mem_append.1 hi with h1 | h1
            · exact hz2 i h1
            · simp only [List.mem_singleton] at h1
              subst h1
              exact ⟨u, hst⟩
        · have : k = x.2.length := by omega
          subst this
          rw [if_neg nltd]
          exact ⟨z, rfl, hz, hz2⟩
    obtain ⟨z, h1, h2, h3⟩ := loop F 0 [] (by omega) (by omega) (by simp) (by simp)
    exact ⟨z, by simpa using h1, by omega, h3⟩
  have loop : ∀ (m k : Nat) (w v : List Int), k ≤ by_.length → by_.length - k < m → w.length ≤ k → run x w s = some v → ∃ o, law11_Walk_l1 F x s by_ m w (k : Int) = some o ∧ ∃ w' v', (o = .inl w' ∨ o = .inr w') ∧ run x w' s = some v' ∧ w'.length ≤ by_.length := by
    intro m
    induction m with
    | zero => intro k _ _ _ h; omega
    | succ m ih =>
      intro k w v hk h hw hr
      simp only [law11_Walk_l1]
      by_cases hlt : k < by_.length
      · have hv := hs.run hx hr
        have hm : ref11_Make F (x.1, x.2) s w = some (v, 0) := by
          rw [show ref11_Make F (x.1, x.2) s w = some (mk x s w) from rmake_eq hF, mk_run hx hs hr (by omega)]
        obtain ⟨z, z1, z2, z3⟩ := l2 v hv
        rw [if_pos (ltd hlt), ix_nat hlt, w64_succ (k := k) (by omega)]
        simp only [hm, Option.bind_eq_bind, Option.bind_some, z1]
        by_cases e : z.length = 0
        · rw [if_pos (by simp [e])]
          exact ⟨_, rfl, w, v, .inl rfl, hr, by omega⟩
        · rw [if_neg (by simpa [nc] using e)]
          obtain ⟨j, j1, j2⟩ := rem_nat (okb_rng (hB _ (List.getElem_mem hlt))) (n := (z.length : Int)) (by omega) (by omega)
          have hj : j < z.length := by omega
          simp only [j1, Option.bind_some, ix_nat hj]
          rw [app_some (by simp; omega)]
          simp only [Option.bind_some]
          obtain ⟨u, hu⟩ := z3 z[j] (List.getElem_mem hj)
          exact ih (k + 1) _ u (by omega) (by omega) (by simp; omega) (by rw [run_app, hr]; simp [run_cons, hu, run_nil])
      · have : k = by_.length := by omega
        subst this
        rw [if_neg nltd]
        exact ⟨_, rfl, w, v, .inr rfl, hr, hw⟩
  obtain ⟨o, h1, w, v, h2, h3, h4⟩ := loop F 0 [] s (by omega) (by omega) (by simp) rfl
  simp only [Int.natCast_zero] at h1
  unfold law11_Walk
  refine ⟨w, v, ?_, h3, h4⟩
  simp only [h1, Option.bind_eq_bind, Option.bind_some]
  rcases h2 with rfl | rfl <;> rfl

/-! ### BathMost -/
theorem All.sub {x : Spec} {s t : List Int} {Q R : List (List Int)} (hQ : All x s Q) (hR : All x t R) {n : Nat} (h : Rn x n s t) : R.length ≤ Q.length := by
  have hsub : ∀ v ∈ R, v ∈ Q := fun v hv => by
    obtain ⟨k, hk⟩ := hR.dd v hv
    exact hQ.all v _ (h.trans hk.1)
  have : ∀ (R Q : List (List Int)), R.Nodup → (∀ v ∈ R, v ∈ Q) → R.length ≤ Q.length := by
    intro R
    induction R with
    | nil => intro Q _ _; simp
    | cons a R ih =>
      intro Q hn hs
      rw [List.nodup_cons] at hn
      have ha := hs a (by simp)
      have := ih (Q.erase a) hn.2 fun v hv => (List.mem_erase_of_ne (by rintro rfl; exact hn.1 hv)).2 (hs v (by simp [hv]))
      rw [List.length_erase_of_mem ha] at this
      have := List.length_pos_of_mem ha
      simp only [List.length_cons]
      omega
  exact this R Q hR.nd hsub
theorem stl_all {x : Spec} {c : List Int} {Q : List (List Int)} (h : All x c Q) (hs : stl x c = true) : Q.length = 1 := by
  have key : ∀ v ∈ Q, v = c := fun v hv => by
    obtain ⟨k, hk⟩ := h.dd v hv
    cases k with
    | zero => exact Rn_zero.1 hk.1
    | succ k =>
      obtain ⟨w, h1, h2⟩ := hk.1
      match w, h1 with
      | i :: w, _ =>
        rw [run_cons] at h2
        obtain ⟨u, h3, _⟩ := bs h2
        exact (stl_iff.1 hs i u h3).elim
  exact one_len h.nd (h.all c 0 D.refl.1) key
theorem stocks_ok {F : Nat} {x : Spec} {s : List Int} (hF : 1000000 < F) (hx : V x) (hs : Stk x s) : ∃ Q, All x s Q ∧ bath_Stocks F x s = some ((Q.length : Int), 0) := by
  rcases stocks_eq (F := F) (x := x) (s := s) hF with ⟨h, _⟩ | ⟨_, _, Q, hQ, h1⟩
  · exact (h (one_ok.2 ⟨hx, hs⟩)).elim
  · exact ⟨Q, hQ, h1⟩
theorem reach_ok {F : Nat} {x : Spec} {s t : List Int} (hF : 1000000 < F) (hx : V x) (hs : Stk x s) (ht : Stk x t) : ∃ r, bath_Reach F x s t = some r ∧ ((∃ k, D x s t k ∧ r.2 = 0 ∧ r.1.length = k ∧ run x r.1 s = some t) ∨ ((∀ k, ¬ D x s t k) ∧ r = ([], 13))) := by
  obtain ⟨r, h1, h2⟩ := reach_eq (F := F) (x := x) (s := s) (t := t) hF
  rcases h2 with ⟨e, _⟩ | ⟨_, h2⟩
  · exact (e (two_ok.2 ⟨hx, hs, ht⟩)).elim
  · exact ⟨r, h1, h2⟩
theorem most_ok {F : Nat} {x : Spec} {s : List Int} {k : Nat} (hF : 1000000 < F) (hx : V x) (hs : Stk x s) (hk : k < x.1.length) : ∃ n w v d, bath_Most F x s (k : Int) = some (n, w, 0) ∧ D x s v d ∧ v[k]? = some n ∧ w.length = d ∧ run x w s = some v ∧ IsMost x s k n d := by
  rcases most_eq (F := F) (x := x) (s := s) (kind := (k : Int)) hF with ⟨h, _⟩ | ⟨_, h, _⟩ | ⟨k', e, _, _, _, h⟩
  · exact (h (one_ok.2 ⟨hx, hs⟩)).elim
  · omega
  · obtain rfl : k = k' := by omega
    exact h
theorem most_law {F : Nat} (hF : 2000000000 < F) (hW : law11_Works F = some true) {x : Spec} {s : List Int} {by_ : List (KI .u8)} {kind : Int} (hB : ∀ b ∈ by_, OkB b) (hk : (Lit.int .u8 kind).wf = true) : law11_BathMost F x s by_ kind = some true := by
  have hF' : 1000000 < F := by omega
  unfold law11_BathMost
  have hf : law11_fine F (x.1, x.2) s = some (fine x s) := fine_eq hF'
  simp only [hf, Option.bind_eq_bind, Option.bind_some, hW]
  split
  · rfl
  rename_i hc
  simp only [Bool.or_eq_true, Bool.not_eq_true', decide_eq_true_eq, not_or, Bool.not_eq_false] at hc
  obtain ⟨hx, hs⟩ := fine_ok hc.1
  have k1 := hx.k1
  have k5 := hx.k5
  have hsl := hs.len
  obtain ⟨k, e1, e2⟩ := rem_nat (okb_rng hk) (n := (s.length : Int)) (by omega) (by omega)
  have hk' : k < x.1.length := by omega
  obtain ⟨n, w, v, d, m1, m2, m3, m4, m5, m6⟩ := most_ok (F := F) hF' hx hs hk'
  have hv := m2.1.stk hx hs
  have hkv : k < v.length := (List.getElem?_eq_some_iff.1 m3).1
  have hvk : v[k] = n := by
    rw [List.getElem?_eq_getElem hkv] at m3
    exact Option.some.inj m3
  have mk1 : bath_Make F (x.1, x.2) s w = some (v, 0) := by
    rw [show bath_Make F (x.1, x.2) s w = some (mk x s w) from make_eq hF', mk_run hx hs m5 (by rw [m4]; exact m2.small hx hs)]
  have one1 : ∀ u, Stk x u → ref11_One F (x.1, x.2) u = some 0 := fun u hu => by
    rw [show ref11_One F (x.1, x.2) u = some (one x u) from one_eq hF', one_ok.2 ⟨hx, hu⟩]
  simp only [e1, Option.bind_some, show bath_Most F (x.1, x.2) s (k : Int) = _ from m1, mk1, decide_true, Bool.not_true, Bool.false_eq_true, if_false, one1 v hv, ix_nat hkv, hvk]
  obtain ⟨r, r1, r2⟩ := reach_ok (F := F) hF' hx hs hv
  obtain ⟨Q, hQ, q1⟩ := stocks_ok (F := F) hF' hx hs
  have r3 : r.2 = 0 ∧ r.1.length = w.length := by
    rcases r2 with ⟨k2, h1, h2, h3, _⟩ | ⟨h1, _⟩
    · exact ⟨h2, by rw [h3, m4, h1.uniq m2]⟩
    · exact (h1 d m2).elim
  simp only [show bath_Reach F (x.1, x.2) s v = _ from r1, show bath_Stocks F (x.1, x.2) s = _ from q1, Option.bind_some, r3.1, r3.2, decide_true, Bool.not_true, Bool.or_self, Bool.false_eq_true, if_false]
  rcases stuck_eq (F := F) (x := x) (s := s) hF' with ⟨h, _⟩ | ⟨_, u, u1, u2⟩
  · exact (h (one_ok.2 ⟨hx, hs⟩)).elim
  simp only [show bath_Stuck F (x.1, x.2) s = _ from u1, Option.bind_some]
  have hmid : (if decide (u.2 = 0) = true then (bath_Make F (x.1, x.2) s u.1).bind fun x19 => (gd (!(!decide (x19.2 = 0))) (ref11_One F (x.1, x.2) x19.1) 0).bind fun x20 =>
      (gd (!((!decide (x19.2 = 0)) || (!decide (x20 = 0)))) (ref11_Still F (x.1, x.2) x19.1) false).bind fun x21 =>
      if (((!decide (x19.2 = 0)) || (!decide (x20 = 0))) || (!x21)) = true then some (Sum.inl false) else (bath_Stocks F (x.1, x.2) x19.1).bind fun x22 => if ((!decide (x22.2 = 0)) || (!decide (x22.1 = 1))) = true then some (Sum.inl false) else some (Sum.inr ())
      else some (Sum.inr ()) : Option (Sum Bool Unit)) = some (.inr ()) := by
    rcases u2 with ⟨c, d2, a1, a2, a3, a4, a5, a6⟩ | ⟨_, rfl⟩
    · have hcs := a1.1.stk hx hs
      obtain ⟨R, hR, q2⟩ := stocks_ok (F := F) hF' hx hcs
      have mk2 : bath_Make F (x.1, x.2) s u.1 = some (c, 0) := by
        rw [show bath_Make F (x.1, x.2) s u.1 = some (mk x s u.1) from make_eq hF', mk_run hx hs a6 (by rw [a5]; exact a1.small hx hs)]
      have st : ref11_Still F (x.1, x.2) c = some true := by
        rw [show ref11_Still F (x.1, x.2) c = some (stl x c) from rstill_eq hF' hx hcs, a2]
      have hR1 := stl_all hR a2
      rw [if_pos (by simpa using a4)]
      simp [mk2, gd, one1 c hcs, st, show bath_Stocks F (x.1, x.2) c = _ from q2, hR1]
    · rfl
  rw [hmid]
  simp only [Option.bind_some]
  obtain ⟨w2, e, w3, w4, w5⟩ := walk_eq (F := F) hF' hx hs (by omega : by_.length ≤ 100) hB
  have he := hs.run hx w4
  have mk3 : bath_Make F (x.1, x.2) s w2 = some (e, 0) := by
    rw [show bath_Make F (x.1, x.2) s w2 = some (mk x s w2) from make_eq hF', mk_run hx hs w4 (by omega)]
  have hu : u.2 = 0 ∨ (u.2 = 5 ∧ stl x e = false) := by
    rcases u2 with ⟨c, d2, a1, a2, a3, a4, a5, a6⟩ | ⟨a1, rfl⟩
    · exact .inl a4
    · obtain ⟨k3, _, h3⟩ := D.ex (⟨w2, rfl, w4⟩ : Rn x w2.length s e)
      exact .inr ⟨rfl, a1 e k3 h3⟩
  have st2 : ref11_Still F (x.1, x.2) e = some (stl x e) := rstill_eq hF' hx he
  obtain ⟨n2, w6, v2, d2, p1, p2, p3, p4, p5, p6⟩ := most_ok (F := F) hF' hx he hk'
  obtain ⟨R, hR, q2⟩ := stocks_ok (F := F) hF' hx he
  have hle := hQ.sub hR (⟨w2, rfl, w4⟩ : Rn x w2.length s e)
  have hn : n2 ≤ n := by
    obtain ⟨k4, _, h4⟩ := D.ex (Rn.trans (⟨w2, rfl, w4⟩ : Rn x w2.length s e) p2.1)
    obtain ⟨m, h5, h6⟩ := m6 v2 k4 h4
    rw [p3] at h5
    cases h5
    omega
  simp only [show law11_Walk F (x.1, x.2) s by_ = _ from w3, mk3, Option.bind_some, one1 e he, st2, show bath_Most F (x.1, x.2) e (k : Int) = _ from p1, show bath_Stocks F (x.1, x.2) e = _ from q2]
  have hle' : (R.length : Int) ≤ (Q.length : Int) := by omega
  rcases hu with hu | ⟨hu, hu2⟩
  · simp [hu, gd, hn, hle', hle, hW]
  · simp [hu, hu2, gd, hn, hle', hle, hW]
end Go.Proofs.Ytboefnpnoojfpaa
