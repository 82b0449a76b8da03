/-
  Laws in plain Lean, with no program in sight. Condition: each section says its own.
-/
import Derived.Test.YthppacohnciinaaLaw1
import Derived.Test.YthppacohnciinaaPureC
import Derived.Test.YthppacohnciinaaPureG
import Derived.Test.YthppacohnciinaaManE
import Derived.Test.YthppacohnciinaaPureH
set_option linter.unusedVariables false
set_option linter.unusedSimpArgs false
/-! The cheapest costs from a turn, in plain words. Condition: there are enough rounds, and some speeds are true. -/
namespace Go.Proofs.Ythppacohnciinaa
open Go Go.Md Go.RowKit
open BF (Rl St Back rel pass NEV)

/-! ### Ways, and the cheapest ones -/
/-- A way from the turn a to a turn, and what it costs. -/
inductive PC (R : List RR) (a : Int) : Int → Int → Prop
  | nil : PC R a a 0
  | snoc {u c : Int} {r : RR} (h : PC R a u c) (hr : r ∈ R) (hu : r.1 = u) : PC R a r.2.1 (c + r.2.2)
theorem PC.trans {R : List RR} {a b t c d : Int} (h : PC R a b c) (k : PC R b t d) : PC R a t (c + d) := by
  induction k with
  | nil => simpa using h
  | snoc _ hr hu ih => rw [← Int.add_assoc]; exact .snoc ih hr hu
theorem PC.one {R : List RR} {r : RR} (hr : r ∈ R) : PC R r.1 r.2.1 r.2.2 := by
  have := PC.snoc (PC.nil (R := R) (a := r.1)) hr rfl
  simpa using this
theorem PC.pot {R : List RR} {p : Int → Int} (hp : ∀ r ∈ R, p r.2.1 ≤ p r.1 + r.2.2) {a t c : Int} (h : PC R a t c) : p t ≤ p a + c := by
  induction h with
  | nil => omega
  | snoc _ hr hu ih =>
    have := hp _ hr
    rw [hu] at this
    omega
theorem PC.node {x : Int × List RR} (h : csheet x = 0) {a t c : Int} (a0 : 0 ≤ a) (a1 : a ≤ x.1) (hp : PC (whole x) a t c) : 0 ≤ t ∧ t ≤ x.1 := by
  cases hp with
  | nil => exact ⟨a0, a1⟩
  | snoc _ hr _ => exact ⟨(whole_ok h _ hr).2.2.1, (whole_ok h _ hr).2.2.2.1⟩
theorem turn_mem {x : Int × List RR} {t : Int} (t0 : 1 ≤ t) (t1 : t ≤ x.1) : (0, t, 100000) ∈ whole x ∧ (t, 0, 0) ∈ whole x := by
  have h : ∀ r, r = (0, t, (100000 : Int)) ∨ r = (t, 0, 0) → r ∈ whole x := fun r hr => by
    refine List.mem_append.2 (.inr (List.mem_flatMap.2 ⟨(t - 1).toNat, List.mem_range.2 (by omega), ?_⟩))
    have : (((t - 1).toNat : Nat) : Int) + 1 = t := by omega
    simp only [this, List.mem_cons, List.not_mem_nil, or_false]
    exact hr
  exact ⟨h _ (.inl rfl), h _ (.inr rfl)⟩
/-- Between any two turns there is a way that costs at most MaxSpeed. -/
theorem PC.any {x : Int × List RR} {a t : Int} (a0 : 0 ≤ a) (a1 : a ≤ x.1) (t0 : 0 ≤ t) (t1 : t ≤ x.1) : ∃ c, PC (whole x) a t c ∧ c ≤ 100000 := by
  have h1 : ∃ c, PC (whole x) a 0 c ∧ c ≤ 0 := by
    by_cases h : a = 0
    · subst h; exact ⟨0, .nil, by omega⟩
    · exact ⟨0, PC.one (r := (a, 0, 0)) (turn_mem (by omega) a1).2, by omega⟩
  obtain ⟨c, h2, h3⟩ := h1
  by_cases h : t = 0
  · subst h; exact ⟨c, h2, by omega⟩
  · exact ⟨c + 100000, h2.trans (PC.one (r := (0, t, 100000)) (turn_mem (by omega) t1).1), by omega⟩
theorem PC.low {x : Int × List RR} (h : csheet x = 0) (hP : Pot x) {a t c : Int} (a0 : 0 ≤ a) (a1 : a ≤ x.1) (hp : PC (whole x) a t c) : -100000 ≤ c := by
  obtain ⟨p, hpp⟩ := hP
  obtain ⟨t0, t1⟩ := hp.node h a0 a1
  obtain ⟨d, h1, h2⟩ := PC.any (x := x) t0 t1 a0 a1
  have := (hp.trans h1).pot hpp
  omega
theorem PC.loop {x : Int × List RR} (hP : Pot x) {a c : Int} (hp : PC (whole x) a a c) : 0 ≤ c := by
  obtain ⟨p, hpp⟩ := hP
  have := hp.pot hpp
  omega
/-- What the cheapest way costs. -/
def Dist (x : Int × List RR) (a t d : Int) : Prop := PC (whole x) a t d ∧ ∀ c, PC (whole x) a t c → d ≤ c
theorem Dist.uni {x : Int × List RR} {a t d e : Int} (h : Dist x a t d) (k : Dist x a t e) : d = e := by
  have := h.2 e k.1
  have := k.2 d h.1
  omega

/-! ### The rounds -/
structure Jv (x : Int × List RR) (a : Int) (s : St) : Prop where
  j1 : ∀ v, s.f v = NEV ∨ PC (whole x) a v (s.f v)
  j2 : ∀ v q, s.b v = some q → q ∈ Rs x ∧ q.2.2.1 = v ∧ s.f q.2.1 + q.2.2.2 ≤ s.f v ∧ s.f q.2.1 ≠ NEV
  j3 : ∀ v c n, Back s.b v v c n → c < 0
  j4 : ∀ v, v ≠ a → s.f v ≠ NEV → s.b v ≠ none
  j5 : s.f a ≤ 0
  j6 : ∀ v, s.f v ≤ NEV
theorem Jv.bd {x : Int × List RR} (h : csheet x = 0) (hP : Pot x) {a : Int} (a0 : 0 ≤ a) (a1 : a ≤ x.1) {s : St} (hj : Jv x a s) : Bd 100000 s := by
  intro v
  rcases hj.j1 v with h1 | h1
  · rw [h1]; unfold NEV; omega
  · exact ⟨h1.low h hP a0 a1, hj.j6 v⟩
theorem Jv.rel {x : Int × List RR} (h : csheet x = 0) {a : Int} {s : St} {K : Nat} {p : Rl} (hp : p ∈ Rs x) (hj : Jv x a s) : Jv x a (BF.rel K s p) := by
  unfold BF.rel
  by_cases hc : BF.cnd s.f p
  · rw [if_pos hc]
    have hne := Rs_ne h p hp
    obtain ⟨c1, c2⟩ := hc
    have hpc : PC (whole x) a p.2.2.1 (s.f p.2.1 + p.2.2.2) := by
      rcases hj.j1 p.2.1 with h1 | h1
      · exact (c1 h1).elim
      · exact .snoc h1 (en_mem hp).1 rfl
    have hmono : ∀ v, BF.up s.f p.2.2.1 (s.f p.2.1 + p.2.2.2) v ≤ s.f v := fun v => by
      by_cases hv : v = p.2.2.1
      · subst hv; rw [BF.up_same]; omega
      · rw [BF.up_ne hv]; exact Int.le_refl _
    refine ⟨fun v => ?_, fun v q hq => ?_, fun v c n hb => ?_, fun v hv hf => ?_, ?_, fun v => ?_⟩
    · dsimp only
      by_cases hv : v = p.2.2.1
      · subst hv; rw [BF.up_same]; exact .inr hpc
      · rw [BF.up_ne hv]; exact hj.j1 v
    · dsimp only at hq ⊢
      by_cases hv : v = p.2.2.1
      · subst hv
        rw [BF.up_same] at hq
        cases hq
        rw [BF.up_same, BF.up_ne hne]
        exact ⟨hp, rfl, Int.le_refl _, c1⟩
      · rw [BF.up_ne hv] at hq
        obtain ⟨h1, h2, h3, h4⟩ := hj.j2 v q hq
        rw [BF.up_ne hv]
        refine ⟨h1, h2, by have := hmono q.2.1; omega, ?_⟩
        by_cases hu : q.2.1 = p.2.2.1
        · rw [hu, BF.up_same]
          have := hj.j6 p.2.2.1
          omega
        · rw [BF.up_ne hu]; exact h4
    · dsimp only at hb
      rcases BF.cyc (fun v q hq => (hj.j2 v q hq).2.2.1) hne ⟨c1, c2⟩ hb with h1 | ⟨_, h2, h3⟩
      · omega
      · by_cases hv : v = p.2.2.1
        · exact (h2 hv).elim
        · exact hj.j3 v c n (h3 hv)
    · dsimp only at hf ⊢
      by_cases hv2 : v = p.2.2.1
      · subst hv2; rw [BF.up_same]; simp
      · rw [BF.up_ne hv2] at hf ⊢
        exact hj.j4 v hv hf
    · have := hmono a
      have := hj.j5
      dsimp only
      omega
    · have := hmono v
      have := hj.j6 v
      dsimp only
      omega
  · rw [if_neg hc]
    exact hj
theorem Jv.fold {x : Int × List RR} (h : csheet x = 0) {a : Int} {K : Nat} : ∀ (R : List Rl) (s : St), (∀ p ∈ R, p ∈ Rs x) → Jv x a s → Jv x a (R.foldl (BF.rel K) s)
  | [], _, _, hj => hj
  | p :: R, s, hR, hj => Jv.fold h R _ (fun q hq => hR q (by simp [hq])) (hj.rel h (hR p (by simp)))
theorem pass_none {K : Nat} : ∀ (R : List Rl) (s : St), (∀ p ∈ R, ¬ BF.cnd s.f p) → R.foldl (BF.rel K) s = s
  | [], _, _ => rfl
  | p :: R, s, h => by
    simp only [List.foldl_cons]
    have e : BF.rel K s p = s := by unfold BF.rel; rw [if_neg (h p (by simp))]
    rw [e]
    exact pass_none R s fun q hq => h q (by simp [hq])

/-! ### The rounds end -/
def mu (f : Int → Int) : Nat → Nat
  | 0 => 0
  | n + 1 => mu f n + (f (n : Int) + 100000).toNat
theorem mu_le {f g : Int → Int} (h : ∀ v, f v ≤ g v) : ∀ n, mu f n ≤ mu g n
  | 0 => Nat.le_refl _
  | n + 1 => by
    have := mu_le h n
    have := h n
    unfold mu
    omega
theorem mu_lt {f g : Int → Int} (h : ∀ v, f v ≤ g v) (hb : ∀ v, -100000 ≤ f v) : ∀ (n : Nat) (t : Int), 0 ≤ t → t < (n : Int) → f t < g t → mu f n < mu g n
  | 0, t, t0, t1, _ => by omega
  | n + 1, t, t0, t1, hlt => by
    have h1 := mu_le h n
    have h2 := h n
    unfold mu
    by_cases e : t = (n : Int)
    · subst e
      have := hb (n : Int)
      omega
    · have := mu_lt h hb n t t0 (by omega) hlt
      omega
theorem mu_top {f : Int → Int} (h : ∀ v, f v ≤ NEV) : ∀ n, mu f n ≤ n * 1125899906942624
  | 0 => Nat.le_refl _
  | n + 1 => by
    have := mu_top h n
    have := h n
    unfold mu
    unfold NEV at this
    omega

/-- What holds when the rounds are over. -/
structure Fin (x : Int × List RR) (a : Int) (X : Ar 21 Int) (l : List (Int × Int)) (s : St) : Prop where
  rep : Rep X l s
  jv : Jv x a s
  fix : ∀ p ∈ Rs x, ¬ BF.cnd s.f p
theorem find_l2 {x : Int × List RR} (h : csheet x = 0) (hP : Pot x) {a : Int} (a0 : 0 ≤ a) (a1 : a ≤ x.1) : ∀ (m : Nat) (X : Ar 21 Int) (l : List (Int × Int)) (s : St), Rep X l s → Jv x a s → mu s.f 21 < m →
    ∃ X' l' s', speed_net_find_l2 (whole x) m X l = some (X', l') ∧ Fin x a X' l' s'
  | 0, _, _, _, _, _, hm => by omega
  | m + 1, X, l, s, hr, hj, hm => by
    have hb := hj.bd h hP a0 a1
    obtain ⟨X', l', b, e, r1, _, hc⟩ := step_rep (K := 1) h hr hb (by omega) (by omega)
    have hj' : Jv x a (pass (Rs x) 1 s) := Jv.fold h (Rs x) s (fun p hp => hp) hj
    unfold speed_net_find_l2
    rw [e]
    simp only [Option.bind_eq_bind, Option.bind_some]
    cases hbb : b with
    | false =>
      have hf := pass_fix (Rs x) s (fun p hp => by
        have := Rs_ok h p hp
        obtain ⟨_, _, h3, _⟩ := csheet_ok h
        exact ⟨this.2.2.1, by have := this.2.2.2.1; omega⟩) (hc.1 hbb)
      have hs : pass (Rs x) 1 s = s := pass_none _ _ hf
      rw [hs] at r1
      exact ⟨X', l', s, by simp, r1, hj, hf⟩
    | true =>
      rw [if_pos rfl]
      refine find_l2 h hP a0 a1 m X' l' _ r1 hj' ?_
      have hle : ∀ v, (pass (Rs x) 1 s).f v ≤ s.f v := fun v => (BF.pass_le (K := 1) (Rs x) s).1
      have hb' := hj'.bd h hP a0 a1
      have : ∃ t : Int, 0 ≤ t ∧ t < ((21 : Nat) : Int) ∧ (pass (Rs x) 1 s).f t < s.f t := by
        apply Classical.byContradiction
        intro hno
        have : b = false := hc.2 fun t t0 t1 => by
          have := hle t
          have h2 : ¬ (pass (Rs x) 1 s).f t < s.f t := fun hlt => hno ⟨t, t0, by omega, hlt⟩
          omega
        rw [hbb] at this
        cases this
      obtain ⟨t, t0, t1, ht⟩ := this
      have := mu_lt hle (fun v => (hb' v).1) 21 t t0 t1 ht
      omega
theorem find_l1 {F : Nat} : ∀ (m k : Nat) (X : Ar 21 Int), k ≤ 21 → 21 - k < m → (∀ t : Int, 0 ≤ t → t < (k : Int) → gA X t = NEV) → ∃ X', speed_net_find_l1 F m (k : Int) X = some X' ∧ ∀ t, 0 ≤ t → t ≤ 20 → gA X' t = NEV
  | 0, k, _, _, hm, _ => by omega
  | m + 1, k, X, hk, hm, hX => by
    unfold speed_net_find_l1
    by_cases hlt : k < 21
    · rw [if_pos (by simp; omega), ixA (X := X) (by omega) (by omega)]
      simp only [Option.bind_eq_bind, Option.bind_some]
      rw [w64_succ (by omega)]
      refine find_l1 m (k + 1) _ (by omega) (by omega) fun t t0 t1 => ?_
      rw [gA_set (by omega) (by omega) t0 (by omega)]
      split
      · rfl
      · exact hX t t0 (by omega)
    · rw [if_neg (by simp; omega)]
      exact ⟨X, rfl, fun t t0 t1 => hX t t0 (by omega)⟩
theorem find_eq {x : Int × List RR} (h : csheet x = 0) (hP : Pot x) {a : Int} (a0 : 0 ≤ a) (a1 : a ≤ x.1) {F : Nat} (hF : 100000000000000000 ≤ F) :
    ∃ X l s, speed_net_find F ((x.1, x.2), whole x) a = some (X, l) ∧ Fin x a X l s := by
  obtain ⟨_, _, h3, _⟩ := csheet_ok h
  obtain ⟨Z, e1, hZ⟩ := find_l1 (F := F) F 0 (Ar.fill 21 0 : Ar 21 Int) (by omega) (by omega) (fun t t0 t1 => by omega)
  rw [show ((0 : Nat) : Int) = 0 from rfl] at e1
  unfold speed_net_find
  rw [e1]
  simp only [Option.bind_eq_bind, Option.bind_some]
  rw [ixA (X := Z) a0 (by omega)]
  simp only [Option.bind_some]
  have hr : Rep (aset Z a 0) [] ⟨fun t => if t = a then 0 else NEV, fun _ => none, fun _ => 0⟩ := by
    refine ⟨fun t t0 t1 => ?_, fun t p hp => by simp at hp⟩
    rw [gA_set a0 (by omega) t0 t1, hZ t t0 t1]
  have hj : Jv x a ⟨fun t => if t = a then 0 else NEV, fun _ => none, fun _ => 0⟩ := by
    refine ⟨fun v => ?_, fun v q hq => by simp at hq, fun v c n hb => ?_, fun v hv hf => ?_, by simp, fun v => ?_⟩
    · dsimp only
      by_cases hv : v = a
      · subst hv; rw [if_pos rfl]; exact .inr .nil
      · rw [if_neg hv]; exact .inl rfl
    · obtain ⟨p, hp⟩ := hb.start
      simp at hp
    · dsimp only at hf
      rw [if_neg hv] at hf
      exact (hf rfl).elim
    · dsimp only
      split
      · unfold NEV; omega
      · exact Int.le_refl _
  obtain ⟨X', l', s', e2, hf⟩ := find_l2 h hP a0 a1 F _ _ _ hr hj (by
    have := mu_top hj.j6 21
    omega)
  exact ⟨X', l', s', e2, hf⟩

/-! ### What is found -/
theorem Fin.le {x : Int × List RR} (h : csheet x = 0) {a : Int} {X : Ar 21 Int} {l : List (Int × Int)} {s : St} (hf : Fin x a X l s) (a0 : 0 ≤ a) (a1 : a ≤ x.1) {t c : Int} (hp : PC (whole x) a t c) : s.f t ≤ c ∧ s.f t < NEV := by
  have key : ∀ {u c : Int}, PC (whole x) a u c → s.f u < NEV → ∀ r ∈ whole x, r.1 = u → s.f r.2.1 ≤ s.f u + r.2.2 := by
    intro u c _ hlt r hr hu
    obtain ⟨i, hi, e⟩ := List.getElem_of_mem hr
    have hm : ((i : Int), r) ∈ Rs x := by
      have : (en (whole x))[i]? = some ((i : Int), r) := by rw [en_get, List.getElem?_eq_getElem hi, e]; rfl
      exact List.mem_of_getElem? this
    have := hf.fix _ hm
    unfold BF.cnd at this
    simp only [not_and, Int.not_lt] at this
    rw [← hu] at hlt ⊢
    exact this (by omega)
  -- first: nothing is never reached
  have h5 := hf.jv.j5
  have fin0 : s.f 0 ≤ 0 := by
    by_cases e : a = 0
    · rw [e] at h5; exact h5
    · have := key (PC.nil) (by unfold NEV; omega) (a, 0, 0) (turn_mem (by omega) a1).2 rfl
      simp only at this
      omega
  have fin : ∀ u, 0 ≤ u → u ≤ x.1 → s.f u < NEV := fun u u0 u1 => by
    by_cases e : u = 0
    · subst e; unfold NEV; omega
    · obtain ⟨c0, hc0, _⟩ := PC.any (x := x) (a := a) (t := 0) a0 a1 (by omega) (by omega)
      have := key hc0 (by unfold NEV; omega) (0, u, 100000) (turn_mem (by omega) u1).1 rfl
      simp only at this
      unfold NEV
      omega
  have hn := hp.node h a0 a1
  refine ⟨?_, fin t hn.1 hn.2⟩
  clear hn
  induction hp with
  | nil => exact h5
  | @snoc u c r hpu hr hu ih =>
    have hnu := hpu.node h a0 a1
    have := key hpu (fin u hnu.1 hnu.2) r hr hu
    omega
theorem Fin.dist {x : Int × List RR} (h : csheet x = 0) {a : Int} {X : Ar 21 Int} {l : List (Int × Int)} {s : St} (hf : Fin x a X l s) (a0 : 0 ≤ a) (a1 : a ≤ x.1) {t : Int} (t0 : 0 ≤ t) (t1 : t ≤ x.1) : Dist x a t (gA X t) ∧ gA X t = s.f t := by
  obtain ⟨_, _, h3, _⟩ := csheet_ok h
  obtain ⟨c, hc, _⟩ := PC.any (x := x) a0 a1 t0 t1
  have h1 := hf.le h a0 a1 hc
  have e := hf.rep.f t t0 (by omega)
  rw [e]
  refine ⟨⟨?_, fun c hc => (hf.le h a0 a1 hc).1⟩, rfl⟩
  rcases hf.jv.j1 t with h2 | h2
  · rw [h2] at h1; omega
  · exact h2
end Go.Proofs.Ythppacohnciinaa

/-! The ends of all turns, circles, and true speeds, in plain words. Condition: there are enough rounds. -/
namespace Go.Proofs.Ythppacohnciinaa
open Go Go.Md Go.RowKit
open BF (Rl St Back rel pass NEV)

/-! ### The cheapest costs -/
open Classical in
noncomputable def D (x : Int × List RR) (a t : Int) : Int := if h : ∃ d, Dist x a t d then Classical.choose h else 0
section
variable {x : Int × List RR} {a t u : Int} {F : Nat}
theorem D_of {d : Int} (h : Dist x a t d) : D x a t = d := by
  unfold D
  have he : ∃ d, Dist x a t d := ⟨d, h⟩
  rw [dif_pos he]
  exact (Classical.choose_spec he).uni h
theorem find_D (h : csheet x = 0) (hP : Pot x) (a0 : 0 ≤ a) (a1 : a ≤ x.1) (hF : 100000000000000000 ≤ F) :
    ∃ X l s, speed_net_find F ((x.1, x.2), whole x) a = some (X, l) ∧ Fin x a X l s ∧ ∀ t, 0 ≤ t → t ≤ x.1 → gA X t = D x a t ∧ ix X.l t = some (D x a t) := by
  obtain ⟨_, _, h3, _⟩ := csheet_ok h
  obtain ⟨X, l, s, e, hf⟩ := find_eq h hP a0 a1 hF
  refine ⟨X, l, s, e, hf, fun t t0 t1 => ?_⟩
  have := D_of (hf.dist h a0 a1 t0 t1).1
  exact ⟨this.symm, by rw [ixA (X := X) t0 (by omega), this]⟩
theorem D_dist (h : csheet x = 0) (hP : Pot x) (a0 : 0 ≤ a) (a1 : a ≤ x.1) (t0 : 0 ≤ t) (t1 : t ≤ x.1) : Dist x a t (D x a t) := by
  obtain ⟨X, l, s, e, hf, hD⟩ := find_D (F := 100000000000000000) h hP a0 a1 (Nat.le_refl _)
  rw [← (hD t t0 t1).1]
  exact (hf.dist h a0 a1 t0 t1).1
theorem D_bd (h : csheet x = 0) (hP : Pot x) (a0 : 0 ≤ a) (a1 : a ≤ x.1) (t0 : 0 ≤ t) (t1 : t ≤ x.1) : -100000 ≤ D x a t ∧ D x a t ≤ 100000 := by
  obtain ⟨h1, h2⟩ := D_dist h hP a0 a1 t0 t1
  refine ⟨h1.low h hP a0 a1, ?_⟩
  obtain ⟨c, hc, hc2⟩ := PC.any (x := x) a0 a1 t0 t1
  have := h2 c hc
  omega
theorem D_tri (h : csheet x = 0) (hP : Pot x) (a0 : 0 ≤ a) (a1 : a ≤ x.1) (t0 : 0 ≤ t) (t1 : t ≤ x.1) (u0 : 0 ≤ u) (u1 : u ≤ x.1) : D x a u ≤ D x a t + D x t u :=
  (D_dist h hP a0 a1 u0 u1).2 _ ((D_dist h hP a0 a1 t0 t1).1.trans (D_dist h hP t0 t1 u0 u1).1)
theorem D_rule (h : csheet x = 0) (hP : Pot x) (a0 : 0 ≤ a) (a1 : a ≤ x.1) {r : RR} (hr : r ∈ whole x) : D x a r.2.1 ≤ D x a r.1 + r.2.2 := by
  have hok := whole_ok h r hr
  exact (D_dist h hP a0 a1 hok.2.2.1 hok.2.2.2.1).2 _ (.snoc (D_dist h hP a0 a1 hok.1 hok.2.1).1 hr rfl)
theorem D_rule' (h : csheet x = 0) (hP : Pot x) (a0 : 0 ≤ a) (a1 : a ≤ x.1) {r : RR} (hr : r ∈ whole x) : D x r.1 a ≤ r.2.2 + D x r.2.1 a := by
  have hok := whole_ok h r hr
  exact (D_dist h hP hok.1 hok.2.1 a0 a1).2 _ ((PC.one hr).trans (D_dist h hP hok.2.2.1 hok.2.2.2.1 a0 a1).1)
theorem D_self (h : csheet x = 0) (hP : Pot x) (a0 : 0 ≤ a) (a1 : a ≤ x.1) : D x a a = 0 := by
  obtain ⟨h1, h2⟩ := D_dist h hP a0 a1 a0 a1
  have := h2 0 .nil
  have := h1.loop hP
  omega

/-! ### The sheet that is opened -/
theorem open_no (h : csheet x ≠ 0) (hF : 1000 ≤ F) : speed_open F x = some (⟨none⟩, csheet x) := by
  unfold speed_open
  simp only [checkSheet_eq (x := (x.1, x.2)) (show 100 < F by omega), Option.bind_eq_bind, Option.bind_some]
  have e : csheet (x.1, x.2) = csheet x := rfl
  rw [e, if_pos (by simp [h])]
theorem open_eq (h : csheet x = 0) (hF : 1000 ≤ F) : (Pot x → speed_open F x = some (⟨some ((x.1, x.2), whole x)⟩, 0)) ∧ (¬ Pot x → speed_open F x = some (⟨none⟩, 21)) := by
  obtain ⟨h1, h2, h3, _⟩ := csheet_ok h
  unfold speed_open
  simp only [checkSheet_eq (x := (x.1, x.2)) (show 100 < F by omega), Option.bind_eq_bind, Option.bind_some]
  have e : csheet (x.1, x.2) = csheet x := rfl
  rw [e, if_neg (by simp [h]), newNet_eq (x := (x.1, x.2)) (by omega) (by simp; omega) h3 h1]
  have ew : whole (x.1, x.2) = whole x := rfl
  rw [ew]
  simp only [Option.bind_some]
  rcases circle_eq h (F := F) (by omega) with ⟨e1, hp⟩ | ⟨hn, e0, a, e1, hc⟩
  · rw [e1]
    simp only [Option.bind_some]
    exact ⟨fun _ => by rw [if_neg (by simp)], fun h => (h hp).elim⟩
  · rw [e1]
    simp only [Option.bind_some]
    refine ⟨fun h => (hn h).elim, fun _ => ?_⟩
    rw [if_pos]
    cases a with
    | nil => have := hc.hd; simp at this
    | cons p a => simp
theorem circ_eq (h : csheet x = 0) (hF : 1000 ≤ F) : (Pot x ∧ speed_Circle F x = some ([], 5)) ∨ (¬ Pot x ∧ ∃ e a, speed_Circle F x = some (a.map (·.1), 0) ∧ Circ x e a) := by
  obtain ⟨h1, h2, h3, _⟩ := csheet_ok h
  unfold speed_Circle
  simp only [checkSheet_eq (x := (x.1, x.2)) (show 100 < F by omega), Option.bind_eq_bind, Option.bind_some]
  have e : csheet (x.1, x.2) = csheet x := rfl
  rw [e, if_neg (by simp [h]), newNet_eq (x := (x.1, x.2)) (by omega) (by simp; omega) h3 h1]
  have ew : whole (x.1, x.2) = whole x := rfl
  rw [ew]
  simp only [Option.bind_some]
  rcases circle_eq h (F := F) (by omega) with ⟨e1, hp⟩ | ⟨hn, e0, a, e1, hc⟩
  · left
    rw [e1]
    exact ⟨hp, rfl⟩
  · right
    refine ⟨hn, e0, a, ?_, hc⟩
    rw [e1]
    simp only [Option.bind_some]
    rw [if_neg]
    cases a with
    | nil => have := hc.hd; simp at this
    | cons p a => simp; omega
theorem circ_no (h : csheet x ≠ 0) (hF : 1000 ≤ F) : speed_Circle F x = some ([], csheet x) := by
  unfold speed_Circle
  simp only [checkSheet_eq (x := (x.1, x.2)) (show 100 < F by omega), Option.bind_eq_bind, Option.bind_some]
  have e : csheet (x.1, x.2) = csheet x := rfl
  rw [e, if_pos (by simp [h])]

/-! ### The ends of all turns -/
noncomputable def endS (x : Int × List RR) (high : Bool) (k : Nat) : Int := if high = true then D x 0 ((k : Int) + 1) else -D x ((k : Int) + 1) 0
noncomputable def endsL (x : Int × List RR) (high : Bool) : List Int := (List.range x.1.toNat).map (endS x high)
theorem ends_l1 {y : Int → Option Int} {g : Nat → Int} {N : Nat} (hN : x.1 = N) (h20 : N ≤ 20) (hy : ∀ k : Nat, k < N → y ((k : Int) + 1) = some (g k)) : ∀ (m k : Nat), k ≤ N → N - k < m →
    speed_Ends_l1 F x y m ((List.range k).map g) (k : Int) = some ((List.range N).map g)
  | 0, k, _, h => by omega
  | m + 1, k, hk, h => by
    unfold speed_Ends_l1
    by_cases hlt : k < N
    · rw [if_pos (by simp; omega), w64_in (by omega), hy k hlt]
      simp only [Option.bind_eq_bind, Option.bind_some]
      rw [app_some (by simp only [List.length_map, List.length_range, List.length_cons, List.length_nil]; omega)]
      simp only [Option.bind_some]
      have e : (List.range k).map g ++ [g k] = (List.range (k + 1)).map g := by simp [List.range_succ]
      rw [e]
      exact ends_l1 hN h20 hy m (k + 1) (by omega) (by omega)
    · have : k = N := by omega
      subst this
      rw [if_neg (by simp; omega)]
theorem ends_no (h : csheet x ≠ 0) (hF : 1000 ≤ F) (high : Bool) : speed_Ends F x high = some ([], csheet x) := by
  unfold speed_Ends
  rw [show speed_open F (x.1, x.2) = _ from open_no h hF]
  simp only [Option.bind_eq_bind, Option.bind_some]
  rw [if_pos (by simp [h])]
theorem ends_eq (h : csheet x = 0) (hF : 100000000000000000 ≤ F) (high : Bool) : (Pot x → speed_Ends F x high = some (endsL x high, 0)) ∧ (¬ Pot x → speed_Ends F x high = some ([], 21)) := by
  obtain ⟨h1, h2, h3, _⟩ := csheet_ok h
  obtain ⟨o1, o2⟩ := open_eq h (F := F) (by omega)
  unfold speed_Ends
  refine ⟨fun hP => ?_, fun hP => ?_⟩
  · rw [show speed_open F (x.1, x.2) = _ from o1 hP]
    simp only [Option.bind_eq_bind, Option.bind_some]
    obtain ⟨X, l, s, e, hf, hD⟩ := find_D h hP (a := 0) (by omega) (by omega) hF
    rw [if_neg (by simp), e]
    simp only [Option.bind_some]
    have key : ∀ y : Int → Option Int, (∀ k : Nat, k < x.1.toNat → y ((k : Int) + 1) = some (endS x high k)) → (speed_Ends_l1 F x y F [] 0).bind (fun z1 => some (z1, (0 : Int))) = some (endsL x high, 0) := by
      intro y hy
      have := ends_l1 (F := F) (x := x) (N := x.1.toNat) (by omega) (by omega) hy F 0 (Nat.zero_le _) (by omega)
      simp only [List.range_zero, List.map_nil, Int.natCast_zero] at this
      rw [this]
      rfl
    cases hh : high with
    | true =>
      rw [← hh]
      rw [if_neg (by simp [hh])]
      simp only [Option.bind_some]
      refine key _ fun k hk => ?_
      unfold speed_Ends_1 endS
      rw [(hD ((k : Int) + 1) (by omega) (by omega)).2, if_pos hh]
      rfl
    | false =>
      rw [← hh]
      rw [if_pos (by simp [hh])]
      simp only [Option.bind_some]
      refine key _ fun k hk => ?_
      obtain ⟨Y, l', s', e', hf', hD'⟩ := find_D h hP (a := (k : Int) + 1) (by omega) (by omega) hF
      unfold speed_Ends_2 endS
      simp only [Option.bind_eq_bind, Option.bind_some]
      rw [e']
      simp only [Option.bind_some]
      have hb := D_bd h hP (a := (k : Int) + 1) (t := 0) (by omega) (by omega) (by omega) (by omega)
      rw [(hD' 0 (by omega) (by omega)).2, if_neg (by simp [hh])]
      simp only [Option.bind_some]
      rw [w64_in (by omega)]
      congr 1
      omega
  · rw [show speed_open F (x.1, x.2) = _ from o2 hP]
    simp only [Option.bind_eq_bind, Option.bind_some]
    rw [if_pos (by simp)]

/-! ### True speeds -/
theorem endsL_len {high : Bool} : (endsL x high).length = x.1.toNat := by simp [endsL]
theorem ofS_ends {high : Bool} (h : csheet x = 0) (hP : Pot x) (t0 : 0 ≤ t) (t1 : t ≤ x.1) : ofS (endsL x high) t = if high = true then D x 0 t else -D x t 0 := by
  obtain ⟨h1, h2, h3, _⟩ := csheet_ok h
  unfold ofS
  by_cases e : t = 0
  · subst e
    rw [if_pos rfl, D_self h hP (by omega) (by omega)]
    cases high <;> rfl
  · rw [if_neg e]
    have e2 : t - 1 = ((t - 1).toNat : Int) := by omega
    have hl : (t - 1).toNat < (endsL x high).length := by rw [endsL_len]; omega
    rw [e2, ix_nat hl]
    have e3 : (((t - 1).toNat : Nat) : Int) + 1 = t := by omega
    simp only [endsL, List.getElem_map, List.getElem_range, endS, e3, Option.getD_some]
theorem ends_true (h : csheet x = 0) (hP : Pot x) (high : Bool) : cspeeds x (endsL x high) = 0 := by
  obtain ⟨h1, h2, h3, _⟩ := csheet_ok h
  have hl : ((endsL x high).length : Int) = x.1 := by rw [endsL_len]; omega
  rw [cs3 h hl, if_pos, if_pos]
  · refine List.all_eq_true.2 fun r hr => ?_
    have hw : r ∈ whole x := List.mem_append.2 (.inl hr)
    have hok := whole_ok h r hw
    unfold keepsS
    rw [ofS_ends h hP hok.2.2.1 hok.2.2.2.1, ofS_ends h hP hok.1 hok.2.1]
    have b1 := D_bd h hP (a := 0) (t := r.1) (by omega) (by omega) hok.1 hok.2.1
    have b2 := D_bd h hP (a := r.1) (t := 0) hok.1 hok.2.1 (by omega) (by omega)
    have r1 := D_rule h hP (a := 0) (by omega) (by omega) hw
    have r2 := D_rule' h hP (a := 0) (by omega) (by omega) hw
    obtain ⟨_, _, _, _, _, m1, m2⟩ := hok
    cases high with
    | true =>
      simp only [if_true]
      rw [w64_in (by omega)]
      simpa using r1
    | false =>
      simp only [Bool.false_eq_true, if_false]
      rw [w64_in (by omega)]
      simp only [decide_eq_true_eq]
      omega
  · refine List.all_eq_true.2 fun v hv => ?_
    obtain ⟨k, hk, rfl⟩ := List.mem_map.1 hv
    have hk := List.mem_range.1 hk
    have b1 := D_bd h hP (a := 0) (t := (k : Int) + 1) (by omega) (by omega) (by omega) (by omega)
    have b2 := D_bd h hP (a := (k : Int) + 1) (t := 0) (by omega) (by omega) (by omega) (by omega)
    have z := turn_mem (x := x) (t := (k : Int) + 1) (by omega) (by omega)
    have t1 := (D_dist h hP (a := (k : Int) + 1) (t := 0) (by omega) (by omega) (by omega) (by omega)).2 _ (PC.one z.2)
    have t2 : 0 ≤ D x 0 ((k : Int) + 1) := by
      have := ((D_dist h hP (a := 0) (t := (k : Int) + 1) (by omega) (by omega) (by omega) (by omega)).1.trans (PC.one z.2)).loop hP
      simp only at this
      omega
    simp only at t1
    unfold endS inR
    simp only [Bool.and_eq_true, decide_eq_true_eq]
    cases high with
    | true => simp only [if_true]; omega
    | false => simp only [Bool.false_eq_true, if_false]; omega
theorem true_pot {s : List Int} (hs : cspeeds x s = 0) : csheet x = 0 ∧ (s.length : Int) = x.1 ∧ (∀ v ∈ s, 0 ≤ v ∧ v ≤ 100000) ∧ ∀ r ∈ whole x, ofS s r.2.1 ≤ ofS s r.1 + r.2.2 := by
  by_cases h : csheet x = 0
  · obtain ⟨h1, h2, h3, h4⟩ := csheet_ok h
    by_cases h5 : (s.length : Int) = x.1
    · rw [cs3 h h5] at hs
      split at hs
      · rename_i h6
        split at hs
        · rename_i h7
          have hv : ∀ v ∈ s, 0 ≤ v ∧ v ≤ 100000 := fun v hv => by
            have := List.all_eq_true.1 h6 v hv
            simpa [inR] using this
          have ho : ∀ t, 0 ≤ t → t ≤ x.1 → 0 ≤ ofS s t ∧ ofS s t ≤ 100000 := fun t t0 t1 => by
            unfold ofS
            by_cases e : t = 0
            · rw [if_pos e]; omega
            · rw [if_neg e]
              have e2 : t - 1 = ((t - 1).toNat : Int) := by omega
              have hl : (t - 1).toNat < s.length := by omega
              rw [e2, ix_nat hl]
              exact hv _ (List.getElem_mem hl)
          refine ⟨h, h5, hv, fun r hr => ?_⟩
          have hok := whole_ok h r hr
          rcases List.mem_append.1 hr with hr2 | hr2
          · have := List.all_eq_true.1 h7 r hr2
            unfold keepsS at this
            have b1 := ho r.1 hok.1 hok.2.1
            obtain ⟨_, _, _, _, _, m1, m2⟩ := hok
            rw [w64_in (by omega)] at this
            simpa using this
          · obtain ⟨t, ht, hr2⟩ := List.mem_flatMap.1 hr2
            have ht := List.mem_range.1 ht
            have b1 := ho ((t : Int) + 1) (by omega) (by omega)
            have z : ofS s 0 = 0 := rfl
            simp only [List.mem_cons, List.not_mem_nil, or_false] at hr2
            rcases hr2 with rfl | rfl
            · simp only [z]; omega
            · simp only [z]; omega
        · cases hs
      · cases hs
    · rw [cs2 h h5] at hs; cases hs
  · rw [cs1 h] at hs; exact (h hs).elim

/-! ### Circles that are given -/
theorem linkE_path (h : csheet x = 0) : ∀ (rs : List RR) (r : RR) (c : Int) (p : Option Int), (∀ q ∈ r :: rs, q ∈ whole x) → -1000000000 ≤ c - 100000 * (rs.length + 1) → c + 100000 * (rs.length + 1) ≤ 1000000000 → (linkE c p (r :: rs)).2 = 0 →
    ∃ k, PC (whole x) r.1 (lastT (r :: rs)) k ∧ (linkE c p (r :: rs)).1 = c + k
  | [], r, c, p, hm, b1, b2, h0 => by
    have hok := whole_ok h r (hm r (by simp))
    obtain ⟨_, _, _, _, _, m1, m2⟩ := hok
    unfold linkE at h0 ⊢
    split
    · refine ⟨r.2.2, PC.one (hm r (by simp)), ?_⟩
      simp only [linkE, List.length_nil] at b1 b2 ⊢
      rw [w64_in (by omega)]
    · rename_i hp
      rw [if_neg hp] at h0
      cases h0
  | r' :: rs, r, c, p, hm, b1, b2, h0 => by
    have hok := whole_ok h r (hm r (by simp))
    obtain ⟨_, _, _, _, _, m1, m2⟩ := hok
    rw [linkE] at h0 ⊢
    split
    · rename_i hp
      rw [if_pos hp] at h0
      simp only [List.length_cons] at b1 b2
      have ew : w64 (c + r.2.2) = c + r.2.2 := w64_in (by omega)
      rw [ew] at h0 ⊢
      obtain ⟨k, h1, h2⟩ := linkE_path h rs r' (c + r.2.2) (some r.2.1) (fun q hq => hm q (by simp [List.mem_cons.1 hq])) (by omega) (by omega) h0
      have e : r'.1 = r.2.1 := by
        rw [linkE] at h0
        split at h0
        · rename_i hq
          simp only [reduceCtorEq, Option.some.injEq, false_or] at hq
          exact hq.symm
        · cases h0
      refine ⟨r.2.2 + k, ?_, by omega⟩
      have h3 := PC.one (hm r (by simp))
      rw [← e] at h3
      have := h3.trans h1
      have e2 : lastT (r :: r' :: rs) = lastT (r' :: rs) := by simp [lastT]
      rw [e2]
      exact this
    · rename_i hp
      rw [if_neg hp] at h0
      cases h0
theorem rs_mem {way : List Int} (hin : inAll (whole x) way = true) : ∀ q ∈ rsOf (whole x) way, q ∈ whole x := by
  intro q hq
  obtain ⟨i, hi, rfl⟩ := List.mem_map.1 hq
  have := List.all_eq_true.1 hin i hi
  simp only [Bool.and_eq_true, decide_eq_true_eq] at this
  have h1 := ix_in this.1 this.2
  obtain ⟨_, _, h2⟩ := ix_spec h1
  exact List.mem_of_getElem? h2
theorem circle_no_pot {way : List Int} (hc : ccircle x way = 0) : ¬ Pot x := by
  intro hP
  by_cases h : csheet x = 0
  · cases h4 : inR 1 60 way.length with
    | false => rw [cc2 h h4] at hc; cases hc
    | true =>
      by_cases h5 : (chainS (whole x) way).2 = 0
      · by_cases h6 : firstF (rsOf (whole x) way) = lastT (rsOf (whole x) way)
        · rw [cc5 h h4 h5 h6] at hc
          split at hc
          · cases hc
          · rename_i h7
            have hin : inAll (whole x) way = true := by
              unfold chainS at h5
              split at h5
              · assumption
              · cases h5
            have hrl : (rsOf (whole x) way).length = way.length := by simp [rsOf]
            simp only [inR, Bool.and_eq_true, decide_eq_true_eq] at h4
            have hch : chainS (whole x) way = linkE 0 none (rsOf (whole x) way) := by unfold chainS; rw [if_pos hin]
            have hmem := rs_mem hin
            rw [hch] at h5 h7
            cases hw : rsOf (whole x) way with
            | nil => rw [hw] at hrl; simp at hrl; omega
            | cons r rs =>
              rw [hw] at h5 h6 h7 hrl hmem
              simp only [List.length_cons] at hrl
              obtain ⟨k, h8, h9⟩ := linkE_path h rs r 0 none hmem (by omega) (by omega) h5
              rw [← h6] at h8
              have := PC.loop hP (a := r.1) (by simpa [firstF] using h8)
              omega
        · rw [cc4 h h4 h5 h6] at hc; cases hc
      · rw [cc3 h h4 h5] at hc; exact h5 hc
  · rw [cc1 h] at hc; exact h hc
theorem linkE_lk (h : csheet x = 0) : ∀ (a : List Rl) (q : Rl) (c : Int) (p : Option Int), (∀ r ∈ q :: a, r ∈ Rs x) → Lk (q :: a) → (p = none ∨ p = some q.2.1) → -1000000000 ≤ c - 100000 * (a.length + 1) → c + 100000 * (a.length + 1) ≤ 1000000000 →
    linkE c p ((q :: a).map (·.2)) = (c + sumM (q :: a), 0)
  | [], q, c, p, hm, _, hp, b1, b2 => by
    have hok := Rs_ok h q (hm q (by simp))
    obtain ⟨_, _, _, _, _, m1, m2⟩ := hok
    simp only [List.length_nil] at b1 b2
    simp only [List.map_cons, List.map_nil]
    rw [linkE, if_pos hp, linkE, w64_in (by omega)]
    simp [sumM]
  | q' :: a, q, c, p, hm, hl, hp, b1, b2 => by
    have hok := Rs_ok h q (hm q (by simp))
    obtain ⟨_, _, _, _, _, m1, m2⟩ := hok
    simp only [List.length_cons] at b1 b2
    have ih := linkE_lk h a q' (c + q.2.2.2) (some q.2.2.1) (fun r hr => hm r (by simp [List.mem_cons.1 hr])) hl.2 (.inr (by rw [hl.1])) (by omega) (by omega)
    simp only [List.map_cons] at ih ⊢
    rw [linkE, if_pos hp, w64_in (by omega), ih]
    have e : sumM (q :: q' :: a) = q.2.2.2 + sumM (q' :: a) := by simp [sumM]
    rw [e, Int.add_assoc]
theorem circ_ok {e : Int} {a : List Rl} (h : csheet x = 0) (hc : Circ x e a) : ccircle x (a.map (·.1)) = 0 := by
  have hlen := hc.len
  cases ha : a with
  | nil => have := hc.hd; rw [ha] at this; simp at this
  | cons q b =>
    rw [ha] at hc hlen
    have hin : inAll (whole x) ((q :: b).map (·.1)) = true := by
      refine List.all_eq_true.2 fun i hi => ?_
      obtain ⟨p, hp, rfl⟩ := List.mem_map.1 hi
      have := en_mem (hc.mem p hp)
      simp only [Bool.and_eq_true, decide_eq_true_eq]
      exact ⟨this.2.2.1, this.2.2.2⟩
    have hrs : rsOf (whole x) ((q :: b).map (·.1)) = (q :: b).map (·.2) := by
      unfold rsOf
      rw [List.map_map]
      refine List.map_congr_left fun p hp => ?_
      have := (en_mem (hc.mem p hp)).2.1
      simp [this]
    have hl : linkE 0 none ((q :: b).map (·.2)) = (0 + sumM (q :: b), 0) := linkE_lk h b q 0 none hc.mem hc.lk (.inl rfl) (by simp only [List.length_cons] at hlen; omega) (by simp only [List.length_cons] at hlen; omega)
    have hch : chainS (whole x) ((q :: b).map (·.1)) = (0 + sumM (q :: b), 0) := by
      unfold chainS
      rw [if_pos hin, hrs, hl]
    have h4 : inR 1 60 ((q :: b).map (·.1)).length = true := by
      simp only [List.length_map, List.length_cons, inR, Bool.and_eq_true, decide_eq_true_eq] at hlen ⊢
      omega
    have h6 : firstF (rsOf (whole x) ((q :: b).map (·.1))) = lastT (rsOf (whole x) ((q :: b).map (·.1))) := by
      rw [hrs]
      have h1 := hc.hd
      have h2 := hc.tl
      have e1 : firstF ((q :: b).map (·.2)) = q.2.1 := rfl
      simp only [List.head?_cons, Option.map_some, Option.some.injEq] at h1
      have e2 : lastT ((q :: b).map (·.2)) = e := by
        unfold lastT
        rw [List.getLast?_map]
        cases hg : (q :: b).getLast? with
        | none => rw [hg] at h2; simp at h2
        | some r =>
          rw [hg] at h2
          simp only [Option.map_some, Option.some.injEq] at h2
          simpa using h2
      rw [e1, e2, h1]
    rw [cc5 h h4 (by rw [hch]) h6, hch, if_neg]
    have := hc.neg
    simp only
    omega
end
end Go.Proofs.Ythppacohnciinaa

/-! SpeedEither, in plain words: there are either true speeds, or a circle. No condition. -/
namespace Go.Proofs.Ythppacohnciinaa
open Go Go.Md Go.RowKit
abbrev FF : Nat := 100000000000000000
theorem worksF : law01_Works FF = some true := by kernel_rfl
theorem speedEither_true (x : Int × List RR) (s names : List Int) : law01_SpeedEither FF x s names = some true := by
  unfold law01_SpeedEither law01_great
  simp only [Option.bind_eq_bind, Option.bind_some, refSheet_eq (x := (x.1, x.2)) (show 100 < FF by decide)]
  have e : csheet (x.1, x.2) = csheet x := rfl
  rw [e]
  by_cases hg : 70 < x.2.length
  · have : decide (70 < (x.2.length : Int)) = true := by simp; omega
    simp only [this, Bool.not_true, gd, cond_false, Option.bind_some, Bool.true_or, if_true, worksF]
  · have : decide (70 < (x.2.length : Int)) = false := by simp; omega
    simp only [this, Bool.not_false, gd, cond_true, Option.bind_some, Bool.false_or]
    by_cases hc : ((!decide (csheet x = 0)) || decide (40 < (s.length : Int)) || decide (60 < (names.length : Int))) = true
    · rw [if_pos hc, worksF]
      rfl
    · rw [if_neg hc]
      simp only [Bool.or_eq_true, Bool.not_eq_true', decide_eq_false_iff_not, decide_eq_true_eq, not_or, Classical.not_not] at hc
      obtain ⟨⟨hx, hs⟩, hn⟩ := hc
      have ex : (x.1, x.2) = x := rfl
      rw [ex]
      rcases circ_eq hx (F := FF) (by decide) with ⟨hP, e1⟩ | ⟨hP, e0, a, e1, hci⟩
      · rw [e1, (ends_eq hx (F := FF) (by decide) false).1 hP]
        simp only [Option.bind_some]
        rw [if_neg (by decide), if_pos (by decide), if_pos (by decide), refSpeeds_eq (by decide), ends_true hx hP]
        simp only [Option.bind_some]
        rw [if_pos (by decide), checkCircle_eq (by decide) (by omega)]
        simp only [Option.bind_some]
        rw [if_pos (by simp only [Bool.not_eq_true', decide_eq_false_iff_not]; exact fun h => circle_no_pot h hP), worksF]
        rfl
      · rw [e1, (ends_eq hx (F := FF) (by decide) false).2 hP]
        simp only [Option.bind_some]
        have hl := hci.len
        rw [if_pos (by decide), if_pos (by decide), if_pos (by decide), checkCircle_eq (by decide) (by simp; omega), refCircle_eq (by decide) (by simp; omega), circ_ok hx hci]
        simp only [Option.bind_some]
        rw [if_pos (by decide), if_pos (by decide), speeds_eq (by decide)]
        simp only [Option.bind_some]
        rw [if_pos (by
          simp only [Bool.not_eq_true', decide_eq_false_iff_not]
          exact fun h => hP ⟨ofS s, (true_pot h).2.2.2⟩), worksF]
        rfl
end Go.Proofs.Ythppacohnciinaa

/-! The cheapest ways between all turns, a turn after the other, in plain words. No condition. -/
namespace Go.Proofs.Ythppacohnciinaa
namespace FW
def NV : Int := 1099511627776
abbrev Mx := Int → Int → Int
def mm (c s : Int) : Int := if (if s < c then s else c) > -NV then (if s < c then s else c) else -NV
/-- What the pair (i, k) becomes, over the turn h. -/
def nw (g : Mx) (h i k : Int) : Int := if g i h < NV ∧ g h k < NV then mm (g i k) (g i h + g h k) else g i k
def up1 (h i k : Int) (g : Mx) : Mx := fun i' k' => if i' = i ∧ k' = k then nw g h i k else g i' k'
def rowF (h i : Int) (ks : List Int) (g : Mx) : Mx := ks.foldl (fun g k => up1 h i k g) g
def phF (h : Int) (ns is : List Int) (g : Mx) : Mx := is.foldl (fun g i => rowF h i ns g) g
def fwF (ns hs : List Int) (g : Mx) : Mx := hs.foldl (fun g h => phF h ns ns g) g

def Rg (g : Mx) : Prop := ∀ i k, -NV ≤ g i k ∧ g i k ≤ NV
theorem mm_bd {c s : Int} (hc : -NV ≤ c ∧ c ≤ NV) : -NV ≤ mm c s ∧ mm c s ≤ c := by
  unfold mm
  split <;> split <;> omega
theorem nw_bd {g : Mx} (hg : Rg g) (h i k : Int) : -NV ≤ nw g h i k ∧ nw g h i k ≤ g i k := by
  unfold nw
  split
  · exact mm_bd (hg i k)
  · exact ⟨(hg i k).1, Int.le_refl _⟩
theorem up1_le {g : Mx} (hg : Rg g) (h i k : Int) : Rg (up1 h i k g) ∧ ∀ a b, up1 h i k g a b ≤ g a b := by
  have h1 := nw_bd hg h i k
  refine ⟨fun a b => ?_, fun a b => ?_⟩
  · unfold up1
    split
    · have := (hg i k).2; omega
    · exact hg a b
  · unfold up1
    split
    · rename_i e; rw [e.1, e.2]; exact h1.2
    · exact Int.le_refl _
/-- A fold of steps keeps what each step keeps, and falls. -/
theorem fold_le {β : Type} {step : Mx → β → Mx} (hs : ∀ g b, Rg g → Rg (step g b) ∧ ∀ i k, step g b i k ≤ g i k) : ∀ (l : List β) (g : Mx), Rg g → Rg (l.foldl step g) ∧ ∀ i k, l.foldl step g i k ≤ g i k
  | [], g, hg => ⟨hg, fun _ _ => Int.le_refl _⟩
  | b :: l, g, hg => by
    obtain ⟨h1, h2⟩ := hs g b hg
    obtain ⟨h3, h4⟩ := fold_le hs l (step g b) h1
    exact ⟨h3, fun i k => Int.le_trans (h4 i k) (h2 i k)⟩
theorem rowF_le {h i : Int} (ks : List Int) {g : Mx} (hg : Rg g) : Rg (rowF h i ks g) ∧ ∀ a b, rowF h i ks g a b ≤ g a b := fold_le (fun _ k hg => up1_le hg h i k) ks g hg
theorem phF_le {h : Int} (ns is : List Int) {g : Mx} (hg : Rg g) : Rg (phF h ns is g) ∧ ∀ a b, phF h ns is g a b ≤ g a b := fold_le (fun _ _ hg => rowF_le ns hg) is g hg
theorem fwF_le (ns hs : List Int) {g : Mx} (hg : Rg g) : Rg (fwF ns hs g) ∧ ∀ a b, fwF ns hs g a b ≤ g a b := fold_le (fun _ _ hg => phF_le ns ns hg) hs g hg
/-- A fold of steps keeps a property that each step keeps. -/
theorem fold_keep {β : Type} {step : Mx → β → Mx} {Pr : Mx → Prop} (hs : ∀ g b, Pr g → Pr (step g b)) : ∀ (l : List β) (g : Mx), Pr g → Pr (l.foldl step g)
  | [], _, hg => hg
  | b :: l, g, hg => fold_keep hs l (step g b) (hs g b hg)

/-! ### A phase, where nothing becomes less at its own turn -/
section
variable {g : Mx} {h : Int}
theorem nw_col (hg : Rg g) (h0 : g h h = 0) (i : Int) : nw g h i h = g i h := by
  unfold nw mm
  have := hg i h
  rw [h0]
  split
  · split <;> split <;> omega
  · rfl
theorem nw_row (hg : Rg g) (h0 : g h h = 0) (k : Int) : nw g h h k = g h k := by
  unfold nw mm
  have := hg h k
  rw [h0]
  split
  · split <;> split <;> omega
  · rfl
/-- Some pairs are done. -/
def Part (g : Mx) (h : Int) (P : Int → Int → Prop) (g' : Mx) : Prop := ∀ i k, (P i k → g' i k = nw g h i k) ∧ (¬ P i k → g' i k = g i k)
theorem Part.fix (hg : Rg g) (h0 : g h h = 0) {P : Int → Int → Prop} {g' : Mx} (hp : Part g h P g') : (∀ i, g' i h = g i h) ∧ ∀ k, g' h k = g h k := by
  refine ⟨fun i => ?_, fun k => ?_⟩
  · by_cases hc : P i h
    · rw [(hp i h).1 hc, nw_col hg h0]
    · exact (hp i h).2 hc
  · by_cases hc : P h k
    · rw [(hp h k).1 hc, nw_row hg h0]
    · exact (hp h k).2 hc
theorem Part.up1 (hg : Rg g) (h0 : g h h = 0) {P : Int → Int → Prop} {g' : Mx} (hp : Part g h P g') {i k : Int} (hn : ¬ P i k) : Part g h (fun a b => P a b ∨ (a = i ∧ b = k)) (up1 h i k g') := by
  obtain ⟨h1, h2⟩ := hp.fix hg h0
  have e : nw g' h i k = nw g h i k := by
    unfold nw
    rw [h1 i, h2 k, (hp i k).2 hn]
  intro a b
  unfold FW.up1
  by_cases hab : a = i ∧ b = k
  · rw [if_pos hab]
    refine ⟨fun _ => by rw [e, hab.1, hab.2], fun hno => (hno (.inr hab)).elim⟩
  · rw [if_neg hab]
    refine ⟨fun hc => ?_, fun hc => (hp a b).2 fun hc2 => hc (.inl hc2)⟩
    rcases hc with hc | hc
    · exact (hp a b).1 hc
    · exact (hab hc).elim
theorem Part.row (hg : Rg g) (h0 : g h h = 0) {i : Int} : ∀ (ks : List Int) (P : Int → Int → Prop) (g' : Mx), ks.Nodup → (∀ k ∈ ks, ¬ P i k) → Part g h P g' → Part g h (fun a b => P a b ∨ (a = i ∧ b ∈ ks)) (rowF h i ks g')
  | [], P, g', _, _, hp => by simpa [rowF] using hp
  | k :: ks, P, g', hn, hk, hp => by
    simp only [List.nodup_cons] at hn
    have h1 := hp.up1 hg h0 (hk k (by simp))
    have h2 := Part.row hg h0 ks _ _ hn.2 (fun q hq hc => by
      rcases hc with hc | ⟨_, hc⟩
      · exact hk q (by simp [hq]) hc
      · exact hn.1 (hc ▸ hq)) h1
    have e : (fun a b => (P a b ∨ (a = i ∧ b = k)) ∨ (a = i ∧ b ∈ ks)) = fun a b => P a b ∨ (a = i ∧ b ∈ k :: ks) := by
      funext a b
      simp only [List.mem_cons, eq_iff_iff]
      constructor
      · rintro ((h | ⟨h1, h2⟩) | ⟨h1, h2⟩)
        · exact .inl h
        · exact .inr ⟨h1, .inl h2⟩
        · exact .inr ⟨h1, .inr h2⟩
      · rintro (h | ⟨h1, h2 | h2⟩)
        · exact .inl (.inl h)
        · exact .inl (.inr ⟨h1, h2⟩)
        · exact .inr ⟨h1, h2⟩
    rw [e] at h2
    exact h2
theorem Part.rows (hg : Rg g) (h0 : g h h = 0) {ns : List Int} (hns : ns.Nodup) : ∀ (is : List Int) (P : Int → Int → Prop) (g' : Mx), is.Nodup → (∀ i ∈ is, ∀ k, ¬ P i k) → Part g h P g' → Part g h (fun a b => P a b ∨ (a ∈ is ∧ b ∈ ns)) (phF h ns is g')
  | [], P, g', _, _, hp => by simpa [phF] using hp
  | i :: is, P, g', hn, hi, hp => by
    simp only [List.nodup_cons] at hn
    have h1 := Part.row hg h0 (i := i) ns P g' hns (fun k _ => hi i (by simp) k) hp
    have h2 := Part.rows hg h0 hns is _ _ hn.2 (fun j hj k hc => by
      rcases hc with hc | ⟨hc, _⟩
      · exact hi j (by simp [hj]) k hc
      · exact hn.1 (hc ▸ hj)) h1
    have e : (fun a b => (P a b ∨ (a = i ∧ b ∈ ns)) ∨ (a ∈ is ∧ b ∈ ns)) = fun a b => P a b ∨ (a ∈ i :: is ∧ b ∈ ns) := by
      funext a b
      simp only [List.mem_cons, eq_iff_iff]
      constructor
      · rintro ((h | ⟨h1, h2⟩) | ⟨h1, h2⟩)
        · exact .inl h
        · exact .inr ⟨.inl h1, h2⟩
        · exact .inr ⟨.inr h1, h2⟩
      · rintro (h | ⟨h1 | h1, h2⟩)
        · exact .inl (.inl h)
        · exact .inl (.inr ⟨h1, h2⟩)
        · exact .inr ⟨h1, h2⟩
    rw [e] at h2
    exact h2
theorem ph_eq (hg : Rg g) (h0 : g h h = 0) {ns : List Int} (hns : ns.Nodup) {i k : Int} (hi : i ∈ ns) (hk : k ∈ ns) : phF h ns ns g i k = nw g h i k :=
  ((Part.rows hg h0 hns ns (fun _ _ => False) g hns (by simp) (fun i k => ⟨fun h => h.elim, fun _ => rfl⟩)) i k).1 (.inr ⟨hi, hk⟩)
end

/-! ### Ways over some turns -/
/-- A way of at least one rule, between whose ends there are turns below m alone. -/
inductive PI (R : List RR) (m a : Int) : Int → Int → Prop
  | one {r : RR} (hr : r ∈ R) (ha : r.1 = a) : PI R m a r.2.1 r.2.2
  | snoc {u c : Int} {r : RR} (h : PI R m a u c) (hu : u < m) (hr : r ∈ R) (he : r.1 = u) : PI R m a r.2.1 (c + r.2.2)
theorem PI.split {R : List RR} {m a : Int} (hloop : ∀ c, PI R m m m c → 0 ≤ c) {t c : Int} (h : PI R (m + 1) a t c) : PI R m a t c ∨ ∃ c1 c2, PI R m a m c1 ∧ PI R m m t c2 ∧ c1 + c2 ≤ c := by
  induction h with
  | one hr ha => exact .inl (.one hr ha)
  | @snoc u c r h hu hr he ih =>
    by_cases hum : u = m
    · subst hum
      rcases ih with ih | ⟨c1, c2, h1, h2, h3⟩
      · exact .inr ⟨c, r.2.2, ih, .one hr he, Int.le_refl _⟩
      · have := hloop c2 h2
        exact .inr ⟨c1, r.2.2, h1, .one hr he, by omega⟩
    · have hum : u < m := by omega
      rcases ih with ih | ⟨c1, c2, h1, h2, h3⟩
      · exact .inl (.snoc ih hum hr he)
      · exact .inr ⟨c1, c2 + r.2.2, h1, .snoc h2 hum hr he, by omega⟩
theorem PI.pc {R : List RR} {m a t c : Int} (h : PI R m a t c) : PC R a t c := by
  induction h with
  | one hr ha => subst ha; exact PC.one hr
  | snoc _ _ hr he ih => exact .snoc ih hr he
theorem PI.of_pc {R : List RR} {n a t c : Int} (hn : ∀ r ∈ R, r.2.1 < n) (h : PC R a t c) : (t = a ∧ c = 0) ∨ PI R n a t c := by
  induction h with
  | nil => exact .inl ⟨rfl, rfl⟩
  | @snoc u c r h hr hu ih =>
    right
    rcases ih with ⟨rfl, rfl⟩ | ih
    · rw [Int.zero_add]
      exact .one hr hu
    · refine .snoc ih ?_ hr hu
      cases ih with
      | one hr' _ => exact hn _ hr'
      | snoc _ _ hr' _ => exact hn _ hr'

/-! ### All phases -/
def In (n : Int) (i : Int) : Prop := 0 ≤ i ∧ i < n
structure Ok (R : List RR) (n m b : Int) (g : Mx) : Prop where
  rg : Rg g
  dg : ∀ i, In n i → g i i = 0
  bd : ∀ i k, In n i → In n k → g i k = NV ∨ (-b ≤ g i k ∧ g i k ≤ b)
  un : ∀ a t c, In n a → In n t → PI R m a t c → g a t ≤ c ∧ g a t < NV
  so : ∀ i k, In n i → In n k → g i k = NV ∨ PC R i k (g i k)
theorem Ok.ph {R : List RR} {n m b : Int} {g : Mx} {ns : List Int} (hns : ns.Nodup) (hm : ∀ i, i ∈ ns ↔ In n i) (h : Ok R n m b g) (hmn : In n m) (hb : 0 ≤ b) (hb2 : 2 * b < NV) (hd : ∀ i, In n i → 0 ≤ phF m ns ns g i i) : Ok R n (m + 1) (2 * b) (phF m ns ns g) := by
  have h0 := h.dg m hmn
  have e : ∀ i k, In n i → In n k → phF m ns ns g i k = nw g m i k := fun i k hi hk => ph_eq h.rg h0 hns ((hm i).2 hi) ((hm k).2 hk)
  obtain ⟨h1, h2⟩ := phF_le (h := m) ns ns h.rg
  have hmin : ∀ i k, In n i → In n k → (g i m < NV ∧ g m k < NV → (nw g m i k = g i k ∨ nw g m i k = g i m + g m k) ∧ nw g m i k ≤ g i k ∧ nw g m i k ≤ g i m + g m k) := fun i k hi hk hlt => by
    have b1 := h.bd i m hi hmn
    have b2 := h.bd m k hmn hk
    have b3 := h.rg i k
    unfold nw mm
    rw [if_pos hlt]
    split <;> split <;> first | omega | (constructor <;> omega)
  refine ⟨h1, fun i hi => ?_, fun i k hi hk => ?_, fun a t c ha ht hp => ?_, fun i k hi hk => ?_⟩
  · have := h2 i i
    have := hd i hi
    have := h.dg i hi
    omega
  · rw [e i k hi hk]
    have b0 := h.bd i k hi hk
    by_cases hlt : g i m < NV ∧ g m k < NV
    · have b1 := h.bd i m hi hmn
      have b2 := h.bd m k hmn hk
      obtain ⟨q1, q2, q3⟩ := hmin i k hi hk hlt
      rcases q1 with q1 | q1 <;> omega
    · unfold nw
      rw [if_neg hlt]
      omega
  · rw [e a t ha ht]
    have key : PI R m a t c ∨ ∃ c1 c2, PI R m a m c1 ∧ PI R m m t c2 ∧ c1 + c2 ≤ c := hp.split fun c hc => by
      have := (h.un m m c hmn hmn hc).1
      omega
    have hle : nw g m a t ≤ g a t := (nw_bd h.rg m a t).2
    rcases key with k1 | ⟨c1, c2, k1, k2, k3⟩
    · have := h.un a t c ha ht k1
      omega
    · have u1 := h.un a m c1 ha hmn k1
      have u2 := h.un m t c2 hmn ht k2
      have b1 := h.bd a m ha hmn
      have b2 := h.bd m t hmn ht
      obtain ⟨_, _, q3⟩ := hmin a t ha ht ⟨u1.2, u2.2⟩
      omega
  · rw [e i k hi hk]
    by_cases hlt : g i m < NV ∧ g m k < NV
    · obtain ⟨q1, _, _⟩ := hmin i k hi hk hlt
      rcases q1 with q1 | q1
      · rw [q1]; exact h.so i k hi hk
      · right
        rw [q1]
        have s1 : PC R i m (g i m) := by
          rcases h.so i m hi hmn with s | s
          · omega
          · exact s
        have s2 : PC R m k (g m k) := by
          rcases h.so m k hmn hk with s | s
          · omega
          · exact s
        exact s1.trans s2
    · unfold nw
      rw [if_neg hlt]
      exact h.so i k hi hk
/-- All phases from m on. -/
theorem Ok.go {R : List RR} {n : Int} {ns : List Int} (hns : ns.Nodup) (hm : ∀ i, i ∈ ns ↔ In n i) (hn : n ≤ 21) : ∀ (hs : List Int) (m : Nat) (g : Mx), hs = (List.range' m hs.length).map (fun j : Nat => (j : Int)) → (m : Int) + hs.length = n → Ok R n m (100000 * 2 ^ m) g →
    (∀ i, In n i → 0 ≤ fwF ns hs g i i) → Ok R n n (100000 * 2 ^ (m + hs.length)) (fwF ns hs g)
  | [], m, g, _, hl, h, _ => by
    have e : (m : Int) = n := by simpa using hl
    have h' : Ok R n n (100000 * 2 ^ m) g := by
      have := h
      rw [e] at this
      exact this
    simpa [fwF] using h'
  | q :: hs, m, g, he, hl, h, hd => by
    simp only [List.length_cons, List.range'_succ, List.map_cons, List.cons.injEq] at he hl
    obtain ⟨rfl, he⟩ := he
    have hpow : (2 : Int) ^ m ≤ 2 ^ 20 := by
      have : m ≤ 20 := by omega
      have h2 := Nat.pow_le_pow_right (show 0 < 2 by decide) this
      have h3 : ((2 ^ m : Nat) : Int) ≤ ((2 ^ 20 : Nat) : Int) := Int.ofNat_le.2 h2
      simpa using h3
    have hpos : (0 : Int) ≤ 2 ^ m := by
      have : ((2 ^ m : Nat) : Int) ≥ 0 := Int.natCast_nonneg _
      simpa using this
    have hle := fwF_le ns hs (phF_le (h := (m : Int)) ns ns h.rg).1
    have h1 := h.ph (m := (m : Int)) hns hm (show In n (m : Int) from ⟨by omega, by omega⟩) (by omega) (by unfold NV; omega) (fun i hi => Int.le_trans (hd i hi) (hle.2 i i))
    have e : (2 : Int) * (100000 * 2 ^ m) = 100000 * 2 ^ (m + 1) := by rw [Int.pow_succ]; omega
    rw [e] at h1
    have h2 := Ok.go hns hm hn hs (m + 1) (phF m ns ns g) he (by omega) h1 hd
    have e2 : m + 1 + hs.length = m + ((m : Int) :: hs).length := by simp only [List.length_cons]; omega
    rw [e2] at h2
    exact h2
/-- Where speeds are true, what stands is what some way costs. -/
def So (x : Int × List RR) (g : Mx) : Prop := ∀ i k, (0 ≤ i ∧ i ≤ x.1) → (0 ≤ k ∧ k ≤ x.1) → g i k = NV ∨ PC (whole x) i k (g i k)
theorem So.up1 {x : Int × List RR} (hx : csheet x = 0) (hP : Pot x) {g : Mx} (h : So x g) {q i k : Int} (hq : 0 ≤ q ∧ q ≤ x.1) (hi : 0 ≤ i ∧ i ≤ x.1) (hk : 0 ≤ k ∧ k ≤ x.1) : So x (up1 q i k g) := by
  intro a b ha hb
  unfold FW.up1
  split
  · rename_i e
    rw [e.1, e.2]
    unfold nw
    split
    · rename_i hlt
      have s1 : PC (whole x) i q (g i q) := by
        rcases h i q hi hq with s | s
        · omega
        · exact s
      have s2 : PC (whole x) q k (g q k) := by
        rcases h q k hq hk with s | s
        · omega
        · exact s
      have s3 := s1.trans s2
      have l3 := s3.low hx hP hi.1 hi.2
      unfold mm
      by_cases hc : g i q + g q k < g i k
      · rw [if_pos hc, if_pos (by unfold NV; omega)]
        exact .inr s3
      · rw [if_neg hc]
        rcases h i k hi hk with s | s
        · rw [s, if_pos (by unfold NV; omega)]
          exact .inl rfl
        · have := s.low hx hP hi.1 hi.2
          rw [if_pos (by unfold NV; omega)]
          exact .inr s
    · exact h i k hi hk
  · exact h a b ha hb
theorem So.all {x : Int × List RR} (hx : csheet x = 0) (hP : Pot x) {ns : List Int} (hm : ∀ i ∈ ns, 0 ≤ i ∧ i ≤ x.1) {g : Mx} (h : So x g) : So x (fwF ns ns g) := by
  have key : ∀ {β : Type} {step : Mx → β → Mx} (l : List β), (∀ g, ∀ b ∈ l, So x g → So x (step g b)) → ∀ g, So x g → So x (l.foldl step g) := by
    intro β step l
    induction l with
    | nil => intro _ g hg; exact hg
    | cons b l ih =>
      intro hs g hg
      exact ih (fun g c hc => hs g c (by simp [hc])) _ (hs g b (by simp) hg)
  refine key ns (fun g q hq hg => ?_) g h
  refine key ns (fun g i hi hg => ?_) g hg
  exact key ns (fun g k hk hg => hg.up1 hx hP (hm q hq) (hm i hi) (hm k hk)) g hg
end FW
end Go.Proofs.Ythppacohnciinaa

/-! What the definitions' cheapest costs are, in plain words. Condition: there are enough rounds. -/
namespace Go.Proofs.Ythppacohnciinaa
open Go Go.Md Go.RowKit
open FW (Mx up1 rowF phF fwF nw Rg In Ok So)

/-- The numbers from k to n - 1. -/
def nums (k n : Nat) : List Int := (List.range' k (n - k)).map fun j : Nat => (j : Int)
theorem nums_cons {k n : Nat} (h : k < n) : nums k n = (k : Int) :: nums (k + 1) n := by
  unfold nums
  have e : n - k = (n - (k + 1)) + 1 := by omega
  rw [e, List.range'_succ]
  rfl
theorem nums_nil {n : Nat} : nums n n = [] := by simp [nums]
theorem nums_mem {n : Nat} {i : Int} : i ∈ nums 0 n ↔ In n i := by
  unfold nums In
  simp only [List.mem_map, Nat.sub_zero]
  constructor
  · rintro ⟨j, hj, rfl⟩
    have := List.mem_range'_1.1 hj
    omega
  · rintro ⟨h1, h2⟩
    exact ⟨i.toNat, List.mem_range'_1.2 ⟨by omega, by omega⟩, by omega⟩
theorem nums_nodup {n : Nat} : (nums 0 n).Nodup := by
  unfold nums
  exact (List.nodup_range').map _ (fun a b h e => h (by omega))

structure RepM (n : Nat) (M : List (List Int)) (g : Mx) : Prop where
  len : M.length = n
  row : ∀ i : Nat, i < n → ∃ r, M[i]? = some r ∧ r.length = n ∧ ∀ k : Nat, k < n → r[k]? = some (g i k)
theorem RepM.ext {n : Nat} {M : List (List Int)} {g g' : Mx} (h : RepM n M g) (e : ∀ i k : Nat, i < n → k < n → g i k = g' i k) : RepM n M g' :=
  ⟨h.len, fun i hi => by
    obtain ⟨r, h1, h2, h3⟩ := h.row i hi
    exact ⟨r, h1, h2, fun k hk => by rw [h3 k hk, e i k hi hk]⟩⟩
theorem RepM.at {n : Nat} {M : List (List Int)} {g : Mx} (h : RepM n M g) {i : Int} (i0 : 0 ≤ i) (i1 : i < n) : ∃ r, ix M i = some r ∧ r.length = n ∧ ∀ k : Int, 0 ≤ k → k < n → ix r k = some (g i k) := by
  obtain ⟨r, h1, h2, h3⟩ := h.row i.toNat (by omega)
  refine ⟨r, by unfold ix; rw [if_pos i0]; exact h1, h2, fun k k0 k1 => ?_⟩
  unfold ix
  rw [if_pos k0, h3 k.toNat (by omega)]
  have e1 : ((i.toNat : Nat) : Int) = i := by omega
  have e2 : ((k.toNat : Nat) : Int) = k := by omega
  rw [e1, e2]
theorem RepM.set {n : Nat} {M : List (List Int)} {g : Mx} (h : RepM n M g) {i k v : Int} (i0 : 0 ≤ i) (i1 : i < n) (k0 : 0 ≤ k) (k1 : k < n) {r : List Int} (hr : ix M i = some r) : RepM n (rset M i (rset r k v)) (fun a b => if a = i ∧ b = k then v else g a b) := by
  have e1 : ((i.toNat : Nat) : Int) = i := by omega
  have e2 : ((k.toNat : Nat) : Int) = k := by omega
  obtain ⟨r', h1, h2, h3⟩ := h.row i.toNat (by omega)
  have er : r' = r := by
    unfold ix at hr
    rw [if_pos i0, h1] at hr
    exact Option.some.inj hr
  subst er
  refine ⟨by unfold rset; rw [List.length_set]; exact h.len, fun a ha => ?_⟩
  have hl := h.len
  by_cases hai : i.toNat = a
  · subst hai
    refine ⟨rset r' k v, by unfold rset; rw [List.getElem?_set, if_pos rfl, if_pos (by omega)], by unfold rset; rw [List.length_set]; exact h2, fun b hb => ?_⟩
    unfold rset
    rw [List.getElem?_set]
    by_cases hbk : k.toNat = b
    · subst hbk
      rw [if_pos rfl, if_pos (by omega), if_pos ⟨e1, e2⟩]
    · rw [if_neg hbk, h3 b hb, if_neg (by omega)]
  · obtain ⟨q, q1, q2, q3⟩ := h.row a ha
    refine ⟨q, by unfold rset; rw [List.getElem?_set, if_neg hai]; exact q1, q2, fun b hb => ?_⟩
    rw [q3 b hb, if_neg (by omega)]

section
variable {n : Nat} {F : Nat}
theorem far_l2 (hn : n ≤ 21) : ∀ (m k : Nat), k ≤ n → n - k < m → ref01_Far_l2 n m (List.replicate k FW.NV) (k : Int) = some (List.replicate n FW.NV)
  | 0, k, _, h => by omega
  | m + 1, k, hk, h => by
    unfold ref01_Far_l2
    by_cases hlt : k < n
    · rw [if_pos (by simpa using hlt), app_some (by simp only [List.length_replicate, List.length_cons, List.length_nil]; omega)]
      simp only [Option.bind_eq_bind, Option.bind_some]
      have e : List.replicate k FW.NV ++ [1099511627776] = List.replicate (k + 1) FW.NV := by rw [List.replicate_succ']; rfl
      rw [e, w64_succ (by omega)]
      exact far_l2 hn m (k + 1) (by omega) (by omega)
    · have : k = n := by omega
      subst this
      rw [if_neg (by simp)]
def g0 : Mx := fun i k => if i = k then 0 else FW.NV
def row0 (n : Nat) (j : Nat) : List Int := rset (List.replicate n FW.NV) (j : Int) 0
theorem far_l1 (hn : n ≤ 21) (hF : 100 ≤ F) : ∀ (m k : Nat), k ≤ n → n - k < m → ref01_Far_l1 F n m ((List.range k).map (row0 n)) (k : Int) = some ((List.range n).map (row0 n))
  | 0, k, _, h => by omega
  | m + 1, k, hk, h => by
    unfold ref01_Far_l1
    by_cases hlt : k < n
    · have e2 := far_l2 hn F 0 (Nat.zero_le _) (by omega)
      simp only [List.replicate_zero, Int.natCast_zero] at e2
      rw [if_pos (by simpa using hlt), e2]
      simp only [Option.bind_eq_bind, Option.bind_some]
      rw [ix_nat (by simpa using hlt)]
      simp only [Option.bind_some]
      rw [app_some (by simp only [List.length_map, List.length_range, List.length_cons, List.length_nil]; omega)]
      simp only [Option.bind_some]
      have e : (List.range k).map (row0 n) ++ [rset (List.replicate n FW.NV) (k : Int) 0] = (List.range (k + 1)).map (row0 n) := by simp [List.range_succ, row0]
      rw [e, w64_succ (by omega)]
      exact far_l1 hn hF m (k + 1) (by omega) (by omega)
    · have : k = n := by omega
      subst this
      rw [if_neg (by simp)]
theorem rep0 : RepM n ((List.range n).map (row0 n)) g0 := by
  refine ⟨by simp, fun i hi => ⟨row0 n i, by simp [List.getElem?_range, hi], by simp [row0, rset], fun k hk => ?_⟩⟩
  unfold row0 rset g0
  rw [List.getElem?_set, Int.toNat_natCast]
  by_cases e : i = k
  · subst e
    rw [if_pos rfl, if_pos (by simpa using hi), if_pos rfl]
  · rw [if_neg e, if_neg (by omega), List.getElem?_replicate, if_pos hk]

/-- The rules are laid in. -/
def setR (g : Mx) (r : RR) : Mx := fun a b => if a = r.1 ∧ b = r.2.1 then (if r.2.2 < g r.1 r.2.1 then r.2.2 else g r.1 r.2.1) else g a b
theorem far_l3 {all : List RR} {T : Int} (hT : T + 1 = n) (hall : ∀ r ∈ all, OKr T r) (hlen : all.length ≤ 100) : ∀ (m k : Nat) (M : List (List Int)) (g : Mx), k ≤ all.length → all.length - k < m → RepM n M g →
    ∃ M', ref01_Far_l3 all m M (k : Int) = some M' ∧ RepM n M' ((all.drop k).foldl setR g)
  | 0, k, _, _, _, h, _ => by omega
  | m + 1, k, M, g, hk, h, hr => by
    unfold ref01_Far_l3
    by_cases hlt : k < all.length
    · have hd : all.drop k = all[k] :: all.drop (k + 1) := List.drop_eq_getElem_cons hlt
      obtain ⟨o1, o2, o3, o4, _⟩ := hall _ (List.getElem_mem hlt)
      obtain ⟨row, r1, r2, r3⟩ := hr.at o1 (show all[k].1 < (n : Int) by omega)
      rw [if_pos (by simpa using hlt), ix_nat hlt]
      simp only [Option.bind_eq_bind, Option.bind_some]
      rw [r1]
      simp only [Option.bind_some]
      rw [r3 all[k].2.1 o3 (by omega)]
      simp only [Option.bind_some]
      rw [w64_succ (by omega), hd, List.foldl_cons]
      exact far_l3 hT hall hlen m (k + 1) _ _ (by omega) (by omega) (hr.set o1 (by omega) o3 (by omega) r1)
    · rw [if_neg (by simpa using hlt), List.drop_of_length_le (by omega)]
      exact ⟨M, rfl, hr⟩

/-! ### The phases -/
theorem far_l6 {h i : Int} (h0 : 0 ≤ h) (h1 : h < n) (i0 : 0 ≤ i) (i1 : i < n) (hn : n ≤ 21) : ∀ (m k : Nat) (M : List (List Int)) (g : Mx), k ≤ n → n - k < m → RepM n M g → Rg g →
    ∃ M', ref01_Far_l6 n h i m M (k : Int) = some M' ∧ RepM n M' (rowF h i (nums k n) g)
  | 0, k, _, _, _, hm, _, _ => by omega
  | m + 1, k, M, g, hk, hm, hr, hg => by
    unfold ref01_Far_l6
    by_cases hlt : k < n
    · obtain ⟨ri, a1, _, a3⟩ := hr.at i0 i1
      obtain ⟨rh, b1, _, b3⟩ := hr.at h0 h1
      have hg' := (FW.up1_le hg h i (k : Int)).1
      have nx := fun (M' : List (List Int)) (hr' : RepM n M' (up1 h i (k : Int) g)) => far_l6 h0 h1 i0 i1 hn m (k + 1) M' _ (by omega) (by omega) hr' hg'
      have same : ∀ (e : nw g h i (k : Int) = g i (k : Int)), RepM n M (up1 h i (k : Int) g) := fun e => hr.ext fun a b ha hb => by
        unfold up1
        split
        · rename_i hab; rw [e, hab.1, hab.2]
        · rfl
      rw [if_pos (by simpa using hlt), a1]
      simp only [Option.bind_eq_bind, Option.bind_some]
      rw [a3 h h0 h1, nums_cons hlt]
      simp only [Option.bind_some]
      show ∃ M', _ ∧ RepM n M' (rowF h i (nums (k + 1) n) (up1 h i (k : Int) g))
      by_cases c1 : g i h < FW.NV
      · rw [if_pos (by simpa [FW.NV] using c1), b1]
        simp only [Option.bind_some]
        rw [b3 (k : Int) (by omega) (by omega)]
        simp only [Option.bind_some]
        by_cases c2 : g h (k : Int) < FW.NV
        · rw [if_pos (by simpa [FW.NV] using c2), a3 (k : Int) (by omega) (by omega)]
          simp only [Option.bind_some]
          have e1 := hg i h
          have e2 := hg h (k : Int)
          rw [w64_succ (by omega), w64_in (by unfold FW.NV at e1 e2; omega)]
          refine nx _ ?_
          have hs := hr.set (v := ref01_Far_mm (g i (k : Int)) (g i h + g h (k : Int))) i0 i1 (show (0 : Int) ≤ (k : Int) by omega) (by omega) a1
          refine hs.ext fun a b ha hb => ?_
          unfold up1 nw
          split
          · rw [if_pos ⟨c1, c2⟩]; rfl
          · rfl
        · rw [if_neg (by simpa [FW.NV] using c2), w64_succ (by omega)]
          exact nx _ (same (by unfold nw; rw [if_neg (fun hc => c2 hc.2)]))
      · rw [if_neg (by simpa [FW.NV] using c1), w64_succ (by omega)]
        exact nx _ (same (by unfold nw; rw [if_neg (fun hc => c1 hc.1)]))
    · have : k = n := by omega
      subst this
      rw [if_neg (by simp), nums_nil]
      exact ⟨M, rfl, hr⟩
theorem far_l5 {h : Int} (h0 : 0 ≤ h) (h1 : h < n) (hn : n ≤ 21) (hF : 100 ≤ F) : ∀ (m k : Nat) (M : List (List Int)) (g : Mx), k ≤ n → n - k < m → RepM n M g → Rg g →
    ∃ M', ref01_Far_l5 F n h m M (k : Int) = some M' ∧ RepM n M' (phF h (nums 0 n) (nums k n) g)
  | 0, k, _, _, _, hm, _, _ => by omega
  | m + 1, k, M, g, hk, hm, hr, hg => by
    unfold ref01_Far_l5
    by_cases hlt : k < n
    · obtain ⟨M1, e1, r1⟩ := far_l6 h0 h1 (i := (k : Int)) (by omega) (by omega) hn F 0 M g (Nat.zero_le _) (by omega) hr hg
      rw [if_pos (by simpa using hlt), show (0 : Int) = ((0 : Nat) : Int) from rfl, e1]
      simp only [Option.bind_eq_bind, Option.bind_some]
      rw [w64_succ (by omega), nums_cons hlt]
      exact far_l5 h0 h1 hn hF m (k + 1) M1 _ (by omega) (by omega) r1 (FW.rowF_le _ hg).1
    · have : k = n := by omega
      subst this
      rw [if_neg (by simp), nums_nil]
      exact ⟨M, rfl, hr⟩
theorem far_l4 (hn : n ≤ 21) (hF : 100 ≤ F) : ∀ (m k : Nat) (M : List (List Int)) (g : Mx), k ≤ n → n - k < m → RepM n M g → Rg g →
    ∃ M', ref01_Far_l4 F n m M (k : Int) = some M' ∧ RepM n M' (fwF (nums 0 n) (nums k n) g)
  | 0, k, _, _, _, hm, _, _ => by omega
  | m + 1, k, M, g, hk, hm, hr, hg => by
    unfold ref01_Far_l4
    by_cases hlt : k < n
    · obtain ⟨M1, e1, r1⟩ := far_l5 (h := (k : Int)) (by omega) (by omega) hn hF F 0 M g (Nat.zero_le _) (by omega) hr hg
      rw [if_pos (by simpa using hlt), show (0 : Int) = ((0 : Nat) : Int) from rfl, e1]
      simp only [Option.bind_eq_bind, Option.bind_some]
      rw [w64_succ (by omega), nums_cons hlt]
      exact far_l4 hn hF m (k + 1) M1 _ (by omega) (by omega) r1 (FW.phF_le _ _ hg).1
    · have : k = n := by omega
      subst this
      rw [if_neg (by simp), nums_nil]
      exact ⟨M, rfl, hr⟩
end

/-! ### What stands at the end -/
section
variable {x : Int × List RR} {F : Nat}
theorem setR_all {T : Int} {all : List RR} (hall : ∀ r ∈ all, OKr T r) : ∀ (l : List RR) (g : Mx), (∀ r ∈ l, r ∈ all) → (Rg g ∧ (∀ i, g i i = 0) ∧ (∀ i k, g i k = FW.NV ∨ (-100000 ≤ g i k ∧ g i k ≤ 100000)) ∧ ∀ i k, g i k = FW.NV ∨ PC all i k (g i k)) →
    (Rg (l.foldl setR g) ∧ (∀ i, l.foldl setR g i i = 0) ∧ (∀ i k, l.foldl setR g i k = FW.NV ∨ (-100000 ≤ l.foldl setR g i k ∧ l.foldl setR g i k ≤ 100000)) ∧ ∀ i k, l.foldl setR g i k = FW.NV ∨ PC all i k (l.foldl setR g i k)) ∧
      (∀ i k, l.foldl setR g i k ≤ g i k) ∧ ∀ r ∈ l, l.foldl setR g r.1 r.2.1 ≤ r.2.2
  | [], g, _, h => ⟨h, fun _ _ => Int.le_refl _, by simp⟩
  | r :: l, g, hl, ⟨h1, h2, h3, h4⟩ => by
    obtain ⟨o1, o2, o3, o4, o5, o6, o7⟩ := hall r (hl r (by simp))
    have hb := h3 r.1 r.2.1
    have hle : ∀ i k, setR g r i k ≤ g i k := fun i k => by
      unfold setR
      split
      · rename_i e
        rw [e.1, e.2]
        split <;> omega
      · exact Int.le_refl _
    have hn : Rg (setR g r) ∧ (∀ i, setR g r i i = 0) ∧ (∀ i k, setR g r i k = FW.NV ∨ (-100000 ≤ setR g r i k ∧ setR g r i k ≤ 100000)) ∧ ∀ i k, setR g r i k = FW.NV ∨ PC all i k (setR g r i k) := by
      refine ⟨fun i k => ?_, fun i => ?_, fun i k => ?_, fun i k => ?_⟩
      · have := h1 r.1 r.2.1
        have := h1 i k
        unfold setR
        split
        · split
          · unfold FW.NV; omega
          · assumption
        · assumption
      · unfold setR
        rw [if_neg (by omega)]
        exact h2 i
      · unfold setR
        split
        · split
          · exact .inr ⟨o6, o7⟩
          · exact hb
        · exact h3 i k
      · unfold setR
        split
        · rename_i e
          rw [e.1, e.2]
          split
          · exact .inr (PC.one (hl r (by simp)))
          · exact h4 r.1 r.2.1
        · exact h4 i k
    obtain ⟨q1, q2, q3⟩ := setR_all hall l (setR g r) (fun q hq => hl q (by simp [hq])) hn
    refine ⟨q1, fun i k => Int.le_trans (q2 i k) (hle i k), fun q hq => ?_⟩
    rcases List.mem_cons.1 hq with rfl | hq
    · refine Int.le_trans (q2 _ _) ?_
      unfold setR
      rw [if_pos ⟨rfl, rfl⟩]
      split <;> omega
    · exact q3 q hq

/-- The definitions' matrix. -/
theorem far_eq (hx : csheet x = 0) (hF : 1000 ≤ F) : ∃ M g, ref01_Far F x = some M ∧ RepM (nn x) M g ∧ ((Pot x ∧ ∀ i k, 0 ≤ i → i ≤ x.1 → 0 ≤ k → k ≤ x.1 → g i k = D x i k) ∨ (¬ Pot x ∧ ∃ i, 0 ≤ i ∧ i ≤ x.1 ∧ g i i < 0)) := by
  obtain ⟨h1, h2, h3, _⟩ := csheet_ok hx
  have hn : ((nn x : Nat) : Int) = x.1 + 1 := by unfold nn; omega
  have hn21 : nn x ≤ 21 := by omega
  have e1 := far_l1 (n := nn x) (F := F) hn21 (by omega) F 0 (Nat.zero_le _) (by omega)
  simp only [List.range_zero, List.map_nil, Int.natCast_zero] at e1
  have hlen := whole_len hx
  obtain ⟨M2, e2, r2⟩ := far_l3 (n := nn x) (all := whole x) (T := x.1) (by omega) (whole_ok hx) hlen F 0 _ _ (Nat.zero_le _) (by omega) (rep0 (n := nn x))
  rw [List.drop_zero] at r2
  generalize hg1 : (whole x).foldl setR g0 = g1 at r2
  have hinit : Rg g0 ∧ (∀ i, g0 i i = 0) ∧ (∀ i k, g0 i k = FW.NV ∨ (-100000 ≤ g0 i k ∧ g0 i k ≤ 100000)) ∧ ∀ i k, g0 i k = FW.NV ∨ PC (whole x) i k (g0 i k) := by
    refine ⟨fun i k => ?_, fun i => by simp [g0], fun i k => ?_, fun i k => ?_⟩
    · unfold g0
      split <;> unfold FW.NV <;> omega
    · unfold g0
      split
      · exact .inr ⟨by omega, by omega⟩
      · exact .inl rfl
    · unfold g0
      split
      · rename_i e; subst e; exact .inr .nil
      · exact .inl rfl
  obtain ⟨⟨a1, a2, a3, a4⟩, _, a5⟩ := setR_all (whole_ok hx) (whole x) g0 (fun r hr => hr) hinit
  rw [hg1] at a1 a2 a3 a4 a5
  obtain ⟨M3, e3, r3⟩ := far_l4 (n := nn x) (F := F) hn21 (by omega) F 0 M2 g1 (Nat.zero_le _) (by omega) r2 a1
  refine ⟨M3, _, ?_, r3, ?_⟩
  · unfold ref01_Far
    rw [w64_in (by omega), ← hn, e1]
    simp only [Option.bind_eq_bind, Option.bind_some]
    rw [all_eq (x := (x.1, x.2)) (by omega) (by simp; omega) h3 h1]
    simp only [Option.bind_some]
    have ew : whole (x.1, x.2) = whole x := rfl
    rw [ew, show (0 : Int) = ((0 : Nat) : Int) from rfl, e2]
    simp only [Option.bind_some]
    exact e3
  · generalize hG : fwF (nums 0 (nn x)) (nums 0 (nn x)) g1 = G
    have hIn : ∀ i, In (nn x) i ↔ (0 ≤ i ∧ i ≤ x.1) := fun i => by unfold In; omega
    have sound : Pot x → So x G := fun hP => by
      rw [← hG]
      exact So.all hx hP (fun i hi => (hIn i).1 (nums_mem.1 hi)) fun i k _ _ => a4 i k
    by_cases hd : ∀ i, 0 ≤ i → i ≤ x.1 → 0 ≤ G i i
    · left
      have hok : Ok (whole x) (nn x) 0 (100000 * 2 ^ 0) g1 := by
        refine ⟨a1, fun i _ => a2 i, fun i k _ _ => by simpa using a3 i k, fun a t c ha ht hp => ?_, fun i k _ _ => a4 i k⟩
        have key : ∀ {t c}, FW.PI (whole x) 0 a t c → ∃ r ∈ whole x, r.1 = a ∧ r.2.1 = t ∧ r.2.2 = c := by
          intro t c hp
          cases hp with
          | one hr ha => exact ⟨_, hr, ha, rfl, rfl⟩
          | snoc h hu hr he =>
            exfalso
            rename_i u c' r'
            have : 0 ≤ u := by rw [← he]; exact (whole_ok hx _ hr).1
            omega
        obtain ⟨r, hr, rfl, rfl, rfl⟩ := key hp
        have := a5 r hr
        have := (whole_ok hx r hr).2.2.2.2.2.2
        unfold FW.NV
        omega
      have hl : (nums 0 (nn x)).length = nn x := by simp [nums]
      have hfin := Ok.go (R := whole x) (n := (nn x : Int)) (ns := nums 0 (nn x)) nums_nodup (fun i => nums_mem) (by omega) (nums 0 (nn x)) 0 g1 (by rw [hl]; rfl) (by rw [hl]; simp) hok (fun i hi => by
        rw [hG]
        have := (hIn i).1 hi
        exact hd i this.1 this.2)
      rw [hG] at hfin
      have least : ∀ i k c, 0 ≤ i → i ≤ x.1 → 0 ≤ k → k ≤ x.1 → PC (whole x) i k c → G i k ≤ c ∧ G i k < FW.NV := fun i k c i0 i1 k0 k1 hp => by
        rcases FW.PI.of_pc (n := (nn x : Int)) (fun r hr => by have := (whole_ok hx r hr).2.2.2.1; omega) hp with ⟨rfl, rfl⟩ | hp
        · have := hfin.dg k ((hIn k).2 ⟨k0, k1⟩)
          rw [this]
          unfold FW.NV
          omega
        · exact hfin.un i k c ((hIn i).2 ⟨i0, i1⟩) ((hIn k).2 ⟨k0, k1⟩) hp
      have some_ : ∀ i k, 0 ≤ i → i ≤ x.1 → 0 ≤ k → k ≤ x.1 → PC (whole x) i k (G i k) := fun i k i0 i1 k0 k1 => by
        obtain ⟨c, hc, _⟩ := PC.any (x := x) i0 i1 k0 k1
        have := (least i k c i0 i1 k0 k1 hc).2
        rcases hfin.so i k ((hIn i).2 ⟨i0, i1⟩) ((hIn k).2 ⟨k0, k1⟩) with s | s
        · omega
        · exact s
      refine ⟨⟨fun t => G 0 t, fun r hr => ?_⟩, fun i k i0 i1 k0 k1 => ?_⟩
      · have hokr := whole_ok hx r hr
        exact (least 0 r.2.1 _ (by omega) (by omega) hokr.2.2.1 hokr.2.2.2.1 (.snoc (some_ 0 r.1 (by omega) (by omega) hokr.1 hokr.2.1) hr rfl)).1
      · exact (D_of ⟨some_ i k i0 i1 k0 k1, fun c hc => (least i k c i0 i1 k0 k1 hc).1⟩).symm
    · right
      have hex : ∃ i, 0 ≤ i ∧ i ≤ x.1 ∧ G i i < 0 := by
        apply Classical.byContradiction
        intro hno
        exact hd fun i i0 i1 => by
          apply Classical.byContradiction
          intro hlt
          exact hno ⟨i, i0, i1, by omega⟩
      refine ⟨fun hP => ?_, hex⟩
      obtain ⟨i, i0, i1, hlt⟩ := hex
      rcases sound hP i i ⟨i0, i1⟩ ⟨i0, i1⟩ with s | s
      · rw [s] at hlt; unfold FW.NV at hlt; omega
      · have := s.loop hP
        omega
end
end Go.Proofs.Ythppacohnciinaa

/-! Spans, ends, costs and what was sung, as the definitions and the program say, in plain words. Condition: there are enough rounds. -/
namespace Go.Proofs.Ythppacohnciinaa
open Go Go.Md Go.RowKit
open BF (Rl St Back rel pass NEV)

section
variable {x : Int × List RR} {F : Nat} {a b t : Int}
theorem far_pot (hx : csheet x = 0) (hF : 1000 ≤ F) (hP : Pot x) : ∃ M, ref01_Far F x = some M ∧ M.length = nn x ∧ ∀ i, 0 ≤ i → i ≤ x.1 → ∃ row, ix M i = some row ∧ row.length = nn x ∧ ∀ k, 0 ≤ k → k ≤ x.1 → ix row k = some (D x i k) := by
  obtain ⟨M, g, e, hr, h | ⟨h, _⟩⟩ := far_eq hx hF
  · have hn : ((nn x : Nat) : Int) = x.1 + 1 := by have := (csheet_ok hx).2.1; unfold nn; omega
    refine ⟨M, e, hr.len, fun i i0 i1 => ?_⟩
    obtain ⟨row, h1, h2, h3⟩ := hr.at i0 (show i < (nn x : Int) by omega)
    exact ⟨row, h1, h2, fun k k0 k1 => by rw [h3 k k0 (by omega), h.2 i k i0 i1 k0 k1]⟩
  · exact (h hP).elim
theorem clash_l1 {n : Nat} {M : List (List Int)} {g : FW.Mx} (hr : RepM n M g) (hn : n ≤ 21) : ∀ (m k : Nat), k ≤ n → n - k < m →
    ((∀ i : Int, (k : Int) ≤ i → i < n → 0 ≤ g i i) → ref01_Clashes_l1 F M m (k : Int) = some (.inr ())) ∧ ((∃ i : Int, (k : Int) ≤ i ∧ i < n ∧ g i i < 0) → ref01_Clashes_l1 F M m (k : Int) = some (.inl true))
  | 0, k, _, h => by omega
  | m + 1, k, hk, hm => by
    unfold ref01_Clashes_l1
    rw [hr.len]
    by_cases hlt : k < n
    · obtain ⟨row, h1, h2, h3⟩ := hr.at (i := (k : Int)) (by omega) (by omega)
      have ih := clash_l1 hr hn m (k + 1) (by omega) (by omega)
      rw [if_pos (by simpa using hlt), h1]
      simp only [Option.bind_eq_bind, Option.bind_some]
      rw [h3 (k : Int) (by omega) (by omega)]
      simp only [Option.bind_some]
      by_cases hc : g (k : Int) (k : Int) < 0
      · rw [if_pos (by simpa using hc)]
        refine ⟨fun h => ?_, fun _ => rfl⟩
        have := h (k : Int) (by omega) (by omega)
        omega
      · rw [if_neg (by simpa using hc), w64_succ (by omega)]
        refine ⟨fun h => ih.1 fun i i0 i1 => h i (by omega) i1, fun ⟨i, i0, i1, hi⟩ => ih.2 ⟨i, ?_, i1, hi⟩⟩
        have : i ≠ k := fun e => hc (by rw [← e]; exact hi)
        omega
    · have : k = n := by omega
      subst this
      rw [if_neg (by simp)]
      exact ⟨fun _ => rfl, fun ⟨i, i0, i1, _⟩ => by omega⟩
theorem clashes_eq (hx : csheet x = 0) (hF : 1000 ≤ F) : (Pot x → ref01_Clashes F x = some false) ∧ (¬ Pot x → ref01_Clashes F x = some true) := by
  obtain ⟨M, g, e, hr, h⟩ := far_eq hx hF
  have hn : ((nn x : Nat) : Int) = x.1 + 1 := by have := (csheet_ok hx).2.1; unfold nn; omega
  have h3 := (csheet_ok hx).2.2.1
  have hc := clash_l1 (F := F) hr (by omega) F 0 (Nat.zero_le _) (by omega)
  simp only [Int.natCast_zero] at hc
  unfold ref01_Clashes
  have ex : (x.1, x.2) = x := rfl
  rw [ex, e]
  simp only [Option.bind_eq_bind, Option.bind_some]
  refine ⟨fun hP => ?_, fun hP => ?_⟩
  · rcases h with ⟨_, h⟩ | ⟨h, _⟩
    · rw [hc.1 fun i i0 i1 => by
        rw [h i i i0 (by omega) i0 (by omega), D_self hx hP i0 (by omega)]
        omega]
      rfl
    · exact (h hP).elim
  · rcases h with ⟨h, _⟩ | ⟨_, i, i0, i1, hi⟩
    · exact (hP h).elim
    · rw [hc.2 ⟨i, i0, by omega, hi⟩]
      rfl

/-! ### Spans -/
open Classical in
noncomputable def spanS (x : Int × List RR) (t : Int) : (Int × Int) × Int :=
  if csheet x ≠ 0 then ((0, 0), csheet x) else if inR 1 x.1 t = true then (if Pot x then ((-D x t 0, D x 0 t), 0) else ((0, 0), 21)) else ((0, 0), 3)
theorem sp1 (h : csheet x ≠ 0) : spanS x t = ((0, 0), csheet x) := by unfold spanS; rw [if_pos h]
theorem sp2 (h : csheet x = 0) (ht : inR 1 x.1 t = false) : spanS x t = ((0, 0), 3) := by unfold spanS; rw [if_neg (fun e => e h), if_neg (by rw [ht]; simp)]
theorem sp3 (h : csheet x = 0) (ht : inR 1 x.1 t = true) (hP : Pot x) : spanS x t = ((-D x t 0, D x 0 t), 0) := by unfold spanS; rw [if_neg (fun e => e h), if_pos ht, if_pos hP]
theorem sp4 (h : csheet x = 0) (ht : inR 1 x.1 t = true) (hP : ¬ Pot x) : spanS x t = ((0, 0), 21) := by unfold spanS; rw [if_neg (fun e => e h), if_pos ht, if_neg hP]
theorem span_eq (hF : 100000000000000000 ≤ F) : speed_Span F x t = some (spanS x t) := by
  unfold speed_Span
  have ex : (x.1, x.2) = x := rfl
  simp only [ex, checkSheet_eq (show 100 < F by omega), Option.bind_eq_bind, Option.bind_some]
  by_cases h : csheet x = 0
  · obtain ⟨h1, h2, h3, _⟩ := csheet_ok h
    rw [if_neg (by simp [h]), turns_eq (by simp; omega) (by simp)]
    simp only [Option.bind_some, List.all_cons, List.all_nil, Bool.and_true]
    cases ht : inR 1 x.1 t with
    | false => rw [sp2 h ht]; rfl
    | true =>
      have ht' := ht
      simp only [inR, Bool.and_eq_true, decide_eq_true_eq] at ht'
      rw [if_neg (by simp)]
      obtain ⟨o1, o2⟩ := open_eq h (F := F) (by omega)
      by_cases hP : Pot x
      · rw [o1 hP, sp3 h ht hP]
        simp only [Option.bind_some]
        obtain ⟨X, l, s, e, _, hD⟩ := find_D h hP (a := 0) (by omega) (by omega) hF
        obtain ⟨Y, l', s', e', _, hD'⟩ := find_D h hP (a := t) (by omega) (by omega) hF
        have hb := D_bd h hP (a := t) (t := 0) (by omega) (by omega) (by omega) (by omega)
        rw [if_neg (by simp)]
        have ex2 : ((x.1, x.2), whole x) = (x, whole x) := rfl
        rw [ex2] at e e'
        rw [e]
        simp only [Option.bind_some]
        rw [e']
        simp only [Option.bind_some]
        rw [(hD' 0 (by omega) (by omega)).2]
        simp only [Option.bind_some]
        rw [(hD t (by omega) (by omega)).2]
        simp only [Option.bind_some]
        rw [w64_in (by omega), Int.zero_sub]
      · rw [o2 hP, sp4 h ht hP]
        simp only [Option.bind_some]
        rw [if_pos (by simp)]
  · rw [if_pos (by simp [h]), sp1 h]
theorem not_inR {lo hi n : Int} : ((decide (n < lo)) || (decide (hi < n))) = !inR lo hi n := by
  unfold inR
  by_cases h1 : n < lo <;> by_cases h2 : hi < n <;> simp [h1, h2] <;> omega
theorem refSpan_eq (hF : 1000 ≤ F) : ref01_Span F x t = some (spanS x t) := by
  unfold ref01_Span
  have ex : (x.1, x.2) = x := rfl
  simp only [ex, refSheet_eq (show 100 < F by omega), Option.bind_eq_bind, Option.bind_some]
  by_cases h : csheet x = 0
  · obtain ⟨h1, h2, h3, _⟩ := csheet_ok h
    rw [if_neg (by simp [h]), not_inR]
    cases ht : inR 1 x.1 t with
    | false => rw [sp2 h ht]; rfl
    | true =>
      have ht' := ht
      simp only [inR, Bool.and_eq_true, decide_eq_true_eq] at ht'
      rw [if_neg (by simp)]
      obtain ⟨c1, c2⟩ := clashes_eq h (F := F) hF
      by_cases hP : Pot x
      · rw [c1 hP, sp3 h ht hP]
        obtain ⟨M, e, _, hM⟩ := far_pot h hF hP
        obtain ⟨r1, f1, _, f2⟩ := hM t (by omega) (by omega)
        obtain ⟨r2, f3, _, f4⟩ := hM 0 (by omega) (by omega)
        have hb := D_bd h hP (a := t) (t := 0) (by omega) (by omega) (by omega) (by omega)
        simp only [Option.bind_some]
        rw [if_neg (by simp), e]
        simp only [Option.bind_some]
        rw [f1]
        simp only [Option.bind_some]
        rw [f2 0 (by omega) (by omega)]
        simp only [Option.bind_some]
        rw [f3]
        simp only [Option.bind_some]
        rw [f4 t (by omega) (by omega)]
        simp only [Option.bind_some]
        rw [w64_in (by omega), Int.zero_sub]
      · rw [c2 hP, sp4 h ht hP]
        rfl
  · rw [if_pos (by simp [h]), sp1 h]

/-! ### Ends -/
open Classical in
noncomputable def endsS (x : Int × List RR) (high : Bool) : List Int × Int := if csheet x ≠ 0 then ([], csheet x) else if Pot x then (endsL x high, 0) else ([], 21)
theorem en1 {high : Bool} (h : csheet x ≠ 0) : endsS x high = ([], csheet x) := by unfold endsS; rw [if_pos h]
theorem en2 {high : Bool} (h : csheet x = 0) (hP : Pot x) : endsS x high = (endsL x high, 0) := by unfold endsS; rw [if_neg (fun e => e h), if_pos hP]
theorem en3 {high : Bool} (h : csheet x = 0) (hP : ¬ Pot x) : endsS x high = ([], 21) := by unfold endsS; rw [if_neg (fun e => e h), if_neg hP]
theorem Ends_eq (hF : 100000000000000000 ≤ F) {high : Bool} : speed_Ends F x high = some (endsS x high) := by
  by_cases h : csheet x = 0
  · obtain ⟨e1, e2⟩ := ends_eq h hF high
    by_cases hP : Pot x
    · rw [e1 hP, en2 h hP]
    · rw [e2 hP, en3 h hP]
  · rw [ends_no h (by omega), en1 h]
theorem refEnds_l1 {M : List (List Int)} {high : Bool} (hx : csheet x = 0) (hP : Pot x) (hM : ∀ i, 0 ≤ i → i ≤ x.1 → ∃ row, ix M i = some row ∧ row.length = nn x ∧ ∀ k, 0 ≤ k → k ≤ x.1 → ix row k = some (D x i k)) : ∀ (m k : Nat), k ≤ x.1.toNat → x.1.toNat - k < m →
    ref01_Ends_l1 F x high M m ((List.range k).map (endS x high)) ((k : Int) + 1) = some (endsL x high)
  | 0, k, _, h => by omega
  | m + 1, k, hk, h => by
    obtain ⟨h1, h2, h3, _⟩ := csheet_ok hx
    unfold ref01_Ends_l1
    by_cases hlt : k < x.1.toNat
    · rw [if_pos (by simp; omega)]
      have happ : ∀ v, app 8 ((List.range k).map (endS x high)) [v] = some ((List.range k).map (endS x high) ++ [v]) := fun v => app_some (by simp only [List.length_map, List.length_range, List.length_cons, List.length_nil]; omega)
      have e : (List.range k).map (endS x high) ++ [endS x high k] = (List.range (k + 1)).map (endS x high) := by simp [List.range_succ]
      have ih := refEnds_l1 (high := high) hx hP hM m (k + 1) (by omega) (by omega)
      have ew : w64 ((k : Int) + 1 + 1) = ((k + 1 : Nat) : Int) + 1 := by rw [w64_in (by omega)]; rfl
      rw [ew]
      obtain ⟨r1, f1, _, f2⟩ := hM 0 (by omega) (by omega)
      obtain ⟨r2, f3, _, f4⟩ := hM ((k : Int) + 1) (by omega) (by omega)
      cases hh : high with
      | true =>
        rw [if_pos rfl, f1]
        simp only [Option.bind_eq_bind, Option.bind_some]
        rw [f2 ((k : Int) + 1) (by omega) (by omega)]
        simp only [Option.bind_some]
        rw [← hh, happ]
        simp only [Option.bind_some]
        have : D x 0 ((k : Int) + 1) = endS x high k := by unfold endS; rw [if_pos hh]
        rw [this, e]
        exact ih
      | false =>
        have hb := D_bd hx hP (a := (k : Int) + 1) (t := 0) (by omega) (by omega) (by omega) (by omega)
        rw [if_neg (by simp), f3]
        simp only [Option.bind_eq_bind, Option.bind_some]
        rw [f4 0 (by omega) (by omega)]
        simp only [Option.bind_some]
        rw [w64_in (by omega), Int.zero_sub, ← hh, happ]
        simp only [Option.bind_some]
        have : -D x ((k : Int) + 1) 0 = endS x high k := by unfold endS; rw [if_neg (by simp [hh])]
        rw [this, e]
        exact ih
    · have : k = x.1.toNat := by omega
      subst this
      rw [if_neg (by simp; omega)]
      rfl
theorem refEnds_eq (hF : 1000 ≤ F) {high : Bool} : ref01_Ends F x high = some (endsS x high) := by
  unfold ref01_Ends
  have ex : (x.1, x.2) = x := rfl
  simp only [ex, refSheet_eq (show 100 < F by omega), Option.bind_eq_bind, Option.bind_some]
  by_cases h : csheet x = 0
  · obtain ⟨h1, h2, h3, _⟩ := csheet_ok h
    rw [if_neg (by simp [h])]
    obtain ⟨c1, c2⟩ := clashes_eq h (F := F) hF
    by_cases hP : Pot x
    · rw [c1 hP, en2 h hP]
      obtain ⟨M, e, _, hM⟩ := far_pot h hF hP
      simp only [Option.bind_some]
      rw [if_neg (by simp), e]
      simp only [Option.bind_some]
      have := refEnds_l1 (F := F) (high := high) h hP hM F 0 (Nat.zero_le _) (by omega)
      simp only [List.range_zero, List.map_nil, Int.natCast_zero, Int.zero_add] at this
      rw [this]
      rfl
    · rw [c2 hP, en3 h hP]
      rfl
  · rw [if_pos (by simp [h]), en1 h]

/-! ### What was sung -/
noncomputable def sungS (x : Int × List RR) (t v : Int) : (Int × Int) × Int :=
  if csheet x ≠ 0 then ((0, 0), csheet x) else if (inR 1 x.1 t && inR 1 1000000 v) = true then
    (if (spanS x t).2 ≠ 0 then ((0, 0), (spanS x t).2) else ((w64 (Int.tdiv (w64 (v * (spanS x t).1.1)) 16000), w64 (Int.tdiv (w64 (v * (spanS x t).1.2)) 16000)), 0))
  else ((0, 0), 3)
theorem sung_eq (hF : 100000000000000000 ≤ F) {v : Int} : speed_Sung F x t v = some (sungS x t v) := by
  unfold speed_Sung sungS
  have ex : (x.1, x.2) = x := rfl
  simp only [ex, checkSheet_eq (show 100 < F by omega), Option.bind_eq_bind, Option.bind_some]
  by_cases h : csheet x = 0
  · have e0 : ¬ (csheet x ≠ 0) := fun e => e h
    rw [if_neg (by simp [h]), if_neg e0, turns_eq (by simp; omega) (by simp)]
    simp only [Option.bind_some, List.all_cons, List.all_nil, Bool.and_true, Bool.not_not]
    cases ht : inR 1 x.1 t with
    | false => simp [gd]
    | true =>
      simp only [gd, cond_true, Bool.true_and, Bool.not_true, Bool.false_or]
      rw [tone_eq (by simp; omega) (by simp)]
      simp only [Option.bind_some, List.all_cons, List.all_nil, Bool.and_true]
      cases hv : inR 1 1000000 v with
      | false => rfl
      | true =>
        rw [if_neg (by simp), if_pos rfl, span_eq hF]
        simp only [Option.bind_some]
        by_cases h2 : (spanS x t).2 = 0
        · rw [if_neg (by simp [h2]), if_neg (fun e => e h2)]
        · rw [if_pos (by simp [h2]), if_pos h2]
  · rw [if_pos (by simp [h]), if_pos h]
theorem refSung_eq (hF : 1000 ≤ F) {v : Int} : ref01_Sung F x t v = some (sungS x t v) := by
  unfold ref01_Sung sungS ref01_tone
  have ex : (x.1, x.2) = x := rfl
  simp only [ex, refSheet_eq (show 100 < F by omega), Option.bind_eq_bind, Option.bind_some]
  by_cases h : csheet x = 0
  · have e0 : ¬ (csheet x ≠ 0) := fun e => e h
    rw [if_neg (by simp [h]), if_neg e0, not_inR]
    have ev : (decide (1 ≤ v) && decide (v ≤ 1000000)) = inR 1 1000000 v := rfl
    cases ht : inR 1 x.1 t with
    | false => simp [gd]
    | true =>
      simp only [gd, Bool.not_true, Bool.not_false, cond_true, Bool.true_and, Bool.false_or, Option.bind_some, ev]
      cases hv : inR 1 1000000 v with
      | false => rfl
      | true =>
        rw [if_neg (by simp), if_pos rfl, refSpan_eq hF]
        simp only [Option.bind_some]
        by_cases h2 : (spanS x t).2 = 0
        · rw [if_neg (by simp [h2]), if_neg (fun e => e h2)]
        · rw [if_pos (by simp [h2]), if_pos h2]
  · rw [if_pos (by simp [h]), if_pos h]

/-! ### Costs -/
open Classical in
noncomputable def costS (x : Int × List RR) (a b : Int) : Int × Int :=
  if csheet x ≠ 0 then (0, csheet x) else if (inR 0 x.1 a && inR 0 x.1 b) = true then (if Pot x then (D x a b, 0) else (0, 21)) else (0, 2)
theorem refCost_eq (hF : 1000 ≤ F) : ref01_Cost F x a b = some (costS x a b) := by
  unfold ref01_Cost costS
  have ex : (x.1, x.2) = x := rfl
  simp only [ex, refSheet_eq (show 100 < F by omega), Option.bind_eq_bind, Option.bind_some]
  by_cases h : csheet x = 0
  · have e0 : ¬ (csheet x ≠ 0) := fun e => e h
    have e1 : ((((decide (a < 0)) || (decide (x.1 < a))) || (decide (b < 0))) || (decide (x.1 < b))) = !(inR 0 x.1 a && inR 0 x.1 b) := by
      rw [Bool.not_and, ← not_inR, ← not_inR, Bool.or_assoc]
    rw [if_neg (by simp [h]), if_neg e0, e1]
    cases hab : (inR 0 x.1 a && inR 0 x.1 b) with
    | false => rfl
    | true =>
      have hab' := hab
      simp only [inR, Bool.and_eq_true, decide_eq_true_eq] at hab'
      obtain ⟨⟨a0, a1⟩, b0, b1⟩ := hab'
      rw [if_neg (by simp), if_pos rfl]
      obtain ⟨c1, c2⟩ := clashes_eq h (F := F) hF
      by_cases hP : Pot x
      · rw [c1 hP, if_pos hP]
        obtain ⟨M, e, _, hM⟩ := far_pot h hF hP
        obtain ⟨r1, f1, _, f2⟩ := hM a a0 a1
        simp only [Option.bind_some]
        rw [if_neg (by simp), e]
        simp only [Option.bind_some]
        rw [f1]
        simp only [Option.bind_some]
        rw [f2 b b0 b1]
        rfl
      · rw [c2 hP, if_neg hP]
        rfl
  · rw [if_pos (by simp [h]), if_pos h]

/-! ### Ways that are given -/
def cway (x : Int × List RR) (a b : Int) (way : List Int) : Int × Int :=
  if csheet x ≠ 0 then (0, csheet x) else if (inR 0 x.1 a && inR 0 x.1 b) = true then
    (if 60 < way.length then (0, 6) else if (chainS (whole x) way).2 ≠ 0 then (0, (chainS (whole x) way).2) else
      if way.length = 0 then (if a ≠ b then (0, 16) else (0, 0)) else if firstF (rsOf (whole x) way) ≠ a ∨ lastT (rsOf (whole x) way) ≠ b then (0, 16) else ((chainS (whole x) way).1, 0))
  else (0, 2)
end
end Go.Proofs.Ythppacohnciinaa

/-! Ways between two turns, in plain words. Condition: there are enough rounds. -/
namespace Go.Proofs.Ythppacohnciinaa
open Go Go.Md Go.RowKit
open BF (Rl St Back)
section
variable {x : Int × List RR} {a b t : Int} {way : List Int} {F : Nat}

/-! ### Ways that are given -/
theorem cw1 (h : csheet x ≠ 0) : cway x a b way = (0, csheet x) := by unfold cway; rw [if_pos h]
theorem cw2 (h : csheet x = 0) (h2 : (inR 0 x.1 a && inR 0 x.1 b) = false) : cway x a b way = (0, 2) := by unfold cway; rw [if_neg (fun e => e h), if_neg (by rw [h2]; simp)]
theorem cw3 (h : csheet x = 0) (h2 : (inR 0 x.1 a && inR 0 x.1 b) = true) (h3 : 60 < way.length) : cway x a b way = (0, 6) := by
  unfold cway; rw [if_neg (fun e => e h), if_pos h2, if_pos h3]
theorem cw4 (h : csheet x = 0) (h2 : (inR 0 x.1 a && inR 0 x.1 b) = true) (h3 : ¬ 60 < way.length) (h4 : (chainS (whole x) way).2 ≠ 0) : cway x a b way = (0, (chainS (whole x) way).2) := by
  unfold cway; rw [if_neg (fun e => e h), if_pos h2, if_neg h3, if_pos h4]
theorem cw5 (h : csheet x = 0) (h2 : (inR 0 x.1 a && inR 0 x.1 b) = true) (h4 : way = []) : cway x a b way = if a ≠ b then (0, 16) else (0, 0) := by
  subst h4
  unfold cway; rw [if_neg (fun e => e h), if_pos h2, if_neg (by simp), if_neg (by simp [chainS, inAll, rsOf, linkE]), if_pos (show ([] : List Int).length = 0 from rfl)]
theorem cw6 (h : csheet x = 0) (h2 : (inR 0 x.1 a && inR 0 x.1 b) = true) (h3 : ¬ 60 < way.length) (h4 : (chainS (whole x) way).2 = 0) (h5 : way.length ≠ 0) : cway x a b way = if firstF (rsOf (whole x) way) ≠ a ∨ lastT (rsOf (whole x) way) ≠ b then (0, 16) else ((chainS (whole x) way).1, 0) := by
  unfold cway; rw [if_neg (fun e => e h), if_pos h2, if_neg h3, if_neg (fun e => e h4), if_neg h5]
theorem ends_ix (hin : inAll (whole x) way = true) (h5 : way.length ≠ 0) (hl : way.length < 1000000) : (ix way 0 >>= fun i => ix (whole x) i) = some ((rsOf (whole x) way)[0]'(by simp [rsOf]; omega)) ∧ firstF (rsOf (whole x) way) = ((rsOf (whole x) way)[0]'(by simp [rsOf]; omega)).1 ∧
    (ix way (w64 ((way.length : Int) - 1)) >>= fun i => ix (whole x) i) = some ((rsOf (whole x) way)[way.length - 1]'(by simp [rsOf]; omega)) ∧ lastT (rsOf (whole x) way) = ((rsOf (whole x) way)[way.length - 1]'(by simp [rsOf]; omega)).2.1 := by
  have hrl : (rsOf (whole x) way).length = way.length := by simp [rsOf]
  have e1 : w64 ((way.length : Int) - 1) = ((way.length - 1 : Nat) : Int) := by rw [w64_in (by omega)]; omega
  have z0 : ix way 0 = some (way[0]'(by omega)) := ix_nat (k := 0) (by omega)
  refine ⟨?_, firstF_get _, ?_, ?_⟩
  · rw [z0]
    simp only [Option.bind_eq_bind, Option.bind_some, ix_rs hin (show 0 < way.length by omega)]
  · rw [e1, ix_nat (show way.length - 1 < way.length by omega)]
    simp only [Option.bind_eq_bind, Option.bind_some, ix_rs hin (show way.length - 1 < way.length by omega)]
  · unfold lastT
    rw [List.getLast?_eq_getElem?, List.getElem?_eq_getElem (by omega)]
    simp [hrl]
theorem chain_in (h4 : (chainS (whole x) way).2 = 0) : inAll (whole x) way = true := by
  unfold chainS at h4
  split at h4
  · assumption
  · cases h4
theorem chain_nil : chainS (whole x) [] = (0, 0) := by simp [chainS, inAll, rsOf, linkE]
theorem checkWay_eq (hF : 1000 ≤ F) (hl : way.length < 1000000) : speed_CheckWay F x a b way = some (cway x a b way) := by
  unfold speed_CheckWay
  have ex : (x.1, x.2) = x := rfl
  simp only [ex, checkSheet_eq (show 100 < F by omega), Option.bind_eq_bind, Option.bind_some]
  by_cases h : csheet x = 0
  · obtain ⟨h1, h2, h3, _⟩ := csheet_ok h
    rw [if_neg (by simp [h]), turns_eq (by simp; omega) (by simp)]
    simp only [Option.bind_some, List.all_cons, List.all_nil, Bool.and_true]
    cases h4 : (inR 0 x.1 a && inR 0 x.1 b) with
    | false => rw [cw2 h h4]; rfl
    | true =>
      rw [if_neg (by simp)]
      by_cases h5 : 60 < way.length
      · rw [if_pos (by simp; omega), cw3 h h4 h5]
      · rw [if_neg (by simp; omega), newNet_eq (by omega) (by omega) h3 h1]
        simp only [Option.bind_some]
        have ew : (((x.1, x.2), whole x) : (Int × List RR) × List RR) = ((x.1, x.2), whole x) := rfl
        rw [show speed_net_follow F ((x.1, x.2), whole x) way = _ from follow_eq h hF (show way.length ≤ 100 by omega)]
        obtain ⟨e1, e2⟩ := followS_err (all := whole x) (way := way)
        simp only [Option.bind_some]
        rw [e1]
        by_cases h6 : (chainS (whole x) way).2 = 0
        · obtain ⟨a1, a2, a3⟩ := e2 h6
          rw [if_neg (by simp [h6]), a1, a2, a3]
          by_cases h7 : way.length = 0
          · have : way = [] := List.eq_nil_of_length_eq_zero h7
            subst this
            rw [cw5 h h4 rfl]
            by_cases hab : a = b
            · rw [chain_nil]; simp [hab]
            · simp [hab]
          · rw [cw6 h h4 h5 h6 h7]
            have p1 : decide ((way.length : Int) = 0) = false := decide_eq_false (by omega)
            have p2 : decide (0 < (way.length : Int)) = true := by simp; omega
            rw [p1, p2]
            simp only [Bool.false_and, Bool.false_eq_true, if_false, Bool.true_and, Option.bind_some]
            by_cases h8 : firstF (rsOf (whole x) way) ≠ a ∨ lastT (rsOf (whole x) way) ≠ b
            · rw [if_pos h8, if_pos (by simpa using h8)]
            · rw [if_neg h8, if_neg (by simpa using h8)]
        · rw [if_pos (by simp [h6]), cw4 h h4 h5 h6]
  · rw [if_pos (by simp [h]), cw1 h]
theorem refWay_eq (hF : 1000 ≤ F) (hl : way.length < 1000000) : ref01_CheckWay F x a b way = some (cway x a b way) := by
  unfold ref01_CheckWay
  have ex : (x.1, x.2) = x := rfl
  simp only [ex, refSheet_eq (show 100 < F by omega), Option.bind_eq_bind, Option.bind_some]
  by_cases h : csheet x = 0
  · obtain ⟨h1, h2, h3, _⟩ := csheet_ok h
    have e1 : ((((decide (a < 0)) || (decide (x.1 < a))) || (decide (b < 0))) || (decide (x.1 < b))) = !(inR 0 x.1 a && inR 0 x.1 b) := by
      rw [Bool.not_and, ← not_inR, ← not_inR, Bool.or_assoc]
    rw [if_neg (by simp [h]), e1]
    cases h4 : (inR 0 x.1 a && inR 0 x.1 b) with
    | false => rw [cw2 h h4]; rfl
    | true =>
      rw [if_neg (by simp)]
      by_cases h5 : 60 < way.length
      · rw [if_pos (by simp; omega), cw3 h h4 h5]
      · rw [if_neg (by simp; omega), chain_eq h hF (by omega)]
        simp only [Option.bind_some]
        by_cases h6 : (chainS (whole x) way).2 = 0
        · rw [if_neg (by simp [h6])]
          by_cases h7 : way.length = 0
          · have : way = [] := List.eq_nil_of_length_eq_zero h7
            subst this
            rw [cw5 h h4 rfl]
            by_cases hab : a = b <;> simp [hab]
          · rw [if_neg (by rw [decide_eq_true_eq]; omega), cw6 h h4 h5 h6 h7, all_eq (by omega) (by omega) h3 h1]
            obtain ⟨c1, c2, c3, c4⟩ := ends_ix (chain_in h6) h7 hl
            simp only [Option.bind_eq_bind] at c1 c3
            simp only [Option.bind_some]
            rw [← Option.bind_assoc, c1]
            simp only [Option.bind_some]
            rw [← c2]
            by_cases h8 : firstF (rsOf (whole x) way) = a
            · rw [if_neg (by simp [h8]), ← Option.bind_assoc, c3]
              simp only [Option.bind_some]
              rw [← c4]
              by_cases h9 : lastT (rsOf (whole x) way) = b
              · rw [if_neg (show ¬ (firstF (rsOf (whole x) way) ≠ a ∨ lastT (rsOf (whole x) way) ≠ b) by simp [h8, h9]), if_neg (by simp [h9])]
              · rw [if_pos (show firstF (rsOf (whole x) way) ≠ a ∨ lastT (rsOf (whole x) way) ≠ b from .inr h9), if_pos (by simp [h9])]
            · rw [if_pos (by simp [h8]), if_pos (.inl h8)]
              rfl
        · rw [if_pos (by simp [h6]), cw4 h h4 h5 h6]
  · rw [if_pos (by simp [h]), cw1 h]

/-! ### The cheapest way -/
theorem mget_del {l : List (Int × Int)} {k t : Int} (h : t ≠ k) : mget 0 (mdel l k) t = mget 0 l t := by
  induction l with
  | nil => rfl
  | cons p l ih =>
    obtain ⟨c, d⟩ := p
    simp only [mdel]
    by_cases e : c = k
    · rw [if_pos e]
      simp only [mget]
      rw [if_neg (fun e2 => h (e2.symm.trans e))]
    · rw [if_neg e]
      simp only [mget, ih]
theorem jv_back {s : St} (hj : Jv x a s) {p : Int → Int} (hp : ∀ r ∈ whole x, p r.2.1 ≤ p r.1 + r.2.2) {v u c : Int} {n : Nat} (hb : Back s.b v u c n) : p v ≤ p u + c := by
  induction hb with
  | @one v q hq =>
    obtain ⟨h1, h2, _⟩ := hj.j2 v q hq
    have := hp _ (en_mem h1).1
    rw [h2] at this
    exact this
  | @more v u c n q hq _ ih =>
    obtain ⟨h1, h2, _⟩ := hj.j2 v q hq
    have := hp _ (en_mem h1).1
    rw [h2] at this
    omega
/-- A cheapest way, as a list of named rules. -/
structure WayTo (x : Int × List RR) (a b : Int) (al : List Rl) : Prop where
  lk : Lk al
  mem : ∀ p ∈ al, p ∈ Rs x
  ends : (al = [] ∧ a = b) ∨ (al.head?.map (fun p => p.2.1) = some a ∧ al.getLast?.map (fun p => p.2.2.1) = some b)
  len : al.length ≤ 21
theorem way_l1 (h : csheet x = 0) (hP : Pot x) (a0 : 0 ≤ a) (a1 : a ≤ x.1) {X : Ar 21 Int} {l : List (Int × Int)} {s : St} (hf : Fin x a X l s) : ∀ (m : Nat) (M : List Int) (l' : List (Int × Int)) (u : Int) (al : List Rl),
    M.Nodup → (∀ w ∈ M, 0 ≤ w ∧ w ≤ x.1 ∧ ∃ c n, Back s.b w u c n) → al.length = M.length → 0 ≤ u → u ≤ x.1 → (∀ t, t ∉ M → mget 0 l' t = mget 0 l t) → x.1 + 1 - M.length < m →
    Lk al → (∀ p ∈ al, p ∈ Rs x) → ((al = [] ∧ u = b) ∨ (al.head?.map (fun p => p.2.1) = some u ∧ al.getLast?.map (fun p => p.2.2.1) = some b)) → s.f b = s.f u + sumM al →
    ∃ al', speed_Way_l1 (whole x) a m ((al.map (·.1)).reverse) u l' = some ((al'.map (·.1)).reverse) ∧ WayTo x a b al' ∧ s.f b = s.f a + sumM al'
  | 0, M, l', u, al, hn, hM, hlen, u0, u1, hl, hm, hlk, hmem, hends, hs => by
    have := nodup_len (x.1 + 1).toNat M hn (fun w hw => by have := hM w hw; omega)
    omega
  | m + 1, M, l', u, al, hn, hM, hlen, u0, u1, hl, hm, hlk, hmem, hends, hs => by
    obtain ⟨_, _, h3, _⟩ := csheet_ok h
    have hMl := nodup_len (x.1 + 1).toNat M hn (fun w hw => by have := hM w hw; omega)
    unfold speed_Way_l1
    by_cases hu : u = a
    · subst hu
      rw [if_neg (by simp)]
      exact ⟨al, rfl, ⟨hlk, hmem, hends, by omega⟩, hs⟩
    · rw [if_pos (by simp [hu])]
      have huM : u ∉ M := fun hw => by
        obtain ⟨_, _, c, n, hb⟩ := hM u hw
        have h1 := hf.jv.j3 u c n hb
        obtain ⟨p, hp⟩ := hP
        have h2 := jv_back hf.jv hp hb
        omega
      obtain ⟨c, hc, _⟩ := PC.any (x := x) a0 a1 u0 u1
      have hne := (hf.le h a0 a1 hc).2
      have hb := hf.jv.j4 u hu (by omega)
      obtain ⟨p, hp⟩ := Option.ne_none_iff_exists'.1 hb
      obtain ⟨p1, p2, p3, p4⟩ := hf.jv.j2 u p hp
      have hok := Rs_ok h p p1
      have hcn := hf.fix p p1
      have e3 : s.f p.2.1 + p.2.2.2 = s.f u := by
        unfold BF.cnd at hcn
        simp only [not_and, Int.not_lt] at hcn
        have := hcn p4
        rw [p2] at this
        omega
      have ef : speed_from (whole x) l' u = some (p.1, p.2.1) := by
        unfold speed_from
        rw [if_pos (key_ok u0 (by omega)), hl u huM, hf.rep.b u p hp, (en_mem p1).2.1]
        rfl
      rw [ef]
      simp only [Option.bind_eq_bind, Option.bind_some]
      rw [app_some (by simp only [List.length_reverse, List.length_map, List.length_cons, List.length_nil]; omega)]
      simp only [Option.bind_some]
      have eo : (al.map (·.1)).reverse ++ [p.1] = ((p :: al).map (·.1)).reverse := by simp
      rw [eo]
      have hlk' : Lk (p :: al) := by
        cases al with
        | nil => trivial
        | cons q al =>
          rcases hends with ⟨e, _⟩ | ⟨e, _⟩
          · cases e
          · simp only [List.head?_cons, Option.map_some, Option.some.injEq] at e
            exact ⟨by rw [p2, e], hlk⟩
      have hl2 : (p :: al).getLast?.map (fun p => p.2.2.1) = some b := by
        rcases hends with ⟨rfl, e⟩ | ⟨e1, e2⟩
        · simp [p2, e]
        · cases al with
          | nil => simp at e1
          | cons q al => rw [List.getLast?_cons_cons]; exact e2
      refine way_l1 h hP a0 a1 hf m (u :: M) _ p.2.1 (p :: al) (by simp [hn, huM]) (fun w hw => ?_) (by simp [hlen]) hok.1 hok.2.1 (fun t ht => ?_) (by simp only [List.length_cons]; omega) hlk' (fun q hq => ?_) (.inr ⟨rfl, hl2⟩) ?_
      · rcases List.mem_cons.1 hw with rfl | hw
        · exact ⟨u0, u1, _, _, .one hp⟩
        · obtain ⟨w0, w1, c, n, hb⟩ := hM w hw
          exact ⟨w0, w1, _, _, hb.snoc hp⟩
      · simp only [List.mem_cons, not_or] at ht
        rw [mget_del ht.1]
        exact hl t ht.2
      · rcases List.mem_cons.1 hq with rfl | hq
        · exact p1
        · exact hmem q hq
      · have : sumM (p :: al) = p.2.2.2 + sumM al := by simp [sumM]
        omega
theorem inAll_names {al : List Rl} (hm : ∀ p ∈ al, p ∈ Rs x) : inAll (whole x) (al.map (·.1)) = true ∧ rsOf (whole x) (al.map (·.1)) = al.map (·.2) := by
  refine ⟨List.all_eq_true.2 fun i hi => ?_, ?_⟩
  · obtain ⟨p, hp, rfl⟩ := List.mem_map.1 hi
    have := en_mem (hm p hp)
    simp only [Bool.and_eq_true, decide_eq_true_eq]
    exact ⟨this.2.2.1, this.2.2.2⟩
  · unfold rsOf
    rw [List.map_map]
    refine List.map_congr_left fun p hp => ?_
    have := (en_mem (hm p hp)).2.1
    simp [this]
theorem chain_names (h : csheet x = 0) {al : List Rl} (hm : ∀ p ∈ al, p ∈ Rs x) (hlk : Lk al) (hlen : al.length ≤ 60) : chainS (whole x) (al.map (·.1)) = (sumM al, 0) := by
  obtain ⟨e1, e2⟩ := inAll_names hm
  unfold chainS
  rw [if_pos e1, e2]
  cases al with
  | nil => rfl
  | cons q al =>
    simp only [List.length_cons] at hlen
    rw [linkE_lk h al q 0 none hm hlk (.inl rfl) (by omega) (by omega), Int.zero_add]
theorem first_names {al : List Rl} : firstF (al.map (·.2)) = (al.head?.map (fun p => p.2.1)).getD 0 := by cases al <;> rfl
theorem last_names {al : List Rl} : lastT (al.map (·.2)) = (al.getLast?.map (fun p => p.2.2.1)).getD 0 := by
  unfold lastT
  rw [List.getLast?_map]
  cases al.getLast? <;> rfl
theorem wayTo_cway (h : csheet x = 0) (a0 : 0 ≤ a) (a1 : a ≤ x.1) (b0 : 0 ≤ b) (b1 : b ≤ x.1) {al : List Rl} (hw : WayTo x a b al) : cway x a b (al.map (·.1)) = (sumM al, 0) := by
  have hab : (inR 0 x.1 a && inR 0 x.1 b) = true := by simp [inR]; omega
  have hlen := hw.len
  have hch := chain_names h hw.mem hw.lk (by omega)
  rcases hw.ends with ⟨rfl, rfl⟩ | ⟨e1, e2⟩
  · rw [show List.map (fun x : Rl => x.1) [] = ([] : List Int) from rfl, cw5 h hab rfl, if_neg (by simp)]
    rfl
  · have h0 : (al.map (·.1)).length ≠ 0 := by cases al with
      | nil => simp at e1
      | cons q al => simp
    rw [cw6 h hab (by simp; omega) (by rw [hch]) h0, hch, if_neg]
    rw [(inAll_names hw.mem).2, first_names, last_names, e1, e2]
    simp
theorem way_eq (h : csheet x = 0) (hP : Pot x) (a0 : 0 ≤ a) (a1 : a ≤ x.1) (b0 : 0 ≤ b) (b1 : b ≤ x.1) (hF : 100000000000000000 ≤ F) :
    ∃ names : List Int, speed_Way F x a b = some (names, D x a b, 0) ∧ cway x a b names = (D x a b, 0) ∧ names.length ≤ 60 := by
  obtain ⟨h1, h2, h3, _⟩ := csheet_ok h
  obtain ⟨o1, _⟩ := open_eq h (F := F) (by omega)
  obtain ⟨X, l, s, e, hf, hD⟩ := find_D h hP a0 a1 hF
  obtain ⟨al, e1, hw, e2⟩ := way_l1 h hP a0 a1 hf (b := b) F [] l b [] (by simp) (by simp) rfl b0 b1 (fun t _ => rfl) (by simp; omega) trivial (by simp) (.inl ⟨rfl, rfl⟩) (by simp [sumM])
  have fa := hf.dist h a0 a1 a0 a1
  have fb := hf.dist h a0 a1 b0 b1
  have da := hD a a0 a1
  have db := hD b b0 b1
  rw [fa.2] at da
  rw [fb.2] at db
  have dd := D_self h hP a0 a1
  have hs : sumM al = D x a b := by omega
  have hlen := hw.len
  refine ⟨al.map (·.1), ?_, ?_, by simp; omega⟩
  · unfold speed_Way
    have ex : (x.1, x.2) = x := rfl
    simp only [ex, checkSheet_eq (show 100 < F by omega), Option.bind_eq_bind, Option.bind_some]
    rw [if_neg (by simp [h]), turns_eq (by simp; omega) (by simp)]
    have hab : (inR 0 x.1 a && inR 0 x.1 b) = true := by simp [inR]; omega
    simp only [Option.bind_some, List.all_cons, List.all_nil, Bool.and_true, hab]
    rw [if_neg (by simp), show speed_open F x = _ from o1 hP]
    simp only [Option.bind_some]
    rw [if_neg (by simp)]
    rw [show speed_net_find F ((x.1, x.2), whole x) a = _ from e]
    simp only [Option.bind_some]
    simp only [List.map_nil, List.reverse_nil] at e1
    rw [e1]
    simp only [Option.bind_some]
    rw [reverse_eq (by simp; omega) (by simp; omega), List.reverse_reverse]
    simp only [Option.bind_some]
    rw [db.2]
    rfl
  · rw [wayTo_cway h a0 a1 b0 b1 hw, hs]
theorem way_no (h : csheet x ≠ 0) (hF : 1000 ≤ F) : speed_Way F x a b = some ([], 0, csheet x) := by
  unfold speed_Way
  have ex : (x.1, x.2) = x := rfl
  simp only [ex, checkSheet_eq (show 100 < F by omega), Option.bind_eq_bind, Option.bind_some]
  rw [if_pos (by simp [h])]
theorem way_out (h : csheet x = 0) (hab : (inR 0 x.1 a && inR 0 x.1 b) = false) (hF : 1000 ≤ F) : speed_Way F x a b = some ([], 0, 2) := by
  unfold speed_Way
  have ex : (x.1, x.2) = x := rfl
  simp only [ex, checkSheet_eq (show 100 < F by omega), Option.bind_eq_bind, Option.bind_some]
  rw [if_neg (by simp [h]), turns_eq (by simp; omega) (by simp)]
  simp only [Option.bind_some, List.all_cons, List.all_nil, Bool.and_true, hab]
  rfl
theorem way_circ (h : csheet x = 0) (hab : (inR 0 x.1 a && inR 0 x.1 b) = true) (hP : ¬ Pot x) (hF : 1000 ≤ F) : speed_Way F x a b = some ([], 0, 21) := by
  obtain ⟨_, o2⟩ := open_eq h hF
  unfold speed_Way
  have ex : (x.1, x.2) = x := rfl
  simp only [ex, checkSheet_eq (show 100 < F by omega), Option.bind_eq_bind, Option.bind_some]
  rw [if_neg (by simp [h]), turns_eq (by simp; omega) (by simp)]
  simp only [Option.bind_some, List.all_cons, List.all_nil, Bool.and_true, hab]
  rw [if_neg (by simp), show speed_open F x = _ from o2 hP]
  rfl
end
end Go.Proofs.Ythppacohnciinaa

/-! SpeedSpans and SpeedProofs, in plain words. No condition. -/
namespace Go.Proofs.Ythppacohnciinaa
open Go Go.Md Go.RowKit
section
variable {x : Int × List RR} {F : Nat} {a b t : Int}
theorem longs_l1 {l : List Int} (hl : l.length < 4611686018427387904) : ∀ (m k : Nat), k ≤ l.length → l.length - k < m → law01_longs_l1 F l l m (k : Int) = some (.inr ())
  | 0, k, _, h => by omega
  | m + 1, k, hk, h => by
    unfold law01_longs_l1
    by_cases hlt : k < l.length
    · have e : decide ((k : Int) < (l.length : Int)) = true := by simpa using hlt
      rw [if_pos e, ix_nat hlt]
      simp only [Option.bind_eq_bind, Option.bind_some]
      rw [if_neg (by simp), w64_in (by omega)]
      exact longs_l1 hl m (k + 1) (by omega) (by omega)
    · have e : ¬ decide ((k : Int) < (l.length : Int)) = true := by simpa using hlt
      rw [if_neg e]
theorem longs_same {l : List Int} (hF : l.length < F) (hl : l.length < 4611686018427387904) : law01_longs F l l = some true := by
  unfold law01_longs
  rw [if_neg (by simp)]
  have := longs_l1 (F := F) hl F 0 (Nat.zero_le _) (by omega)
  simp only [Int.natCast_zero] at this
  rw [this]
  rfl
theorem endsS_len {high : Bool} : (endsS x high).1.length ≤ 20 := by
  by_cases h : csheet x = 0
  · by_cases hP : Pot x
    · rw [en2 h hP]
      have := (csheet_ok h).2.2.1
      simp only [endsL_len]
      omega
    · rw [en3 h hP]; simp
  · rw [en1 h]; simp
theorem co1 (h : csheet x ≠ 0) : costS x a b = (0, csheet x) := by unfold costS; rw [if_pos h]
theorem co2 (h : csheet x = 0) (hab : (inR 0 x.1 a && inR 0 x.1 b) = false) : costS x a b = (0, 2) := by unfold costS; rw [if_neg (fun e => e h), if_neg (by rw [hab]; simp)]
theorem co3 (h : csheet x = 0) (hab : (inR 0 x.1 a && inR 0 x.1 b) = true) (hP : Pot x) : costS x a b = (D x a b, 0) := by unfold costS; rw [if_neg (fun e => e h), if_pos hab, if_pos hP]
theorem co4 (h : csheet x = 0) (hab : (inR 0 x.1 a && inR 0 x.1 b) = true) (hP : ¬ Pot x) : costS x a b = (0, 21) := by unfold costS; rw [if_neg (fun e => e h), if_pos hab, if_neg hP]
theorem way_cases (hF : 100000000000000000 ≤ F) : ∃ names, speed_Way F x a b = some (names, (costS x a b).1, (costS x a b).2) ∧ ((costS x a b).2 = 0 → cway x a b names = ((costS x a b).1, 0)) ∧ ((costS x a b).2 ≠ 0 → names = []) ∧ names.length ≤ 60 := by
  by_cases h : csheet x = 0
  · cases hab : (inR 0 x.1 a && inR 0 x.1 b) with
    | false =>
      rw [co2 h hab]
      exact ⟨[], way_out h hab (by omega), fun e => (by cases e), fun _ => rfl, by simp⟩
    | true =>
      have hab' := hab
      simp only [inR, Bool.and_eq_true, decide_eq_true_eq] at hab'
      obtain ⟨⟨a0, a1⟩, b0, b1⟩ := hab'
      by_cases hP : Pot x
      · rw [co3 h hab hP]
        obtain ⟨names, e1, e2, e3⟩ := way_eq h hP a0 a1 b0 b1 hF
        exact ⟨names, e1, fun _ => e2, fun e => (e rfl).elim, e3⟩
      · rw [co4 h hab hP]
        exact ⟨[], way_circ h hab hP (by omega), fun e => (by cases e), fun _ => rfl, by simp⟩
  · rw [co1 h]
    exact ⟨[], way_no h (by omega), fun e => (h e).elim, fun _ => rfl, by simp⟩
theorem great_eq : law01_great x = some (decide (70 < (x.2.length : Int))) := rfl
theorem speedSpans_true (x : Int × List RR) (t u : Int) (high : Bool) (v : Int) : law01_SpeedSpans FF x t u high v = some true := by
  unfold law01_SpeedSpans
  have ex : (x.1, x.2) = x := rfl
  have hFF : 100000000000000000 ≤ FF := Nat.le_refl _
  have hF1 : 1000 ≤ FF := by decide
  simp only [ex, great_eq, Option.bind_eq_bind, Option.bind_some, worksF]
  cases hg : decide (70 < (x.2.length : Int)) with
  | true => rfl
  | false =>
    obtain ⟨names, e1, e2, e3, e4⟩ := way_cases (x := x) (a := t) (b := u) hFF
    have el := endsS_len (x := x) (high := high)
    rw [if_neg (by simp)]
    simp only [span_eq hFF, refSpan_eq hF1, Ends_eq hFF, refEnds_eq hF1, sung_eq hFF, refSung_eq hF1, e1, refCost_eq hF1, Option.bind_some, decide_true, Bool.not_true, Bool.false_eq_true, if_false]
    rw [longs_same (by omega) (by omega)]
    simp only [Option.bind_some, Bool.not_true, Bool.false_eq_true, if_false]
    by_cases h0 : (costS x t u).2 = 0
    · rw [if_neg (by simp [h0]), refWay_eq hF1 (by omega), e2 h0]
      simp
    · rw [if_pos (by simp [h0]), e3 h0]
      simp
theorem speedProofs_true (x : Int × List RR) (t u : Int) (way : List Int) : law01_SpeedProofs FF x t u way = some true := by
  unfold law01_SpeedProofs
  have ex : (x.1, x.2) = x := rfl
  have hF1 : 1000 ≤ FF := by decide
  simp only [ex, great_eq, Option.bind_eq_bind, Option.bind_some, worksF]
  by_cases hg : (decide (70 < (x.2.length : Int)) || decide (80 < (way.length : Int))) = true
  · rw [if_pos hg]
  · rw [if_neg hg]
    simp only [Bool.or_eq_true, decide_eq_true_eq, not_or] at hg
    have hl : way.length < 1000000 := by omega
    simp only [checkWay_eq hF1 hl, refWay_eq hF1 hl, checkCircle_eq hF1 hl, refCircle_eq hF1 hl, refSheet_eq (show 100 < FF by decide), Option.bind_some, decide_true, Bool.not_true, Bool.false_eq_true, if_false]
    by_cases h : csheet x = 0
    · obtain ⟨c1, c2⟩ := clashes_eq h (F := FF) hF1
      rcases circ_eq h hF1 with ⟨hP, e1⟩ | ⟨hP, e0, al, e1, hc⟩
      · rw [e1]
        simp only [Option.bind_some]
        rw [if_neg (by simp [h]), c1 hP]
        rfl
      · have hl := hc.len
        rw [e1]
        simp only [Option.bind_some]
        rw [if_neg (by simp [h]), c2 hP]
        simp only [Option.bind_some]
        rw [if_neg (by simp), if_pos (by simp), refCircle_eq hF1 (by simp; omega), circ_ok h hc]
        rfl
    · rw [circ_no h hF1]
      simp only [Option.bind_some]
      rw [if_pos (by simp [h])]
      simp
end
end Go.Proofs.Ythppacohnciinaa
