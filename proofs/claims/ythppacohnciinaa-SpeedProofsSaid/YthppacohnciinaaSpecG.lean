/-
  The cheapest costs from a turn, in plain words. Condition: there are enough rounds, and some speeds are true.
-/
import Derived.Test.YthppacohnciinaaSpecF
namespace Go.Proofs.Ythppacohnciinaa
open Go Go.Md Go.RowKit
open BF (Rl St Back rel pass NEV)

/-! ### Ways, and the cheapest ones -/
/-- A way from the turn a to a turn, and what it costs. -/
inductive PC (R : List RR) (a : Int) : Int → Int → Prop
  | nil : PC R a a 0
  | snoc {u c : Int} {r : RR} (h : PC R a u c) (hr : r ∈ R) (hu : r.1 = u) : PC R a r.2.1 (c + r.2.2)
theorem PC.trans {R : List RR} {a b t c d : Int} (h : PC R a b c) (k : PC R b t d) : PC R a t (c + d) := by
  induction k with
  | nil => simpa using h
  | snoc _ hr hu ih => rw [← Int.add_assoc]; exact .snoc ih hr hu
theorem PC.one {R : List RR} {r : RR} (hr : r ∈ R) : PC R r.1 r.2.1 r.2.2 := by
  have := PC.snoc (PC.nil (R := R) (a := r.1)) hr rfl
  simpa using this
theorem PC.pot {R : List RR} {p : Int → Int} (hp : ∀ r ∈ R, p r.2.1 ≤ p r.1 + r.2.2) {a t c : Int} (h : PC R a t c) : p t ≤ p a + c := by
  induction h with
  | nil => omega
  | snoc _ hr hu ih =>
    have := hp _ hr
    rw [hu] at this
    omega
theorem PC.node {x : Int × List RR} (h : csheet x = 0) {a t c : Int} (a0 : 0 ≤ a) (a1 : a ≤ x.1) (hp : PC (whole x) a t c) : 0 ≤ t ∧ t ≤ x.1 := by
  cases hp with
  | nil => exact ⟨a0, a1⟩
  | snoc _ hr _ => exact ⟨(whole_ok h _ hr).2.2.1, (whole_ok h _ hr).2.2.2.1⟩
theorem turn_mem {x : Int × List RR} {t : Int} (t0 : 1 ≤ t) (t1 : t ≤ x.1) : (0, t, 100000) ∈ whole x ∧ (t, 0, 0) ∈ whole x := by
  have h : ∀ r, r = (0, t, (100000 : Int)) ∨ r = (t, 0, 0) → r ∈ whole x := fun r hr => by
    refine List.mem_append.2 (.inr (List.mem_flatMap.2 ⟨(t - 1).toNat, List.mem_range.2 (by omega), ?_⟩))
    have : (((t - 1).toNat : Nat) : Int) + 1 = t := by omega
    simp only [this, List.mem_cons, List.not_mem_nil, or_false]
    exact hr
  exact ⟨h _ (.inl rfl), h _ (.inr rfl)⟩
/-- Between any two turns there is a way that costs at most MaxSpeed. -/
theorem PC.any {x : Int × List RR} {a t : Int} (a0 : 0 ≤ a) (a1 : a ≤ x.1) (t0 : 0 ≤ t) (t1 : t ≤ x.1) : ∃ c, PC (whole x) a t c ∧ c ≤ 100000 := by
  have h1 : ∃ c, PC (whole x) a 0 c ∧ c ≤ 0 := by
    by_cases h : a = 0
    · subst h; exact ⟨0, .nil, by omega⟩
    · exact ⟨0, PC.one (r := (a, 0, 0)) (turn_mem (by omega) a1).2, by omega⟩
  obtain ⟨c, h2, h3⟩ := h1
  by_cases h : t = 0
  · subst h; exact ⟨c, h2, by omega⟩
  · exact ⟨c + 100000, h2.trans (PC.one (r := (0, t, 100000)) (turn_mem (by omega) t1).1), by omega⟩
theorem PC.low {x : Int × List RR} (h : csheet x = 0) (hP : Pot x) {a t c : Int} (a0 : 0 ≤ a) (a1 : a ≤ x.1) (hp : PC (whole x) a t c) : -100000 ≤ c := by
  obtain ⟨p, hpp⟩ := hP
  obtain ⟨t0, t1⟩ := hp.node h a0 a1
  obtain ⟨d, h1, h2⟩ := PC.any (x := x) t0 t1 a0 a1
  have := (hp.trans h1).pot hpp
  omega
theorem PC.loop {x : Int × List RR} (hP : Pot x) {a c : Int} (hp : PC (whole x) a a c) : 0 ≤ c := by
  obtain ⟨p, hpp⟩ := hP
  have := hp.pot hpp
  omega
/-- What the cheapest way costs. -/
def Dist (x : Int × List RR) (a t d : Int) : Prop := PC (whole x) a t d ∧ ∀ c, PC (whole x) a t c → d ≤ c
theorem Dist.uni {x : Int × List RR} {a t d e : Int} (h : Dist x a t d) (k : Dist x a t e) : d = e := by
  have := h.2 e k.1
  have := k.2 d h.1
  omega

/-! ### The rounds -/
structure Jv (x : Int × List RR) (a : Int) (s : St) : Prop where
  j1 : ∀ v, s.f v = NEV ∨ PC (whole x) a v (s.f v)
  j2 : ∀ v q, s.b v = some q → q ∈ Rs x ∧ q.2.2.1 = v ∧ s.f q.2.1 + q.2.2.2 ≤ s.f v ∧ s.f q.2.1 ≠ NEV
  j3 : ∀ v c n, Back s.b v v c n → c < 0
  j4 : ∀ v, v ≠ a → s.f v ≠ NEV → s.b v ≠ none
  j5 : s.f a ≤ 0
  j6 : ∀ v, s.f v ≤ NEV
theorem Jv.bd {x : Int × List RR} (h : csheet x = 0) (hP : Pot x) {a : Int} (a0 : 0 ≤ a) (a1 : a ≤ x.1) {s : St} (hj : Jv x a s) : Bd 100000 s := by
  intro v
  rcases hj.j1 v with h1 | h1
  · rw [h1]; unfold NEV; omega
  · exact ⟨h1.low h hP a0 a1, hj.j6 v⟩
theorem Jv.rel {x : Int × List RR} (h : csheet x = 0) {a : Int} {s : St} {K : Nat} {p : Rl} (hp : p ∈ Rs x) (hj : Jv x a s) : Jv x a (BF.rel K s p) := by
  unfold BF.rel
  by_cases hc : BF.cnd s.f p
  · rw [if_pos hc]
    have hne := Rs_ne h p hp
    obtain ⟨c1, c2⟩ := hc
    have hpc : PC (whole x) a p.2.2.1 (s.f p.2.1 + p.2.2.2) := by
      rcases hj.j1 p.2.1 with h1 | h1
      · exact (c1 h1).elim
      · exact .snoc h1 (en_mem hp).1 rfl
    have hmono : ∀ v, BF.up s.f p.2.2.1 (s.f p.2.1 + p.2.2.2) v ≤ s.f v := fun v => by
      by_cases hv : v = p.2.2.1
      · subst hv; rw [BF.up_same]; omega
      · rw [BF.up_ne hv]; exact Int.le_refl _
    refine ⟨fun v => ?_, fun v q hq => ?_, fun v c n hb => ?_, fun v hv hf => ?_, ?_, fun v => ?_⟩
    · dsimp only
      by_cases hv : v = p.2.2.1
      · subst hv; rw [BF.up_same]; exact .inr hpc
      · rw [BF.up_ne hv]; exact hj.j1 v
    · dsimp only at hq ⊢
      by_cases hv : v = p.2.2.1
      · subst hv
        rw [BF.up_same] at hq
        cases hq
        rw [BF.up_same, BF.up_ne hne]
        exact ⟨hp, rfl, Int.le_refl _, c1⟩
      · rw [BF.up_ne hv] at hq
        obtain ⟨h1, h2, h3, h4⟩ := hj.j2 v q hq
        rw [BF.up_ne hv]
        refine ⟨h1, h2, by have := hmono q.2.1; omega, ?_⟩
        by_cases hu : q.2.1 = p.2.2.1
        · rw [hu, BF.up_same]
          have := hj.j6 p.2.2.1
          omega
        · rw [BF.up_ne hu]; exact h4
    · dsimp only at hb
      rcases BF.cyc (fun v q hq => (hj.j2 v q hq).2.2.1) hne ⟨c1, c2⟩ hb with h1 | ⟨_, h2, h3⟩
      · omega
      · by_cases hv : v = p.2.2.1
        · exact (h2 hv).elim
        · exact hj.j3 v c n (h3 hv)
    · dsimp only at hf ⊢
      by_cases hv2 : v = p.2.2.1
      · subst hv2; rw [BF.up_same]; simp
      · rw [BF.up_ne hv2] at hf ⊢
        exact hj.j4 v hv hf
    · have := hmono a
      have := hj.j5
      dsimp only
      omega
    · have := hmono v
      have := hj.j6 v
      dsimp only
      omega
  · rw [if_neg hc]
    exact hj
theorem Jv.fold {x : Int × List RR} (h : csheet x = 0) {a : Int} {K : Nat} : ∀ (R : List Rl) (s : St), (∀ p ∈ R, p ∈ Rs x) → Jv x a s → Jv x a (R.foldl (BF.rel K) s)
  | [], _, _, hj => hj
  | p :: R, s, hR, hj => Jv.fold h R _ (fun q hq => hR q (by simp [hq])) (hj.rel h (hR p (by simp)))
theorem pass_none {K : Nat} : ∀ (R : List Rl) (s : St), (∀ p ∈ R, ¬ BF.cnd s.f p) → R.foldl (BF.rel K) s = s
  | [], _, _ => rfl
  | p :: R, s, h => by
    simp only [List.foldl_cons]
    have e : BF.rel K s p = s := by unfold BF.rel; rw [if_neg (h p (by simp))]
    rw [e]
    exact pass_none R s fun q hq => h q (by simp [hq])

/-! ### The rounds end -/
def mu (f : Int → Int) : Nat → Nat
  | 0 => 0
  | n + 1 => mu f n + (f (n : Int) + 100000).toNat
theorem mu_le {f g : Int → Int} (h : ∀ v, f v ≤ g v) : ∀ n, mu f n ≤ mu g n
  | 0 => Nat.le_refl _
  | n + 1 => by
    have := mu_le h n
    have := h n
    unfold mu
    omega
theorem mu_lt {f g : Int → Int} (h : ∀ v, f v ≤ g v) (hb : ∀ v, -100000 ≤ f v) : ∀ (n : Nat) (t : Int), 0 ≤ t → t < (n : Int) → f t < g t → mu f n < mu g n
  | 0, t, t0, t1, _ => by omega
  | n + 1, t, t0, t1, hlt => by
    have h1 := mu_le h n
    have h2 := h n
    unfold mu
    by_cases e : t = (n : Int)
    · subst e
      have := hb (n : Int)
      omega
    · have := mu_lt h hb n t t0 (by omega) hlt
      omega
theorem mu_top {f : Int → Int} (h : ∀ v, f v ≤ NEV) : ∀ n, mu f n ≤ n * 1125899906942624
  | 0 => Nat.le_refl _
  | n + 1 => by
    have := mu_top h n
    have := h n
    unfold mu
    unfold NEV at this
    omega

/-- What holds when the rounds are over. -/
structure Fin (x : Int × List RR) (a : Int) (X : Ar 21 Int) (l : List (Int × Int)) (s : St) : Prop where
  rep : Rep X l s
  jv : Jv x a s
  fix : ∀ p ∈ Rs x, ¬ BF.cnd s.f p
theorem find_l2 {x : Int × List RR} (h : csheet x = 0) (hP : Pot x) {a : Int} (a0 : 0 ≤ a) (a1 : a ≤ x.1) : ∀ (m : Nat) (X : Ar 21 Int) (l : List (Int × Int)) (s : St), Rep X l s → Jv x a s → mu s.f 21 < m →
    ∃ X' l' s', speed_net_find_l2 (whole x) m X l = some (X', l') ∧ Fin x a X' l' s'
  | 0, _, _, _, _, _, hm => by omega
  | m + 1, X, l, s, hr, hj, hm => by
    have hb := hj.bd h hP a0 a1
    obtain ⟨X', l', b, e, r1, _, hc⟩ := step_rep (K := 1) h hr hb (by omega) (by omega)
    have hj' : Jv x a (pass (Rs x) 1 s) := Jv.fold h (Rs x) s (fun p hp => hp) hj
    unfold speed_net_find_l2
    rw [e]
    simp only [Option.bind_eq_bind, Option.bind_some]
    cases hbb : b with
    | false =>
      have hf := pass_fix (Rs x) s (fun p hp => by
        have := Rs_ok h p hp
        obtain ⟨_, _, h3, _⟩ := csheet_ok h
        exact ⟨this.2.2.1, by have := this.2.2.2.1; omega⟩) (hc.1 hbb)
      have hs : pass (Rs x) 1 s = s := pass_none _ _ hf
      rw [hs] at r1
      exact ⟨X', l', s, by simp, r1, hj, hf⟩
    | true =>
      rw [if_pos rfl]
      refine find_l2 h hP a0 a1 m X' l' _ r1 hj' ?_
      have hle : ∀ v, (pass (Rs x) 1 s).f v ≤ s.f v := fun v => (BF.pass_le (K := 1) (Rs x) s).1
      have hb' := hj'.bd h hP a0 a1
      have : ∃ t : Int, 0 ≤ t ∧ t < ((21 : Nat) : Int) ∧ (pass (Rs x) 1 s).f t < s.f t := by
        apply Classical.byContradiction
        intro hno
        have : b = false := hc.2 fun t t0 t1 => by
          have := hle t
          have h2 : ¬ (pass (Rs x) 1 s).f t < s.f t := fun hlt => hno ⟨t, t0, by omega, hlt⟩
          omega
        rw [hbb] at this
        cases this
      obtain ⟨t, t0, t1, ht⟩ := this
      have := mu_lt hle (fun v => (hb' v).1) 21 t t0 t1 ht
      omega
theorem find_l1 {F : Nat} : ∀ (m k : Nat) (X : Ar 21 Int), k ≤ 21 → 21 - k < m → (∀ t : Int, 0 ≤ t → t < (k : Int) → gA X t = NEV) → ∃ X', speed_net_find_l1 F m (k : Int) X = some X' ∧ ∀ t, 0 ≤ t → t ≤ 20 → gA X' t = NEV
  | 0, k, _, _, hm, _ => by omega
  | m + 1, k, X, hk, hm, hX => by
    unfold speed_net_find_l1
    by_cases hlt : k < 21
    · rw [if_pos (by simp; omega), ixA (X := X) (by omega) (by omega)]
      simp only [Option.bind_eq_bind, Option.bind_some]
      rw [w64_succ (by omega)]
      refine find_l1 m (k + 1) _ (by omega) (by omega) fun t t0 t1 => ?_
      rw [gA_set (by omega) (by omega) t0 (by omega)]
      split
      · rfl
      · exact hX t t0 (by omega)
    · rw [if_neg (by simp; omega)]
      exact ⟨X, rfl, fun t t0 t1 => hX t t0 (by omega)⟩
theorem find_eq {x : Int × List RR} (h : csheet x = 0) (hP : Pot x) {a : Int} (a0 : 0 ≤ a) (a1 : a ≤ x.1) {F : Nat} (hF : 100000000000000000 ≤ F) :
    ∃ X l s, speed_net_find F ((x.1, x.2), whole x) a = some (X, l) ∧ Fin x a X l s := by
  obtain ⟨_, _, h3, _⟩ := csheet_ok h
  obtain ⟨Z, e1, hZ⟩ := find_l1 (F := F) F 0 (Ar.fill 21 0 : Ar 21 Int) (by omega) (by omega) (fun t t0 t1 => by omega)
  rw [show ((0 : Nat) : Int) = 0 from rfl] at e1
  unfold speed_net_find
  rw [e1]
  simp only [Option.bind_eq_bind, Option.bind_some]
  rw [ixA (X := Z) a0 (by omega)]
  simp only [Option.bind_some]
  have hr : Rep (aset Z a 0) [] ⟨fun t => if t = a then 0 else NEV, fun _ => none, fun _ => 0⟩ := by
    refine ⟨fun t t0 t1 => ?_, fun t p hp => by simp at hp⟩
    rw [gA_set a0 (by omega) t0 t1, hZ t t0 t1]
  have hj : Jv x a ⟨fun t => if t = a then 0 else NEV, fun _ => none, fun _ => 0⟩ := by
    refine ⟨fun v => ?_, fun v q hq => by simp at hq, fun v c n hb => ?_, fun v hv hf => ?_, by simp, fun v => ?_⟩
    · dsimp only
      by_cases hv : v = a
      · subst hv; rw [if_pos rfl]; exact .inr .nil
      · rw [if_neg hv]; exact .inl rfl
    · obtain ⟨p, hp⟩ := hb.start
      simp at hp
    · dsimp only at hf
      rw [if_neg hv] at hf
      exact (hf rfl).elim
    · dsimp only
      split
      · unfold NEV; omega
      · exact Int.le_refl _
  obtain ⟨X', l', s', e2, hf⟩ := find_l2 h hP a0 a1 F _ _ _ hr hj (by
    have := mu_top hj.j6 21
    omega)
  exact ⟨X', l', s', e2, hf⟩

/-! ### What is found -/
theorem Fin.le {x : Int × List RR} (h : csheet x = 0) {a : Int} {X : Ar 21 Int} {l : List (Int × Int)} {s : St} (hf : Fin x a X l s) (a0 : 0 ≤ a) (a1 : a ≤ x.1) {t c : Int} (hp : PC (whole x) a t c) : s.f t ≤ c ∧ s.f t < NEV := by
  have key : ∀ {u c : Int}, PC (whole x) a u c → s.f u < NEV → ∀ r ∈ whole x, r.1 = u → s.f r.2.1 ≤ s.f u + r.2.2 := by
    intro u c _ hlt r hr hu
    obtain ⟨i, hi, e⟩ := List.getElem_of_mem hr
    have hm : ((i : Int), r) ∈ Rs x := by
      have : (en (whole x))[i]? = some ((i : Int), r) := by rw [en_get, List.getElem?_eq_getElem hi, e]; rfl
      exact List.mem_of_getElem? this
    have := hf.fix _ hm
    unfold BF.cnd at this
    simp only [not_and, Int.not_lt] at this
    rw [← hu] at hlt ⊢
    exact this (by omega)
  -- first: nothing is never reached
  have h5 := hf.jv.j5
  have fin0 : s.f 0 ≤ 0 := by
    by_cases e : a = 0
    · rw [e] at h5; exact h5
    · have := key (PC.nil) (by unfold NEV; omega) (a, 0, 0) (turn_mem (by omega) a1).2 rfl
      simp only at this
      omega
  have fin : ∀ u, 0 ≤ u → u ≤ x.1 → s.f u < NEV := fun u u0 u1 => by
    by_cases e : u = 0
    · subst e; unfold NEV; omega
    · obtain ⟨c0, hc0, _⟩ := PC.any (x := x) (a := a) (t := 0) a0 a1 (by omega) (by omega)
      have := key hc0 (by unfold NEV; omega) (0, u, 100000) (turn_mem (by omega) u1).1 rfl
      simp only at this
      unfold NEV
      omega
  have hn := hp.node h a0 a1
  refine ⟨?_, fin t hn.1 hn.2⟩
  clear hn
  induction hp with
  | nil => exact h5
  | @snoc u c r hpu hr hu ih =>
    have hnu := hpu.node h a0 a1
    have := key hpu (fin u hnu.1 hnu.2) r hr hu
    omega
theorem Fin.dist {x : Int × List RR} (h : csheet x = 0) {a : Int} {X : Ar 21 Int} {l : List (Int × Int)} {s : St} (hf : Fin x a X l s) (a0 : 0 ≤ a) (a1 : a ≤ x.1) {t : Int} (t0 : 0 ≤ t) (t1 : t ≤ x.1) : Dist x a t (gA X t) ∧ gA X t = s.f t := by
  obtain ⟨_, _, h3, _⟩ := csheet_ok h
  obtain ⟨c, hc, _⟩ := PC.any (x := x) a0 a1 t0 t1
  have h1 := hf.le h a0 a1 hc
  have e := hf.rep.f t t0 (by omega)
  rw [e]
  refine ⟨⟨?_, fun c hc => (hf.le h a0 a1 hc).1⟩, rfl⟩
  rcases hf.jv.j1 t with h2 | h2
  · rw [h2] at h1; omega
  · exact h2
end Go.Proofs.Ythppacohnciinaa
