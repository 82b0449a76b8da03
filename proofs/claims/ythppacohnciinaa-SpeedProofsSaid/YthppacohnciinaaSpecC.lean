/-
  Going all rules again and again: the rules by which speeds became less, and circles among them, in plain words. No condition.
-/
import Derived.Test.YthppacohnciinaaSpecB
namespace Go.Proofs.Ythppacohnciinaa
namespace BF

/-- A rule with its name. -/
abbrev Rl := Int × Int × Int × Int
def NEV : Int := 1125899906842624
/-- Speeds, the rule by which each became so, and in which round. -/
structure St where
  f : Int → Int
  b : Int → Option Rl
  r : Int → Nat
def up {α : Type} (g : Int → α) (i : Int) (v : α) : Int → α := fun t => if t = i then v else g t
theorem up_same {α : Type} {g : Int → α} {i : Int} {v : α} : up g i v i = v := by simp [up]
theorem up_ne {α : Type} {g : Int → α} {i t : Int} {v : α} (h : t ≠ i) : up g i v t = g t := by simp [up, h]

def cnd (f : Int → Int) (p : Rl) : Prop := f p.2.1 ≠ NEV ∧ f p.2.1 + p.2.2.2 < f p.2.2.1
instance {f : Int → Int} {p : Rl} : Decidable (cnd f p) := by unfold cnd; infer_instance
def rel (K : Nat) (s : St) (p : Rl) : St := if cnd s.f p then ⟨up s.f p.2.2.1 (s.f p.2.1 + p.2.2.2), up s.b p.2.2.1 (some p), up s.r p.2.2.1 K⟩ else s
def pass (R : List Rl) (K : Nat) (s : St) : St := R.foldl (rel K) s
def start : St := ⟨fun _ => 0, fun _ => none, fun _ => 0⟩
/-- From a turn back by the rules: where to, what it costs, in how many steps. -/
inductive Back (b : Int → Option Rl) : Int → Int → Int → Nat → Prop
  | one {v : Int} {p : Rl} (h : b v = some p) : Back b v p.2.1 p.2.2.2 1
  | more {v u c : Int} {n : Nat} {p : Rl} (h : b v = some p) (k : Back b p.2.1 u c n) : Back b v u (p.2.2.2 + c) (n + 1)

theorem Back.snoc {b : Int → Option Rl} {v u c : Int} {n : Nat} (h : Back b v u c n) {p : Rl} (hp : b u = some p) : Back b v p.2.1 (c + p.2.2.2) (n + 1) := by
  induction h with
  | one h => exact .more h (.one hp)
  | more h k ih =>
    have := ih hp
    rw [Int.add_assoc]
    exact .more h this
theorem Back.pos {b : Int → Option Rl} {v u c : Int} {n : Nat} (h : Back b v u c n) : 1 ≤ n := by cases h <;> omega
theorem Back.start {b : Int → Option Rl} {v u c : Int} {n : Nat} (h : Back b v u c n) : ∃ p, b v = some p := by cases h <;> exact ⟨_, by assumption⟩

/-- What holds within round K: 'done' rules were gone in it, 'left' ones not yet. -/
structure Inv (N : Int → Prop) (K : Nat) (done left : List Rl) (s : St) : Prop where
  i1 : ∀ v, s.b v = none ↔ s.r v = 0
  i2 : ∀ v p, s.b v = some p → p ∈ done ++ left ∧ p.2.2.1 = v ∧ s.f p.2.1 + p.2.2.2 ≤ s.f v
  i3 : ∀ v p, s.b v = some p → s.r v ≤ s.r p.2.1 + 1
  i4d : ∀ q ∈ done, s.r q.2.1 + 1 ≤ K → s.f q.2.2.1 ≤ s.f q.2.1 + q.2.2.2
  i4l : ∀ q ∈ left, s.r q.2.1 + 2 ≤ K → s.f q.2.2.1 ≤ s.f q.2.1 + q.2.2.2
  i5 : ∀ v c n, Back s.b v v c n → c < 0
  i6 : ∀ v, s.r v ≤ K
  i7 : ∀ v, s.f v ≤ 0

theorem cyc {s : St} {p : Rl} (h : ∀ v q, s.b v = some q → s.f q.2.1 + q.2.2.2 ≤ s.f v) (hne : p.2.1 ≠ p.2.2.1) (hc : cnd s.f p) :
    ∀ {v u c n}, Back (up s.b p.2.2.1 (some p)) v u c n →
      up s.f p.2.2.1 (s.f p.2.1 + p.2.2.2) u + c < up s.f p.2.2.1 (s.f p.2.1 + p.2.2.2) v ∨
      (up s.f p.2.2.1 (s.f p.2.1 + p.2.2.2) u + c ≤ up s.f p.2.2.1 (s.f p.2.1 + p.2.2.2) v ∧ u ≠ p.2.2.1 ∧ (v ≠ p.2.2.1 → Back s.b v u c n)) := by
  obtain ⟨_, hlt⟩ := hc
  intro v u c n hb
  induction hb with
  | @one v q hq =>
    by_cases hv : v = p.2.2.1
    · subst hv
      rw [up_same] at hq
      cases hq
      refine .inr ⟨?_, hne, fun h => (h rfl).elim⟩
      rw [up_same, up_ne hne]
      exact Int.le_refl _
    · rw [up_ne hv] at hq
      have h2 := h v q hq
      rw [up_ne hv]
      by_cases hu : q.2.1 = p.2.2.1
      · left
        rw [hu, up_same]
        rw [hu] at h2
        omega
      · right
        rw [up_ne hu]
        exact ⟨h2, hu, fun _ => .one hq⟩
  | @more v u c n q hq k ih =>
    have step : up s.f p.2.2.1 (s.f p.2.1 + p.2.2.2) q.2.1 + q.2.2.2 < up s.f p.2.2.1 (s.f p.2.1 + p.2.2.2) v ∨
        (up s.f p.2.2.1 (s.f p.2.1 + p.2.2.2) q.2.1 + q.2.2.2 ≤ up s.f p.2.2.1 (s.f p.2.1 + p.2.2.2) v ∧ q.2.1 ≠ p.2.2.1) := by
      by_cases hv : v = p.2.2.1
      · subst hv
        rw [up_same] at hq
        cases hq
        right
        rw [up_same, up_ne hne]
        exact ⟨Int.le_refl _, hne⟩
      · rw [up_ne hv] at hq
        have h2 := h v q hq
        rw [up_ne hv]
        by_cases hu : q.2.1 = p.2.2.1
        · left
          rw [hu, up_same]
          rw [hu] at h2
          omega
        · right
          rw [up_ne hu]
          exact ⟨h2, hu⟩
    rcases ih with ih | ⟨ih1, ih2, ih3⟩
    · left
      rcases step with h1 | ⟨h1, _⟩ <;> omega
    · rcases step with h1 | ⟨h1, h2⟩
      · left; omega
      · right
        refine ⟨by omega, ih2, fun hv => ?_⟩
        rw [up_ne hv] at hq
        exact .more hq (ih3 h2)

theorem Inv.rel {N : Int → Prop} {K : Nat} {done left : List Rl} {s : St} {p : Rl} (hK : 1 ≤ K) (h : Inv N K done (p :: left) s) (hne : p.2.1 ≠ p.2.2.1) : Inv N K (done ++ [p]) left (rel K s p) := by
  unfold BF.rel
  by_cases hc : cnd s.f p
  · rw [if_pos hc]
    have hc' := hc
    obtain ⟨_, hlt⟩ := hc'
    have hmono : ∀ v, up s.f p.2.2.1 (s.f p.2.1 + p.2.2.2) v ≤ s.f v := fun v => by
      by_cases hv : v = p.2.2.1
      · subst hv; rw [up_same]; omega
      · rw [up_ne hv]; exact Int.le_refl _
    have hr : K ≤ s.r p.2.1 + 1 := by
      rcases Nat.lt_or_ge (s.r p.2.1 + 1) K with h' | h'
      · have := h.i4l p (by simp) (by omega)
        omega
      · exact h'
    refine ⟨?_, ?_, ?_, ?_, ?_, ?_, ?_, ?_⟩
    · intro v
      by_cases hv : v = p.2.2.1
      · subst hv; simp only [up_same]; constructor
        · intro h; cases h
        · intro h; omega
      · simp only [up_ne hv]; exact h.i1 v
    · intro v q hq
      dsimp only at hq ⊢
      by_cases hv : v = p.2.2.1
      · subst hv
        rw [up_same] at hq
        cases hq
        refine ⟨by simp, rfl, ?_⟩
        simp only [up_same, up_ne hne]
        exact Int.le_refl _
      · rw [up_ne hv] at hq
        obtain ⟨h1, h2, h3⟩ := h.i2 v q hq
        refine ⟨by simp only [List.mem_append, List.mem_cons, List.not_mem_nil, or_false] at h1 ⊢; rcases h1 with h1 | h1 | h1 <;> simp [h1], h2, ?_⟩
        simp only [up_ne hv]
        have := hmono q.2.1
        omega
    · intro v q hq
      dsimp only at hq ⊢
      by_cases hv : v = p.2.2.1
      · subst hv
        rw [up_same] at hq
        cases hq
        simp only [up_same, up_ne hne]
        exact hr
      · rw [up_ne hv] at hq
        have h3 := h.i3 v q hq
        simp only [up_ne hv]
        by_cases hu : q.2.1 = p.2.2.1
        · rw [hu, up_same]
          have := h.i6 v
          omega
        · rw [up_ne hu]; exact h3
    · intro q hq hrq
      dsimp only at hrq ⊢
      have hu : q.2.1 ≠ p.2.2.1 := fun e => by rw [e, up_same] at hrq; omega
      simp only [up_ne hu] at hrq ⊢
      have := hmono q.2.2.1
      rcases List.mem_append.1 hq with hq | hq
      · have := h.i4d q hq hrq
        omega
      · simp only [List.mem_singleton] at hq
        subst hq
        rw [up_same]
        exact Int.le_refl _
    · intro q hq hrq
      dsimp only at hrq ⊢
      have hu : q.2.1 ≠ p.2.2.1 := fun e => by rw [e, up_same] at hrq; omega
      simp only [up_ne hu] at hrq ⊢
      have := hmono q.2.2.1
      have := h.i4l q (by simp [hq]) hrq
      omega
    · intro v c n hb
      dsimp only at hb
      rcases cyc (fun v q hq => (h.i2 v q hq).2.2) hne hc hb with h1 | ⟨h1, h2, h3⟩
      · omega
      · by_cases hv : v = p.2.2.1
        · exact (h2 hv).elim
        · exact h.i5 v c n (h3 hv)
    · intro v
      by_cases hv : v = p.2.2.1
      · subst hv; simp only [up_same]; exact Nat.le_refl _
      · simp only [up_ne hv]; exact h.i6 v
    · intro v
      exact Int.le_trans (hmono v) (h.i7 v)
  · rw [if_neg hc]
    have hle : s.f p.2.2.1 ≤ s.f p.2.1 + p.2.2.2 := by
      have h7 := h.i7 p.2.1
      unfold cnd at hc
      have : s.f p.2.1 ≠ NEV := by unfold NEV; omega
      simp only [not_and, Int.not_lt] at hc
      exact hc this
    refine ⟨h.i1, fun v q hq => ?_, h.i3, fun q hq hrq => ?_, fun q hq => h.i4l q (by simp [hq]), h.i5, h.i6, h.i7⟩
    · obtain ⟨h1, h2, h3⟩ := h.i2 v q hq
      exact ⟨by simp only [List.mem_append, List.mem_cons, List.not_mem_nil, or_false] at h1 ⊢; rcases h1 with h1 | h1 | h1 <;> simp [h1], h2, h3⟩
    · rcases List.mem_append.1 hq with hq | hq
      · exact h.i4d q hq hrq
      · simp only [List.mem_singleton] at hq
        subst hq
        exact hle

theorem Inv.go {N : Int → Prop} {K : Nat} (hK : 1 ≤ K) : ∀ (left done : List Rl) (s : St), (∀ p ∈ left, p.2.1 ≠ p.2.2.1) → Inv N K done left s → Inv N K (done ++ left) [] (left.foldl (BF.rel K) s)
  | [], done, s, _, h => by simpa using h
  | p :: left, done, s, hne, h => by
    have h1 := h.rel hK (hne p (by simp))
    have := Inv.go hK left (done ++ [p]) _ (fun q hq => hne q (by simp [hq])) h1
    simpa using this
theorem Inv.pass {N : Int → Prop} {K : Nat} {R : List Rl} {s : St} (hne : ∀ p ∈ R, p.2.1 ≠ p.2.2.1) (h : Inv N K R [] s) : Inv N (K + 1) R [] (pass R (K + 1) s) := by
  have h0 : Inv N (K + 1) [] R s := ⟨h.i1, by simpa using h.i2, h.i3, by simp, fun q hq hr => h.i4d q hq (by omega), h.i5, fun v => Nat.le_succ_of_le (h.i6 v), h.i7⟩
  have := Inv.go (by omega) R [] s hne h0
  simpa [BF.pass] using this
theorem Inv.zero {N : Int → Prop} {R : List Rl} : Inv N 0 R [] start := by
  refine ⟨fun v => by simp [start], fun v p h => by simp [start] at h, fun v p h => by simp [start] at h, fun q _ h => by omega, by simp, fun v c n h => ?_, fun v => by simp [start], fun v => by simp [start]⟩
  obtain ⟨p, hp⟩ := h.start
  simp [start] at hp

/-- Round after round. -/
def passes (R : List Rl) : Nat → St
  | 0 => start
  | K + 1 => pass R (K + 1) (passes R K)
theorem Inv.passes {N : Int → Prop} {R : List Rl} (hne : ∀ p ∈ R, p.2.1 ≠ p.2.2.1) : ∀ K, Inv N K R [] (passes R K)
  | 0 => Inv.zero
  | K + 1 => (Inv.passes hne K).pass hne

/-- What was changed in a round bears its number. -/
theorem pass_same {K : Nat} {v : Int} : ∀ (R : List Rl) (s : St), (R.foldl (rel K) s).r v ≠ K → (R.foldl (rel K) s).f v = s.f v ∧ (R.foldl (rel K) s).r v = s.r v ∧ (R.foldl (rel K) s).b v = s.b v
  | [], s, _ => ⟨rfl, rfl, rfl⟩
  | p :: R, s, h => by
    simp only [List.foldl_cons] at h ⊢
    have ih := pass_same (K := K) R (rel K s p) h
    unfold rel at ih h ⊢
    by_cases hc : cnd s.f p
    · simp only [if_pos hc] at ih h ⊢
      by_cases hv : v = p.2.2.1
      · subst hv
        simp only [up_same] at ih
        exact (h ih.2.1).elim
      · simpa only [up_ne hv] using ih
    · simp only [if_neg hc] at ih h ⊢
      exact ih
theorem pass_le {K : Nat} {v : Int} : ∀ (R : List Rl) (s : St), (R.foldl (rel K) s).f v ≤ s.f v ∧ (s.r v ≠ K → (R.foldl (rel K) s).r v = K → (R.foldl (rel K) s).f v < s.f v)
  | [], s => ⟨Int.le_refl _, fun h k => (h k).elim⟩
  | p :: R, s => by
    simp only [List.foldl_cons]
    have ih := pass_le (K := K) (v := v) R (rel K s p)
    unfold rel at ih ⊢
    by_cases hc : cnd s.f p
    · simp only [if_pos hc] at ih ⊢
      have hlt := hc.2
      by_cases hv : v = p.2.2.1
      · subst hv
        simp only [up_same] at ih
        exact ⟨by omega, fun _ _ => by omega⟩
      · simpa only [up_ne hv] using ih
    · simp only [if_neg hc] at ih ⊢
      exact ih

/-- A chain of as many steps as the round's number. -/
theorem Inv.chain {N : Int → Prop} {K : Nat} {done left : List Rl} {s : St} (h : Inv N K done left s) : ∀ (n : Nat) (v : Int), n + 1 ≤ s.r v → ∃ u c, Back s.b v u c (n + 1) ∧ s.r v ≤ s.r u + (n + 1)
  | n, v, hr => by
    have hb : s.b v ≠ none := fun e => by have := (h.i1 v).1 e; omega
    obtain ⟨p, hp⟩ := Option.ne_none_iff_exists'.1 hb
    have h3 := h.i3 v p hp
    cases n with
    | zero => exact ⟨_, _, .one hp, h3⟩
    | succ n =>
      obtain ⟨u, c, h4, h5⟩ := Inv.chain h n p.2.1 (by omega)
      exact ⟨u, _, .more hp h4, by omega⟩
end BF
end Go.Proofs.Ythppacohnciinaa
