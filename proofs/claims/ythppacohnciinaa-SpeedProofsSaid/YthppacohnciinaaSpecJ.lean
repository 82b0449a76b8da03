/-
  The cheapest ways between all turns, a turn after the other, in plain words. No condition.
-/
import Derived.Test.YthppacohnciinaaSpecI
namespace Go.Proofs.Ythppacohnciinaa
namespace FW
def NV : Int := 1099511627776
abbrev Mx := Int → Int → Int
def mm (c s : Int) : Int := if (if s < c then s else c) > -NV then (if s < c then s else c) else -NV
/-- What the pair (i, k) becomes, over the turn h. -/
def nw (g : Mx) (h i k : Int) : Int := if g i h < NV ∧ g h k < NV then mm (g i k) (g i h + g h k) else g i k
def up1 (h i k : Int) (g : Mx) : Mx := fun i' k' => if i' = i ∧ k' = k then nw g h i k else g i' k'
def rowF (h i : Int) (ks : List Int) (g : Mx) : Mx := ks.foldl (fun g k => up1 h i k g) g
def phF (h : Int) (ns is : List Int) (g : Mx) : Mx := is.foldl (fun g i => rowF h i ns g) g
def fwF (ns hs : List Int) (g : Mx) : Mx := hs.foldl (fun g h => phF h ns ns g) g

def Rg (g : Mx) : Prop := ∀ i k, -NV ≤ g i k ∧ g i k ≤ NV
theorem mm_bd {c s : Int} (hc : -NV ≤ c ∧ c ≤ NV) : -NV ≤ mm c s ∧ mm c s ≤ c := by
  unfold mm
  split <;> split <;> omega
theorem nw_bd {g : Mx} (hg : Rg g) (h i k : Int) : -NV ≤ nw g h i k ∧ nw g h i k ≤ g i k := by
  unfold nw
  split
  · exact mm_bd (hg i k)
  · exact ⟨(hg i k).1, Int.le_refl _⟩
theorem up1_le {g : Mx} (hg : Rg g) (h i k : Int) : Rg (up1 h i k g) ∧ ∀ a b, up1 h i k g a b ≤ g a b := by
  have h1 := nw_bd hg h i k
  refine ⟨fun a b => ?_, fun a b => ?_⟩
  · unfold up1
    split
    · have := (hg i k).2; omega
    · exact hg a b
  · unfold up1
    split
    · rename_i e; rw [e.1, e.2]; exact h1.2
    · exact Int.le_refl _
/-- A fold of steps keeps what each step keeps, and falls. -/
theorem fold_le {β : Type} {step : Mx → β → Mx} (hs : ∀ g b, Rg g → Rg (step g b) ∧ ∀ i k, step g b i k ≤ g i k) : ∀ (l : List β) (g : Mx), Rg g → Rg (l.foldl step g) ∧ ∀ i k, l.foldl step g i k ≤ g i k
  | [], g, hg => ⟨hg, fun _ _ => Int.le_refl _⟩
  | b :: l, g, hg => by
    obtain ⟨h1, h2⟩ := hs g b hg
    obtain ⟨h3, h4⟩ := fold_le hs l (step g b) h1
    exact ⟨h3, fun i k => Int.le_trans (h4 i k) (h2 i k)⟩
theorem rowF_le {h i : Int} (ks : List Int) {g : Mx} (hg : Rg g) : Rg (rowF h i ks g) ∧ ∀ a b, rowF h i ks g a b ≤ g a b := fold_le (fun _ k hg => up1_le hg h i k) ks g hg
theorem phF_le {h : Int} (ns is : List Int) {g : Mx} (hg : Rg g) : Rg (phF h ns is g) ∧ ∀ a b, phF h ns is g a b ≤ g a b := fold_le (fun _ _ hg => rowF_le ns hg) is g hg
theorem fwF_le (ns hs : List Int) {g : Mx} (hg : Rg g) : Rg (fwF ns hs g) ∧ ∀ a b, fwF ns hs g a b ≤ g a b := fold_le (fun _ _ hg => phF_le ns ns hg) hs g hg
/-- A fold of steps keeps a property that each step keeps. -/
theorem fold_keep {β : Type} {step : Mx → β → Mx} {Pr : Mx → Prop} (hs : ∀ g b, Pr g → Pr (step g b)) : ∀ (l : List β) (g : Mx), Pr g → Pr (l.foldl step g)
  | [], _, hg => hg
  | b :: l, g, hg => fold_keep hs l (step g b) (hs g b hg)

/-! ### A phase, where nothing becomes less at its own turn -/
section
variable {g : Mx} {h : Int}
theorem nw_col (hg : Rg g) (h0 : g h h = 0) (i : Int) : nw g h i h = g i h := by
  unfold nw mm
  have := hg i h
  rw [h0]
  split
  · split <;> split <;> omega
  · rfl
theorem nw_row (hg : Rg g) (h0 : g h h = 0) (k : Int) : nw g h h k = g h k := by
  unfold nw mm
  have := hg h k
  rw [h0]
  split
  · split <;> split <;> omega
  · rfl
/-- Some pairs are done. -/
def Part (g : Mx) (h : Int) (P : Int → Int → Prop) (g' : Mx) : Prop := ∀ i k, (P i k → g' i k = nw g h i k) ∧ (¬ P i k → g' i k = g i k)
theorem Part.fix (hg : Rg g) (h0 : g h h = 0) {P : Int → Int → Prop} {g' : Mx} (hp : Part g h P g') : (∀ i, g' i h = g i h) ∧ ∀ k, g' h k = g h k := by
  refine ⟨fun i => ?_, fun k => ?_⟩
  · by_cases hc : P i h
    · rw [(hp i h).1 hc, nw_col hg h0]
    · exact (hp i h).2 hc
  · by_cases hc : P h k
    · rw [(hp h k).1 hc, nw_row hg h0]
    · exact (hp h k).2 hc
theorem Part.up1 (hg : Rg g) (h0 : g h h = 0) {P : Int → Int → Prop} {g' : Mx} (hp : Part g h P g') {i k : Int} (hn : ¬ P i k) : Part g h (fun a b => P a b ∨ (a = i ∧ b = k)) (up1 h i k g') := by
  obtain ⟨h1, h2⟩ := hp.fix hg h0
  have e : nw g' h i k = nw g h i k := by
    unfold nw
    rw [h1 i, h2 k, (hp i k).2 hn]
  intro a b
  unfold FW.up1
  by_cases hab : a = i ∧ b = k
  · rw [if_pos hab]
    refine ⟨fun _ => by rw [e, hab.1, hab.2], fun hno => (hno (.inr hab)).elim⟩
  · rw [if_neg hab]
    refine ⟨fun hc => ?_, fun hc => (hp a b).2 fun hc2 => hc (.inl hc2)⟩
    rcases hc with hc | hc
    · exact (hp a b).1 hc
    · exact (hab hc).elim
theorem Part.row (hg : Rg g) (h0 : g h h = 0) {i : Int} : ∀ (ks : List Int) (P : Int → Int → Prop) (g' : Mx), ks.Nodup → (∀ k ∈ ks, ¬ P i k) → Part g h P g' → Part g h (fun a b => P a b ∨ (a = i ∧ b ∈ ks)) (rowF h i ks g')
  | [], P, g', _, _, hp => by simpa [rowF] using hp
  | k :: ks, P, g', hn, hk, hp => by
    simp only [List.nodup_cons] at hn
    have h1 := hp.up1 hg h0 (hk k (by simp))
    have h2 := Part.row hg h0 ks _ _ hn.2 (fun q hq hc => by
      rcases hc with hc | ⟨_, hc⟩
      · exact hk q (by simp [hq]) hc
      · exact hn.1 (hc ▸ hq)) h1
    have e : (fun a b => (P a b ∨ (a = i ∧ b = k)) ∨ (a = i ∧ b ∈ ks)) = fun a b => P a b ∨ (a = i ∧ b ∈ k :: ks) := by
      funext a b
      simp only [List.mem_cons, eq_iff_iff]
      constructor
      · rintro ((h | ⟨h1, h2⟩) | ⟨h1, h2⟩)
        · exact .inl h
        · exact .inr ⟨h1, .inl h2⟩
        · exact .inr ⟨h1, .inr h2⟩
      · rintro (h | ⟨h1, h2 | h2⟩)
        · exact .inl (.inl h)
        · exact .inl (.inr ⟨h1, h2⟩)
        · exact .inr ⟨h1, h2⟩
    rw [e] at h2
    exact h2
theorem Part.rows (hg : Rg g) (h0 : g h h = 0) {ns : List Int} (hns : ns.Nodup) : ∀ (is : List Int) (P : Int → Int → Prop) (g' : Mx), is.Nodup → (∀ i ∈ is, ∀ k, ¬ P i k) → Part g h P g' → Part g h (fun a b => P a b ∨ (a ∈ is ∧ b ∈ ns)) (phF h ns is g')
  | [], P, g', _, _, hp => by simpa [phF] using hp
  | i :: is, P, g', hn, hi, hp => by
    simp only [List.nodup_cons] at hn
    have h1 := Part.row hg h0 (i := i) ns P g' hns (fun k _ => hi i (by simp) k) hp
    have h2 := Part.rows hg h0 hns is _ _ hn.2 (fun j hj k hc => by
      rcases hc with hc | ⟨hc, _⟩
      · exact hi j (by simp [hj]) k hc
      · exact hn.1 (hc ▸ hj)) h1
    have e : (fun a b => (P a b ∨ (a = i ∧ b ∈ ns)) ∨ (a ∈ is ∧ b ∈ ns)) = fun a b => P a b ∨ (a ∈ i :: is ∧ b ∈ ns) := by
      funext a b
      simp only [List.mem_cons, eq_iff_iff]
      constructor
      · rintro ((h | ⟨h1, h2⟩) | ⟨h1, h2⟩)
        · exact .inl h
        · exact .inr ⟨.inl h1, h2⟩
        · exact .inr ⟨.inr h1, h2⟩
      · rintro (h | ⟨h1 | h1, h2⟩)
        · exact .inl (.inl h)
        · exact .inl (.inr ⟨h1, h2⟩)
        · exact .inr ⟨h1, h2⟩
    rw [e] at h2
    exact h2
theorem ph_eq (hg : Rg g) (h0 : g h h = 0) {ns : List Int} (hns : ns.Nodup) {i k : Int} (hi : i ∈ ns) (hk : k ∈ ns) : phF h ns ns g i k = nw g h i k :=
  ((Part.rows hg h0 hns ns (fun _ _ => False) g hns (by simp) (fun i k => ⟨fun h => h.elim, fun _ => rfl⟩)) i k).1 (.inr ⟨hi, hk⟩)
end

/-! ### Ways over some turns -/
/-- A way of at least one rule, between whose ends there are turns below m alone. -/
inductive PI (R : List RR) (m a : Int) : Int → Int → Prop
  | one {r : RR} (hr : r ∈ R) (ha : r.1 = a) : PI R m a r.2.1 r.2.2
  | snoc {u c : Int} {r : RR} (h : PI R m a u c) (hu : u < m) (hr : r ∈ R) (he : r.1 = u) : PI R m a r.2.1 (c + r.2.2)
theorem PI.split {R : List RR} {m a : Int} (hloop : ∀ c, PI R m m m c → 0 ≤ c) {t c : Int} (h : PI R (m + 1) a t c) : PI R m a t c ∨ ∃ c1 c2, PI R m a m c1 ∧ PI R m m t c2 ∧ c1 + c2 ≤ c := by
  induction h with
  | one hr ha => exact .inl (.one hr ha)
  | @snoc u c r h hu hr he ih =>
    by_cases hum : u = m
    · subst hum
      rcases ih with ih | ⟨c1, c2, h1, h2, h3⟩
      · exact .inr ⟨c, r.2.2, ih, .one hr he, Int.le_refl _⟩
      · have := hloop c2 h2
        exact .inr ⟨c1, r.2.2, h1, .one hr he, by omega⟩
    · have hum : u < m := by omega
      rcases ih with ih | ⟨c1, c2, h1, h2, h3⟩
      · exact .inl (.snoc ih hum hr he)
      · exact .inr ⟨c1, c2 + r.2.2, h1, .snoc h2 hum hr he, by omega⟩
theorem PI.pc {R : List RR} {m a t c : Int} (h : PI R m a t c) : PC R a t c := by
  induction h with
  | one hr ha => subst ha; exact PC.one hr
  | snoc _ _ hr he ih => exact .snoc ih hr he
theorem PI.of_pc {R : List RR} {n a t c : Int} (hn : ∀ r ∈ R, r.2.1 < n) (h : PC R a t c) : (t = a ∧ c = 0) ∨ PI R n a t c := by
  induction h with
  | nil => exact .inl ⟨rfl, rfl⟩
  | @snoc u c r h hr hu ih =>
    right
    rcases ih with ⟨rfl, rfl⟩ | ih
    · rw [Int.zero_add]
      exact .one hr hu
    · refine .snoc ih ?_ hr hu
      cases ih with
      | one hr' _ => exact hn _ hr'
      | snoc _ _ hr' _ => exact hn _ hr'

/-! ### All phases -/
def In (n : Int) (i : Int) : Prop := 0 ≤ i ∧ i < n
structure Ok (R : List RR) (n m b : Int) (g : Mx) : Prop where
  rg : Rg g
  dg : ∀ i, In n i → g i i = 0
  bd : ∀ i k, In n i → In n k → g i k = NV ∨ (-b ≤ g i k ∧ g i k ≤ b)
  un : ∀ a t c, In n a → In n t → PI R m a t c → g a t ≤ c ∧ g a t < NV
  so : ∀ i k, In n i → In n k → g i k = NV ∨ PC R i k (g i k)
theorem Ok.ph {R : List RR} {n m b : Int} {g : Mx} {ns : List Int} (hns : ns.Nodup) (hm : ∀ i, i ∈ ns ↔ In n i) (h : Ok R n m b g) (hmn : In n m) (hb : 0 ≤ b) (hb2 : 2 * b < NV) (hd : ∀ i, In n i → 0 ≤ phF m ns ns g i i) : Ok R n (m + 1) (2 * b) (phF m ns ns g) := by
  have h0 := h.dg m hmn
  have e : ∀ i k, In n i → In n k → phF m ns ns g i k = nw g m i k := fun i k hi hk => ph_eq h.rg h0 hns ((hm i).2 hi) ((hm k).2 hk)
  obtain ⟨h1, h2⟩ := phF_le (h := m) ns ns h.rg
  have hmin : ∀ i k, In n i → In n k → (g i m < NV ∧ g m k < NV → (nw g m i k = g i k ∨ nw g m i k = g i m + g m k) ∧ nw g m i k ≤ g i k ∧ nw g m i k ≤ g i m + g m k) := fun i k hi hk hlt => by
    have b1 := h.bd i m hi hmn
    have b2 := h.bd m k hmn hk
    have b3 := h.rg i k
    unfold nw mm
    rw [if_pos hlt]
    split <;> split <;> first | omega | (constructor <;> omega)
  refine ⟨h1, fun i hi => ?_, fun i k hi hk => ?_, fun a t c ha ht hp => ?_, fun i k hi hk => ?_⟩
  · have := h2 i i
    have := hd i hi
    have := h.dg i hi
    omega
  · rw [e i k hi hk]
    have b0 := h.bd i k hi hk
    by_cases hlt : g i m < NV ∧ g m k < NV
    · have b1 := h.bd i m hi hmn
      have b2 := h.bd m k hmn hk
      obtain ⟨q1, q2, q3⟩ := hmin i k hi hk hlt
      rcases q1 with q1 | q1 <;> omega
    · unfold nw
      rw [if_neg hlt]
      omega
  · rw [e a t ha ht]
    have key : PI R m a t c ∨ ∃ c1 c2, PI R m a m c1 ∧ PI R m m t c2 ∧ c1 + c2 ≤ c := hp.split fun c hc => by
      have := (h.un m m c hmn hmn hc).1
      omega
    have hle : nw g m a t ≤ g a t := (nw_bd h.rg m a t).2
    rcases key with k1 | ⟨c1, c2, k1, k2, k3⟩
    · have := h.un a t c ha ht k1
      omega
    · have u1 := h.un a m c1 ha hmn k1
      have u2 := h.un m t c2 hmn ht k2
      have b1 := h.bd a m ha hmn
      have b2 := h.bd m t hmn ht
      obtain ⟨_, _, q3⟩ := hmin a t ha ht ⟨u1.2, u2.2⟩
      omega
  · rw [e i k hi hk]
    by_cases hlt : g i m < NV ∧ g m k < NV
    · obtain ⟨q1, _, _⟩ := hmin i k hi hk hlt
      rcases q1 with q1 | q1
      · rw [q1]; exact h.so i k hi hk
      · right
        rw [q1]
        have s1 : PC R i m (g i m) := by
          rcases h.so i m hi hmn with s | s
          · omega
          · exact s
        have s2 : PC R m k (g m k) := by
          rcases h.so m k hmn hk with s | s
          · omega
          · exact s
        exact s1.trans s2
    · unfold nw
      rw [if_neg hlt]
      exact h.so i k hi hk
/-- All phases from m on. -/
theorem Ok.go {R : List RR} {n : Int} {ns : List Int} (hns : ns.Nodup) (hm : ∀ i, i ∈ ns ↔ In n i) (hn : n ≤ 21) : ∀ (hs : List Int) (m : Nat) (g : Mx), hs = (List.range' m hs.length).map (fun j : Nat => (j : Int)) → (m : Int) + hs.length = n → Ok R n m (100000 * 2 ^ m) g →
    (∀ i, In n i → 0 ≤ fwF ns hs g i i) → Ok R n n (100000 * 2 ^ (m + hs.length)) (fwF ns hs g)
  | [], m, g, _, hl, h, _ => by
    have e : (m : Int) = n := by simpa using hl
    have h' : Ok R n n (100000 * 2 ^ m) g := by
      have := h
      rw [e] at this
      exact this
    simpa [fwF] using h'
  | q :: hs, m, g, he, hl, h, hd => by
    simp only [List.length_cons, List.range'_succ, List.map_cons, List.cons.injEq] at he hl
    obtain ⟨rfl, he⟩ := he
    have hpow : (2 : Int) ^ m ≤ 2 ^ 20 := by
      have : m ≤ 20 := by omega
      have h2 := Nat.pow_le_pow_right (show 0 < 2 by decide) this
      have h3 : ((2 ^ m : Nat) : Int) ≤ ((2 ^ 20 : Nat) : Int) := Int.ofNat_le.2 h2
      simpa using h3
    have hpos : (0 : Int) ≤ 2 ^ m := by
      have : ((2 ^ m : Nat) : Int) ≥ 0 := Int.natCast_nonneg _
      simpa using this
    have hle := fwF_le ns hs (phF_le (h := (m : Int)) ns ns h.rg).1
    have h1 := h.ph (m := (m : Int)) hns hm (show In n (m : Int) from ⟨by omega, by omega⟩) (by omega) (by unfold NV; omega) (fun i hi => Int.le_trans (hd i hi) (hle.2 i i))
    have e : (2 : Int) * (100000 * 2 ^ m) = 100000 * 2 ^ (m + 1) := by rw [Int.pow_succ]; omega
    rw [e] at h1
    have h2 := Ok.go hns hm hn hs (m + 1) (phF m ns ns g) he (by omega) h1 hd
    have e2 : m + 1 + hs.length = m + ((m : Int) :: hs).length := by simp only [List.length_cons]; omega
    rw [e2] at h2
    exact h2
/-- Where speeds are true, what stands is what some way costs. -/
def So (x : Int × List RR) (g : Mx) : Prop := ∀ i k, (0 ≤ i ∧ i ≤ x.1) → (0 ≤ k ∧ k ≤ x.1) → g i k = NV ∨ PC (whole x) i k (g i k)
theorem So.up1 {x : Int × List RR} (hx : csheet x = 0) (hP : Pot x) {g : Mx} (h : So x g) {q i k : Int} (hq : 0 ≤ q ∧ q ≤ x.1) (hi : 0 ≤ i ∧ i ≤ x.1) (hk : 0 ≤ k ∧ k ≤ x.1) : So x (up1 q i k g) := by
  intro a b ha hb
  unfold FW.up1
  split
  · rename_i e
    rw [e.1, e.2]
    unfold nw
    split
    · rename_i hlt
      have s1 : PC (whole x) i q (g i q) := by
        rcases h i q hi hq with s | s
        · omega
        · exact s
      have s2 : PC (whole x) q k (g q k) := by
        rcases h q k hq hk with s | s
        · omega
        · exact s
      have s3 := s1.trans s2
      have l3 := s3.low hx hP hi.1 hi.2
      unfold mm
      by_cases hc : g i q + g q k < g i k
      · rw [if_pos hc, if_pos (by unfold NV; omega)]
        exact .inr s3
      · rw [if_neg hc]
        rcases h i k hi hk with s | s
        · rw [s, if_pos (by unfold NV; omega)]
          exact .inl rfl
        · have := s.low hx hP hi.1 hi.2
          rw [if_pos (by unfold NV; omega)]
          exact .inr s
    · exact h i k hi hk
  · exact h a b ha hb
theorem So.all {x : Int × List RR} (hx : csheet x = 0) (hP : Pot x) {ns : List Int} (hm : ∀ i ∈ ns, 0 ≤ i ∧ i ≤ x.1) {g : Mx} (h : So x g) : So x (fwF ns ns g) := by
  have key : ∀ {β : Type} {step : Mx → β → Mx} (l : List β), (∀ g, ∀ b ∈ l, So x g → So x (step g b)) → ∀ g, So x g → So x (l.foldl step g) := by
    intro β step l
    induction l with
    | nil => intro _ g hg; exact hg
    | cons b l ih =>
      intro hs g hg
      exact ih (fun g c hc => hs g c (by simp [hc])) _ (hs g b (by simp) hg)
  refine key ns (fun g q hq hg => ?_) g h
  refine key ns (fun g i hi hg => ?_) g hg
  exact key ns (fun g k hk hg => hg.up1 hx hP (hm q hq) (hm i hi) (hm k hk)) g hg
end FW
end Go.Proofs.Ythppacohnciinaa
