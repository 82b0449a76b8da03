/-
  Laws in plain Lean, with no program in sight. Condition: each section says its own.
-/
import Derived.Test.YtboefnpnoojfpaaSpecX
set_option linter.unusedVariables false
set_option linter.unusedSimpArgs false
/-! Fractions: what of, over, less and whole return. Condition: the numbers are small, and there are enough rounds. -/
namespace Go.Proofs.Ytboefnpnoojfpaa
open Go Go.Md Go.RowKit

theorem rem_natc {a b : Nat} (hb : b ≠ 0) : rem (a : Int) (b : Int) = some ((a % b : Nat) : Int) := by
  unfold rem
  rw [if_neg (by omega), Int.tmod_eq_emod_of_nonneg (by omega)]
  rfl
theorem gcd_loop {F : Nat} : ∀ (m a b : Nat), b ≤ a → a * b < 2 ^ m → bath_common__int64_l1 F (m + 2) (a : Int) (b : Int) = some ((Nat.gcd a b : Nat) : Int)
  | 0, a, b, h, hp => by
    have : b = 0 := by
      rcases Nat.eq_zero_or_pos b with h1 | h1
      · exact h1
      · have := Nat.mul_le_mul (Nat.le_trans h1 h) h1
        omega
    subst this
    simp [bath_common__int64_l1]
  | m + 1, a, b, h, hp => by
    rcases Nat.eq_zero_or_pos b with h1 | h1
    · subst h1
      simp [bath_common__int64_l1]
    · have hlt := Nat.mod_lt a h1
      have h2 : 2 * (a % b) ≤ a := by
        have h3 := Nat.div_add_mod a b
        have h4 : 1 ≤ a / b := (Nat.le_div_iff_mul_le h1).2 (by omega)
        have h5 := Nat.mul_le_mul_left b h4
        omega
      have h6 : b * (a % b) < 2 ^ m := by
        have h7 := Nat.mul_le_mul_left b h2
        have h8 : b * (2 * (a % b)) = 2 * (b * (a % b)) := by rw [Nat.mul_left_comm]
        rw [Nat.pow_succ] at hp
        rw [Nat.mul_comm a b] at hp
        omega
      have hne : b ≠ 0 := by omega
      conv => lhs; unfold bath_common__int64_l1
      rw [if_pos (by simp; omega), rem_natc hne]
      simp only [Option.bind_eq_bind, Option.bind_some]
      rw [gcd_loop m b (a % b) (by omega) h6, Nat.gcd_comm b, ← Nat.gcd_rec, Nat.gcd_comm]
abbrev B62 : Int := 4611686018427387904
theorem abs_eq {a : Int} (h : -B62 ≤ a ∧ a ≤ B62) : (if a < w64 (0 - a) then w64 (0 - a) else a) = (a.natAbs : Int) := by
  rw [w64_in (by unfold B62 at h; omega)]
  split <;> omega
theorem common_eq {F : Nat} {a b : Int} (hF : 1000000 < F) (ha : -B62 ≤ a ∧ a ≤ B62) (hb : -B62 ≤ b ∧ b ≤ B62) : bath_common__int64 F a b = some ((Int.gcd a b : Nat) : Int) := by
  unfold bath_common__int64
  rw [abs_eq ha, abs_eq hb]
  obtain ⟨f, rfl⟩ : ∃ f, F = f + 3 := ⟨F - 3, by omega⟩
  have h1 : a.natAbs ≤ 4611686018427387904 := by unfold B62 at ha; omega
  have h2 : b.natAbs ≤ 4611686018427387904 := by unfold B62 at hb; omega
  have hp : a.natAbs * b.natAbs < 2 ^ f := Nat.lt_of_le_of_lt (Nat.mul_le_mul h1 h2) (Nat.lt_of_lt_of_le (by decide : 4611686018427387904 * 4611686018427387904 < 2 ^ 125) (Nat.pow_le_pow_right (by omega) (by omega)))
  have e : bath_common__int64_l1 (f + 3) (f + 3) (a.natAbs : Int) (b.natAbs : Int) = some ((Nat.gcd a.natAbs b.natAbs : Nat) : Int) := by
    rcases Nat.lt_or_ge a.natAbs b.natAbs with h | h
    · have hne : b.natAbs ≠ 0 := by omega
      conv => lhs; unfold bath_common__int64_l1
      rw [if_pos (by simp; omega), rem_natc hne, Nat.mod_eq_of_lt h]
      simp only [Option.bind_eq_bind, Option.bind_some]
      rw [gcd_loop f _ _ (by omega) (by rw [Nat.mul_comm]; exact hp), Nat.gcd_comm]
    · exact gcd_loop (f + 1) _ _ h (Nat.lt_trans hp (by rw [Nat.pow_succ]; have := Nat.pos_of_ne_zero (n := 2 ^ f) (by simp); omega))
  rw [e]
  rfl
theorem quo_dvd {a g q : Int} (hg : 0 < g) (hq : a = q * g) (ha : -B62 ≤ a ∧ a ≤ B62) : quo a g = some q := by
  unfold quo
  rw [if_neg (by omega), hq, Int.mul_tdiv_cancel _ (by omega), w64_in]
  unfold B62 at ha
  rcases Int.lt_or_le q 0 with h | h
  · have := Int.mul_le_mul_of_nonpos_left (by omega : q ≤ 0) (by omega : 1 ≤ g)
    omega
  · have := Int.mul_le_mul_of_nonneg_left (by omega : 1 ≤ g) h
    omega
/-- A fraction in least terms. -/
structure Rd (a : Rt) : Prop where
  pos : 0 < a.2
  gcd : Int.gcd a.1 a.2 = 1
def val (a : Rt) : Rat := (a.1 : Rat) / (a.2 : Rat)
theorem ne0 {n : Int} (h : n ≠ 0) : (n : Rat) ≠ 0 := by exact_mod_cast h
theorem val_mul {a : Rt} (h : 0 < a.2) : val a * (a.2 : Rat) = (a.1 : Rat) := by
  have := ne0 (show a.2 ≠ 0 by omega)
  unfold val
  grind
theorem val_zero : val (0, 1) = 0 := by unfold val; grind
theorem Rd.zero : Rd (0, 1) := ⟨by simp, rfl⟩
theorem Rd.val0 {a : Rt} (h : Rd a) : val a = 0 ↔ a = (0, 1) := by
  constructor
  · intro e
    have h1 := val_mul h.pos
    rw [e] at h1
    have h2 : a.1 = 0 := by
      have : (a.1 : Rat) = ((0 : Int) : Rat) := by rw [← h1]; grind
      exact_mod_cast this
    have h3 := h.gcd
    rw [h2, Int.gcd_zero_left] at h3
    have h4 := h.pos
    obtain ⟨x, y⟩ := a
    simp only at h2 h3 h4
    subst h2
    rw [show y = 1 by omega]
  · rintro rfl
    exact val_zero
theorem of_eq {F : Nat} {n d : Int} (hF : 1000000 < F) (hn : -B62 ≤ n ∧ n ≤ B62) (hd : -B62 ≤ d ∧ d ≤ B62) (h0 : d ≠ 0) : ∃ r, bath_of F n d = some r ∧ Rd r ∧ val r = (n : Rat) / (d : Rat) ∧ r.1.natAbs ≤ n.natAbs ∧ r.2.natAbs ≤ d.natAbs := by
  have key : ∀ n d : Int, (-B62 ≤ n ∧ n ≤ B62) → (-B62 ≤ d ∧ d ≤ B62) → 0 < d → ∃ r : Rt, ((bath_common__int64 F n d).bind fun x3 => (quo n x3).bind fun x4 => (quo d x3).bind fun x5 => some (x4, x5)) = some r ∧ Rd r ∧ val r = (n : Rat) / (d : Rat) ∧ r.1.natAbs ≤ n.natAbs ∧ r.2.natAbs ≤ d.natAbs := by
    intro n d hn hd h0
    rw [common_eq hF hn hd]
    have hg : 0 < (Int.gcd n d : Int) := by
      have := Int.gcd_pos_of_ne_zero_right n (show d ≠ 0 by omega)
      omega
    obtain ⟨p, hp⟩ := Int.gcd_dvd_left n d
    obtain ⟨q, hq⟩ := Int.gcd_dvd_right n d
    rw [Int.mul_comm] at hp hq
    generalize hG : ((Int.gcd n d : Nat) : Int) = G at *
    simp only [Option.bind_some, quo_dvd hg hp hn, quo_dvd hg hq hd]
    have hqp : 0 < q := by
      rcases Int.lt_or_le 0 q with h | h
      · exact h
      · have := Int.mul_le_mul_of_nonneg_right h (by omega : 0 ≤ G)
        omega
    refine ⟨(p, q), rfl, ⟨hqp, ?_⟩, ?_, ?_, ?_⟩
    · have h1 : Int.gcd (p * G) (q * G) = Int.gcd p q * G.natAbs := Int.gcd_mul_right ..
      rw [← hp, ← hq] at h1
      have h2 : G.natAbs = Int.gcd n d := by omega
      rw [h2] at h1
      have h3 : 0 < Int.gcd n d := by omega
      have h4 : 1 * Int.gcd n d = Int.gcd p q * Int.gcd n d := by omega
      exact (Nat.eq_of_mul_eq_mul_right h3 h4).symm
    · have g0 := ne0 (show G ≠ 0 by omega)
      have q0 := ne0 (show q ≠ 0 by omega)
      have e1 : (n : Rat) = (p : Rat) * (G : Rat) := by rw [hp]; push_cast; rfl
      have e2 : (d : Rat) = (q : Rat) * (G : Rat) := by rw [hq]; push_cast; rfl
      unfold val
      rw [e1, e2]
      simp only
      grind
    · rw [hp, Int.natAbs_mul]
      exact Nat.le_mul_of_pos_right _ (by omega)
    · rw [hq, Int.natAbs_mul]
      exact Nat.le_mul_of_pos_right _ (by omega)
  unfold bath_of
  by_cases h : d < 0
  · have e1 : w64 (0 - n) = -n := by rw [w64_in (by unfold B62 at hn; omega)]; omega
    have e2 : w64 (0 - d) = -d := by rw [w64_in (by unfold B62 at hd; omega)]; omega
    rw [if_pos (by simpa using h), e1, e2]
    obtain ⟨r, h1, h2, h3, h4, h5⟩ := key (-n) (-d) (by omega) (by omega) (by omega)
    refine ⟨r, h1, h2, ?_, by omega, by omega⟩
    rw [h3]
    have := ne0 h0
    push_cast
    grind
  · rw [if_neg (by simpa using h)]
    exact key n d hn hd (by omega)
/-- Numbers of at most a million. -/
structure Sml (a : Rt) : Prop where
  n : -1000000 ≤ a.1 ∧ a.1 ≤ 1000000
  d : 0 < a.2 ∧ a.2 ≤ 1000000
theorem mul_le {a b A B : Int} (ha : -A ≤ a ∧ a ≤ A) (hb : -B ≤ b ∧ b ≤ B) : -(A * B) ≤ a * b ∧ a * b ≤ A * B := by
  have h1 : (a * b).natAbs ≤ A.natAbs * B.natAbs := by
    rw [Int.natAbs_mul]
    exact Nat.mul_le_mul (by omega) (by omega)
  have h2 : ((A.natAbs * B.natAbs : Nat) : Int) = A * B := by
    rw [Int.natCast_mul, Int.natAbs_of_nonneg (by omega), Int.natAbs_of_nonneg (by omega)]
  omega
theorem over_eq {F : Nat} {e l : Rt} (hF : 1000000 < F) (he : Sml e) (hl : Sml l) (h0 : l.1 ≠ 0) : ∃ r, bath_fraction_over F e l = some r ∧ Rd r ∧ val r = val e / val l := by
  have b1 := mul_le he.n (show -1000000 ≤ l.2 ∧ l.2 ≤ 1000000 by have := hl.d; omega)
  have b2 := mul_le (show -1000000 ≤ e.2 ∧ e.2 ≤ 1000000 by have := he.d; omega) hl.n
  unfold bath_fraction_over
  rw [w64_in (by omega), w64_in (by omega)]
  have hne : e.2 * l.1 ≠ 0 := Int.mul_ne_zero (by have := he.d; omega) h0
  obtain ⟨r, h1, h2, h3, _⟩ := of_eq (F := F) (n := e.1 * l.2) (d := e.2 * l.1) hF (by unfold B62; omega) (by unfold B62; omega) hne
  rw [h1]
  refine ⟨r, rfl, h2, ?_⟩
  rw [h3]
  have g1 := ne0 (show e.2 ≠ 0 by have := he.d; omega)
  have g2 := ne0 (show l.2 ≠ 0 by have := hl.d; omega)
  have g3 := ne0 h0
  unfold val
  push_cast
  grind
theorem less_eq {F : Nat} {e f g : Rt} (hF : 1000000 < F) (he : Sml e) (hf : Sml f) (hg : Sml g) : ∃ r, bath_fraction_less F e f g = some r ∧ Rd r ∧ val r = val e - val f * val g := by
  have d1 := he.d
  have d2 := hf.d
  have d3 := hg.d
  have b1 := mul_le hf.n hg.n
  have b2 := mul_le (show -1000000 ≤ f.2 ∧ f.2 ≤ 1000000 by omega) (show -1000000 ≤ g.2 ∧ g.2 ≤ 1000000 by omega)
  have hp : 0 < f.2 * g.2 := Int.mul_pos d2.1 d3.1
  unfold bath_fraction_less
  rw [w64_in (n := f.1 * g.1) (by omega), w64_in (n := f.2 * g.2) (by omega)]
  obtain ⟨p, h1, h2, h3, h4, h5⟩ := of_eq (F := F) (n := f.1 * g.1) (d := f.2 * g.2) hF (by unfold B62; omega) (by unfold B62; omega) (by omega)
  have p2 := h2.pos
  have c1 : p.2 ≤ 1000000000000 := by omega
  have c2 : -1000000000000 ≤ p.1 ∧ p.1 ≤ 1000000000000 := by omega
  simp only [h1, Option.bind_eq_bind, Option.bind_some]
  rw [common_eq hF (by unfold B62; omega) (by unfold B62; omega)]
  simp only [Option.bind_some]
  have hG : 0 < (Int.gcd e.2 p.2 : Int) := by
    have := Int.gcd_pos_of_ne_zero_right e.2 (show p.2 ≠ 0 by omega)
    omega
  obtain ⟨a, ha⟩ := Int.gcd_dvd_left e.2 p.2
  obtain ⟨b, hb⟩ := Int.gcd_dvd_right e.2 p.2
  rw [Int.mul_comm] at ha hb
  generalize ((Int.gcd e.2 p.2 : Nat) : Int) = G at *
  rw [quo_dvd hG ha (by unfold B62; omega), quo_dvd hG hb (by unfold B62; omega)]
  simp only [Option.bind_some]
  have ap : 0 < a := by
    rcases Int.lt_or_le 0 a with h | h
    · exact h
    · have := Int.mul_le_mul_of_nonneg_right h (by omega : 0 ≤ G)
      omega
  have bp : 0 < b := by
    rcases Int.lt_or_le 0 b with h | h
    · exact h
    · have := Int.mul_le_mul_of_nonneg_right h (by omega : 0 ≤ G)
      omega
  have al : a ≤ 1000000 := by
    have := Int.mul_le_mul_of_nonneg_left (by omega : 1 ≤ G) (by omega : 0 ≤ a)
    omega
  have bl : b ≤ 1000000000000 := by
    have := Int.mul_le_mul_of_nonneg_left (by omega : 1 ≤ G) (by omega : 0 ≤ b)
    omega
  have m1 := mul_le he.n (show -1000000000000 ≤ b ∧ b ≤ 1000000000000 by omega)
  have m2 := mul_le c2 (show -1000000 ≤ a ∧ a ≤ 1000000 by omega)
  have m3 := mul_le (show -1000000 ≤ a ∧ a ≤ 1000000 by omega) (show -1000000000000 ≤ p.2 ∧ p.2 ≤ 1000000000000 by omega)
  have hq : 0 < a * p.2 := Int.mul_pos ap p2
  rw [w64_in (n := e.1 * b) (by omega), w64_in (n := p.1 * a) (by omega), w64_in (n := e.1 * b - p.1 * a) (by omega), w64_in (n := a * p.2) (by omega)]
  obtain ⟨r, k1, k2, k3, _⟩ := of_eq (F := F) (n := e.1 * b - p.1 * a) (d := a * p.2) hF (by unfold B62; omega) (by unfold B62; omega) (by omega)
  rw [k1]
  refine ⟨r, rfl, k2, ?_⟩
  have hv : val f * val g = val p := by
    rw [h3]
    have g1 := ne0 (show f.2 ≠ 0 by omega)
    have g2 := ne0 (show g.2 ≠ 0 by omega)
    unfold val
    push_cast
    grind
  rw [hv, k3]
  have g1 := ne0 (show a ≠ 0 by omega)
  have g2 := ne0 (show b ≠ 0 by omega)
  have g3 := ne0 (show G ≠ 0 by omega)
  have e1 : (e.2 : Rat) = (a : Rat) * (G : Rat) := by rw [ha]; push_cast; rfl
  have e2 : (p.2 : Rat) = (b : Rat) * (G : Rat) := by rw [hb]; push_cast; rfl
  unfold val
  push_cast
  rw [e1, e2]
  grind

/-! ### Whole numbers out of fractions -/
theorem whole_eq {F : Nat} {l : List Rt} {del : Nat} (hF : 1000000 < F) (hl : l.length ≤ 100) (h : ∀ a ∈ l, Sml a ∧ a.2.natAbs ∣ del) (hd : 0 < del ∧ del ≤ 1000000) :
    ∃ (out : List Int) (den : Int), bath_whole F l = some (out, den) ∧ 0 < den ∧ den.natAbs ∣ del ∧ out.length = l.length ∧ ∀ (i : Nat) (a : Rt), l[i]? = some a → ∃ v, out[i]? = some v ∧ (v : Rat) = val a * (den : Rat) := by
  have l1 : ∀ (m k y : Nat), k ≤ l.length → l.length - k < m → 0 < y → y ∣ del → (∀ (i : Nat) (a : Rt), i < k → l[i]? = some a → a.2.natAbs ∣ y) →
      ∃ z : Nat, bath_whole_l1 F l m (y : Int) (k : Int) = some (z : Int) ∧ 0 < z ∧ z ∣ del ∧ ∀ a ∈ l, a.2.natAbs ∣ z := by
    intro m
    induction m with
    | zero => intro k _ _ h; omega
    | succ m ih =>
      intro k y hk hm hy hyd hi
      simp only [bath_whole_l1]
      by_cases hlt : k < l.length
      · obtain ⟨hs, hd2⟩ := h _ (List.getElem_mem hlt)
        have hyl := Nat.le_of_dvd hd.1 hyd
        have hdp := hs.d
        rw [if_pos (ltd hlt), ix_nat hlt, w64_succ (by omega)]
        simp only [Option.bind_eq_bind, Option.bind_some]
        rw [common_eq hF (by unfold B62; omega) (by unfold B62; omega)]
        simp only [Option.bind_some]
        have hG : 0 < Int.gcd (y : Int) l[k].2 := Int.gcd_pos_of_ne_zero_left _ (by omega)
        have hgd : Int.gcd (y : Int) l[k].2 = Nat.gcd y l[k].2.natAbs := rfl
        obtain ⟨q, hq⟩ : Int.gcd (y : Int) l[k].2 ∣ y := by rw [hgd]; exact Nat.gcd_dvd_left ..
        have hq' : (y : Int) = (q : Int) * ((Int.gcd (y : Int) l[k].2 : Nat) : Int) := by rw [← Int.natCast_mul, Nat.mul_comm, ← hq]
        rw [quo_dvd (by omega) hq' (by unfold B62; omega)]
        simp only [Option.bind_some]
        have hlcm : q * l[k].2.natAbs = Nat.lcm y l[k].2.natAbs := by
          unfold Nat.lcm
          rw [← hgd]
          have : y * l[k].2.natAbs = q * l[k].2.natAbs * Int.gcd (y : Int) l[k].2 := by
            conv => lhs; rw [hq]
            rw [Nat.mul_comm (Int.gcd (y : Int) l[k].2) q, Nat.mul_right_comm]
          rw [this, Nat.mul_div_cancel _ hG]
        have hzd : q * l[k].2.natAbs ∣ del := by rw [hlcm]; exact Nat.lcm_dvd hyd hd2
        have hzl := Nat.le_of_dvd hd.1 hzd
        have hzp : 0 < q * l[k].2.natAbs := Nat.pos_of_dvd_of_pos hzd hd.1
        have e : w64 ((q : Int) * l[k].2) = ((q * l[k].2.natAbs : Nat) : Int) := by
          have e2 : (q : Int) * l[k].2 = ((q * l[k].2.natAbs : Nat) : Int) := by
            rw [Int.natCast_mul, Int.natAbs_of_nonneg (by omega)]
          rw [e2, w64_in (by omega)]
        rw [e]
        refine ih (k + 1) _ (by omega) (by omega) hzp hzd fun i a hi2 ha => ?_
        rw [hlcm]
        rcases Nat.lt_or_ge i k with h3 | h3
        · exact Nat.dvd_trans (hi i a h3 ha) (Nat.dvd_lcm_left ..)
        · have : i = k := by omega
          subst this
          rw [List.getElem?_eq_getElem hlt] at ha
          cases ha
          exact Nat.dvd_lcm_right ..
      · have : k = l.length := by omega
        subst this
        rw [if_neg nltd]
        refine ⟨y, rfl, hy, hyd, fun a ha => ?_⟩
        obtain ⟨i, hi2, rfl⟩ := List.getElem_of_mem ha
        exact hi i _ hi2 (List.getElem?_eq_getElem hi2)
  obtain ⟨z, z1, z2, z3, z4⟩ := l1 F 0 1 (by omega) (by omega) (by omega) (Nat.one_dvd _) (fun i a h => by omega)
  have hzl := Nat.le_of_dvd hd.1 z3
  have l2 : ∀ (m k : Nat) (y : List Int), k ≤ l.length → l.length - k < m → y.length = k → (∀ (i : Nat) (a : Rt), i < k → l[i]? = some a → ∃ v, y[i]? = some v ∧ (v : Rat) = val a * (z : Rat)) →
      ∃ out, bath_whole_l2 F l (z : Int) m y (k : Int) = some out ∧ out.length = l.length ∧ ∀ (i : Nat) (a : Rt), l[i]? = some a → ∃ v, out[i]? = some v ∧ (v : Rat) = val a * (z : Rat) := by
    intro m
    induction m with
    | zero => intro k _ _ h; omega
    | succ m ih =>
      intro k y hk hm hy hi
      simp only [bath_whole_l2]
      by_cases hlt : k < l.length
      · obtain ⟨hs, _⟩ := h _ (List.getElem_mem hlt)
        have hdp := hs.d
        have hnn := hs.n
        obtain ⟨q, hq⟩ := z4 _ (List.getElem_mem hlt)
        have hq' : (z : Int) = (q : Int) * l[k].2 := by
          rw [hq, Int.natCast_mul, Int.natAbs_of_nonneg (by omega), Int.mul_comm]
        have hql : (q : Int) ≤ 1000000 := by
          have := Int.mul_le_mul_of_nonneg_left (by omega : 1 ≤ l[k].2) (by omega : 0 ≤ (q : Int))
          omega
        have hm2 := mul_le hnn (show -1000000 ≤ (q : Int) ∧ (q : Int) ≤ 1000000 by omega)
        rw [if_pos (ltd hlt), ix_nat hlt, w64_succ (by omega)]
        simp only [Option.bind_eq_bind, Option.bind_some]
        rw [quo_dvd (by omega) hq' (by unfold B62; omega)]
        simp only [Option.bind_some]
        rw [w64_in (by omega), app_some (by simp; omega)]
        simp only [Option.bind_some]
        refine ih (k + 1) _ (by omega) (by omega) (by simp [hy]) fun i a hi2 ha => ?_
        rcases Nat.lt_or_ge i k with h3 | h3
        · obtain ⟨v, v1, v2⟩ := hi i a h3 ha
          exact ⟨v, by rw [List.getElem?_append_left (by omega)]; exact v1, v2⟩
        · have : i = k := by omega
          subst this
          rw [List.getElem?_eq_getElem hlt] at ha
          cases ha
          refine ⟨l[i].1 * (q : Int), by rw [List.getElem?_append_right (by omega), hy, Nat.sub_self]; rfl, ?_⟩
          have g := ne0 (show l[i].2 ≠ 0 by omega)
          have e1 : (z : Rat) = (q : Rat) * (l[i].2 : Rat) := by
            have : ((z : Int) : Rat) = (((q : Int) * l[i].2 : Int) : Rat) := by rw [hq']
            push_cast at this
            exact this
          unfold val
          rw [e1]
          push_cast
          grind
      · have : k = l.length := by omega
        subst this
        rw [if_neg nltd]
        exact ⟨y, rfl, hy, fun i a ha => hi i a (List.getElem?_eq_some_iff.1 ha).1 ha⟩
  obtain ⟨out, o1, o2, o3⟩ := l2 F 0 [] (by omega) (by omega) rfl (fun i a h => by omega)
  unfold bath_whole
  simp only [Int.natCast_zero, Int.natCast_one] at z1 o1
  simp only [Option.bind_eq_bind, z1, Option.bind_some, o1]
  refine ⟨out, z, rfl, by omega, by simpa using z3, o2, fun i a ha => ?_⟩
  obtain ⟨v, v1, v2⟩ := o3 i a ha
  exact ⟨v, v1, by rw [v2]; push_cast; rfl⟩
end Go.Proofs.Ytboefnpnoojfpaa

/-! Determinants of lists of vectors, by expansion along the first coordinate: linear in each vector, 0 for two equal ones. No condition. -/
namespace Det
abbrev V := Nat → Int
def ex (f : List V → Int) (k : Nat) : List V → List V → Int
  | _, [] => 0
  | pre, v :: vs => v k * f (pre ++ vs) - ex f k (pre ++ [v]) vs
def det : List Nat → List V → Int
  | [], [] => 1
  | [], _ :: _ => 0
  | k :: S, vs => ex (det S) k [] vs
def lin (a : Int) (v : V) (b : Int) (w : V) : V := fun k => a * v k + b * w k
/-- Linear in each place. -/
def Lin (f : List V → Int) : Prop := ∀ az bs a v b w, f (az ++ lin a v b w :: bs) = a * f (az ++ v :: bs) + b * f (az ++ w :: bs)
/-- 0 where two that stand together are equal. -/
def Alt (f : List V → Int) : Prop := ∀ az bs v, f (az ++ v :: v :: bs) = 0
theorem ex_pre {f : List V → Int} (hf : Lin f) {k : Nat} {az : List V} {a b : Int} {v w : V} : ∀ (vs cs : List V), ex f k (az ++ lin a v b w :: cs) vs = a * ex f k (az ++ v :: cs) vs + b * ex f k (az ++ w :: cs) vs
  | [], cs => by simp [ex]
  | x :: vs, cs => by
    unfold ex
    have h1 : ∀ z : V, (az ++ z :: cs) ++ vs = az ++ z :: (cs ++ vs) := fun z => by simp
    have h2 : ∀ z : V, (az ++ z :: cs) ++ [x] = az ++ z :: (cs ++ [x]) := fun z => by simp
    rw [h1, h1, h1, h2, h2, h2, hf, ex_pre hf vs (cs ++ [x])]
    simp only [Int.mul_add, Int.mul_sub, Int.mul_left_comm]
    omega
theorem ex_lin {f : List V → Int} (hf : Lin f) {k : Nat} {bs : List V} {a b : Int} {v w : V} : ∀ (az pre : List V), ex f k pre (az ++ lin a v b w :: bs) = a * ex f k pre (az ++ v :: bs) + b * ex f k pre (az ++ w :: bs)
  | [], pre => by
    simp only [List.nil_append, ex]
    rw [ex_pre hf bs []]
    unfold lin
    simp only [Int.mul_add, Int.mul_sub, Int.add_mul, Int.mul_assoc]
    omega
  | x :: az, pre => by
    simp only [List.cons_append, ex]
    have h1 : ∀ z : V, pre ++ (az ++ z :: bs) = (pre ++ az) ++ z :: bs := fun z => by simp
    rw [h1, h1, h1, hf, ex_lin hf az (pre ++ [x])]
    simp only [Int.mul_add, Int.mul_sub, Int.mul_left_comm]
    omega
theorem det_nil {az bs : List V} {z : V} : det [] (az ++ z :: bs) = 0 := by cases az <;> rfl
theorem det_lin : ∀ S, Lin (det S)
  | [] => fun az bs a v b w => by rw [det_nil, det_nil, det_nil, Int.mul_zero, Int.mul_zero]; rfl
  | k :: S => fun az bs a v b w => ex_lin (det_lin S) az []
theorem ex_alt_pre {f : List V → Int} (hf : Alt f) {k : Nat} {az : List V} {v : V} : ∀ (vs cs : List V), ex f k (az ++ v :: v :: cs) vs = 0
  | [], cs => rfl
  | x :: vs, cs => by
    unfold ex
    have h1 : (az ++ v :: v :: cs) ++ vs = az ++ v :: v :: (cs ++ vs) := by simp
    have h2 : (az ++ v :: v :: cs) ++ [x] = az ++ v :: v :: (cs ++ [x]) := by simp
    rw [h1, h2, hf, ex_alt_pre hf vs (cs ++ [x])]
    omega
theorem ex_alt {f : List V → Int} (hf : Alt f) {k : Nat} {bs : List V} {v : V} : ∀ (az pre : List V), ex f k pre (az ++ v :: v :: bs) = 0
  | [], pre => by
    simp only [List.nil_append, ex]
    have h1 : (pre ++ [v]) ++ bs = pre ++ v :: bs := by simp
    have h2 : (pre ++ [v]) ++ [v] = pre ++ v :: v :: [] := by simp
    rw [h1, h2, ex_alt_pre hf]
    omega
  | x :: az, pre => by
    simp only [List.cons_append, ex]
    have h1 : pre ++ (az ++ v :: v :: bs) = (pre ++ az) ++ v :: v :: bs := by simp
    rw [h1, hf, ex_alt hf az (pre ++ [x])]
    omega
theorem det_alt : ∀ S, Alt (det S)
  | [] => fun az bs v => det_nil
  | k :: S => fun az bs v => ex_alt (det_alt S) az []
/-- Two that stand together change places. -/
theorem swap {f : List V → Int} (hl : Lin f) (ha : Alt f) (az bs : List V) (v w : V) : f (az ++ v :: w :: bs) = - f (az ++ w :: v :: bs) := by
  have h := ha az bs (lin 1 v 1 w)
  have e1 : ∀ z : V, az ++ z :: lin 1 v 1 w :: bs = (az ++ [z]) ++ lin 1 v 1 w :: bs := fun z => by simp
  have e2 : ∀ z x : V, (az ++ [z]) ++ x :: bs = az ++ z :: x :: bs := fun z x => by simp
  rw [hl az (lin 1 v 1 w :: bs), e1, e1, hl, hl, e2, e2, e2, e2, ha, ha] at h
  omega
/-- 0 where two are equal. -/
theorem alt {f : List V → Int} (hl : Lin f) (ha : Alt f) (v : V) (bs : List V) : ∀ (cs az : List V), f (az ++ v :: (cs ++ v :: bs)) = 0
  | [], az => ha az bs v
  | c :: cs, az => by
    have h := swap hl ha az (cs ++ v :: bs) v c
    have e : az ++ c :: v :: (cs ++ v :: bs) = (az ++ [c]) ++ v :: (cs ++ v :: bs) := by simp
    rw [e, alt hl ha v bs cs (az ++ [c])] at h
    simpa using h
/-! ### How great it can be -/
def Bd : List Nat → List V → Prop
  | [], [] => True
  | c :: cs, v :: vs => (∀ k, (v k).natAbs ≤ c) ∧ Bd cs vs
  | _, _ => False
def prod : List Nat → Nat
  | [] => 1
  | c :: cs => c * prod cs
def fac : Nat → Nat
  | 0 => 1
  | n + 1 => (n + 1) * fac n
theorem prod_app : ∀ a b : List Nat, prod (a ++ b) = prod a * prod b
  | [], b => by simp [prod]
  | c :: a, b => by simp only [List.cons_append, prod, prod_app a b, Nat.mul_assoc]
theorem Bd.app : ∀ {a b : List Nat} {v w : List V}, Bd a v → Bd b w → Bd (a ++ b) (v ++ w)
  | [], b, [], w, _, h => h
  | c :: a, b, x :: v, w, h1, h2 => ⟨h1.1, Bd.app h1.2 h2⟩
  | [], _, _ :: _, _, h, _ => h.elim
  | _ :: _, _, [], _, h, _ => h.elim
theorem ex_bd {f : List V → Int} {G n : Nat} (hf : ∀ cs vs, vs.length = n → Bd cs vs → (f vs).natAbs ≤ G * prod cs) {k : Nat} : ∀ {cs : List Nat} {vs : List V} {ps : List Nat} {pre : List V}, Bd cs vs → Bd ps pre → pre.length + vs.length = n + 1 → (ex f k pre vs).natAbs ≤ vs.length * (G * (prod ps * prod cs))
  | [], [], _, _, _, _, _ => by simp [ex]
  | c :: cs, v :: vs, ps, pre, h1, h2, hn => by
    rw [List.length_cons] at hn
    have i1 := hf (ps ++ cs) (pre ++ vs) (by rw [List.length_append]; omega) (h2.app h1.2)
    have i2 := ex_bd hf (k := k) (cs := cs) (vs := vs) (ps := ps ++ [c]) (pre := pre ++ [v]) h1.2 (h2.app ⟨h1.1, trivial⟩) (by rw [List.length_append]; simp; omega)
    rw [prod_app] at i1 i2
    unfold ex
    have t1 : (v k * f (pre ++ vs)).natAbs ≤ c * (G * (prod ps * prod cs)) := by
      rw [Int.natAbs_mul]
      exact Nat.mul_le_mul (h1.1 k) i1
    have t2 := Int.natAbs_sub_le (v k * f (pre ++ vs)) (ex f k (pre ++ [v]) vs)
    have e1 : c * (G * (prod ps * prod cs)) = G * (prod ps * (c * prod cs)) := by simp only [Nat.mul_left_comm]
    have e2 : prod ps * prod [c] * prod cs = prod ps * (c * prod cs) := by simp [prod, Nat.mul_assoc]
    rw [e2] at i2
    rw [e1] at t1
    show _ ≤ (vs.length + 1) * (G * (prod ps * (c * prod cs)))
    rw [Nat.add_mul, Nat.one_mul]
    omega
  | [], _ :: _, _, _, h, _, _ => h.elim
  | _ :: _, [], _, _, h, _, _ => h.elim
theorem det_bd : ∀ (S : List Nat) {cs : List Nat} {vs : List V}, vs.length = S.length → Bd cs vs → (det S vs).natAbs ≤ fac S.length * prod cs
  | [], [], [], _, _ => by simp [det, fac, prod]
  | [], _ :: _, [], _, h => h.elim
  | [], _, _ :: _, h, _ => by simp at h
  | k :: S, cs, vs, h, hb => by
    have := ex_bd (f := det S) (G := fac S.length) (n := S.length) (fun cs vs h1 h2 => det_bd S h1 h2) (k := k) hb (ps := []) (pre := []) trivial (by simpa using h)
    rw [h] at this
    show (ex (det S) k [] vs).natAbs ≤ ((S.length + 1) * fac S.length) * prod cs
    simpa [prod, Nat.mul_assoc] using this

/-! ### Cramer's rule -/
def comb : List Int → List V → V
  | t :: ts, b :: bs => lin t b 1 (comb ts bs)
  | _, _ => fun _ => 0
def sumz : List Int → List Int → Int
  | t :: ts, x :: xs => t * x + sumz ts xs
  | _, _ => 0
theorem zero_at {f : List V → Int} (hl : Lin f) (az cs : List V) : f (az ++ (fun _ => 0) :: cs) = 0 := by
  have h := hl az cs 0 (fun _ => 0) 0 (fun _ => 0)
  have e : lin 0 (fun _ => 0) 0 (fun _ => 0) = (fun _ => 0 : V) := by funext k; simp [lin]
  rw [e] at h
  simpa using h
theorem expand {f : List V → Int} (hl : Lin f) (az cs : List V) : ∀ (ts : List Int) (bs : List V), f (az ++ comb ts bs :: cs) = sumz ts (bs.map fun b => f (az ++ b :: cs))
  | [], bs => by simp only [comb, sumz]; exact zero_at hl az cs
  | t :: ts, [] => by simp only [comb, sumz, List.map_nil]; exact zero_at hl az cs
  | t :: ts, b :: bs => by
    simp only [comb, sumz, List.map_cons]
    rw [hl, expand hl az cs ts bs]
    omega
theorem sumz_app : ∀ (ta tb xa xb : List Int), ta.length = xa.length → sumz (ta ++ tb) (xa ++ xb) = sumz ta xa + sumz tb xb
  | [], tb, [], xb, _ => by simp [sumz]
  | t :: ta, tb, x :: xa, xb, h => by
    simp only [List.length_cons, Nat.add_right_cancel_iff] at h
    simp only [List.cons_append, sumz, sumz_app ta tb xa xb h]
    omega
  | [], _, _ :: _, _, h => by simp at h
  | _ :: _, _, [], _, h => by simp at h
theorem sumz_zero : ∀ (ts xs : List Int), (∀ x ∈ xs, x = 0) → sumz ts xs = 0
  | [], _, _ => rfl
  | _ :: _, [], _ => rfl
  | t :: ts, x :: xs, h => by
    simp only [sumz]
    rw [h x List.mem_cons_self, sumz_zero ts xs fun y hy => h y (List.mem_cons_of_mem _ hy)]
    simp
theorem cramer {f : List V → Int} (hl : Lin f) (ha : Alt f) {az cs : List V} {b : V} {ta tc : List Int} {t : Int} (h1 : ta.length = az.length) : f (az ++ comb (ta ++ t :: tc) (az ++ b :: cs) :: cs) = t * f (az ++ b :: cs) := by
  rw [expand hl, List.map_append, sumz_app _ _ _ _ (by simpa using h1), List.map_cons]
  simp only [sumz]
  rw [sumz_zero ta _ fun x hx => by
    obtain ⟨a, h, rfl⟩ := List.mem_map.1 hx
    obtain ⟨p, q, rfl⟩ := List.append_of_mem h
    have e : (p ++ a :: q) ++ a :: cs = p ++ a :: (q ++ a :: cs) := by simp
    show f ((p ++ a :: q) ++ a :: cs) = 0
    rw [e]
    exact alt hl ha a cs q p]
  rw [sumz_zero tc _ fun x hx => by
    obtain ⟨a, h, rfl⟩ := List.mem_map.1 hx
    obtain ⟨p, q, rfl⟩ := List.append_of_mem h
    exact alt hl ha a q p az]
  omega
/-! ### When it is not 0 -/
theorem perm_sign {f : List V → Int} (hl : Lin f) (ha : Alt f) {l m : List V} (h : l.Perm m) : ∀ az, f (az ++ l) = f (az ++ m) ∨ f (az ++ l) = - f (az ++ m) := by
  induction h with
  | nil => intro az; exact .inl rfl
  | cons x _ ih =>
    intro az
    have := ih (az ++ [x])
    simpa using this
  | swap x y l => intro az; exact .inr (swap hl ha az l y x)
  | trans _ _ i1 i2 =>
    intro az
    have h1 := i1 az
    have h2 := i2 az
    omega
/-- The vectors that are 1 at one place. -/
def unit (i : Nat) : V := fun k => if k = i then 1 else 0
theorem det_unit {u : Nat} (h : u ≤ 5) : det (List.range u) ((List.range u).map unit) = 1 := by
  have : u = 0 ∨ u = 1 ∨ u = 2 ∨ u = 3 ∨ u = 4 ∨ u = 5 := by omega
  rcases this with rfl | rfl | rfl | rfl | rfl | rfl <;> rfl
end Det

/-! Rows of fractions over a basis: what a step of the elimination does, and how great the numbers can be. No condition: plain algebra. -/
namespace Go.Proofs.Ytboefnpnoojfpaa
open Go Go.Md Go.RowKit
abbrev Vc := Det.V

/-! ### Sums over a list of numbers -/
def sm (f : Nat → Rat) : List Nat → Rat
  | [] => 0
  | r :: l => f r + sm f l
theorem sm_app {f : Nat → Rat} : ∀ {a b : List Nat}, sm f (a ++ b) = sm f a + sm f b
  | [], b => by simp only [List.nil_append, sm]; grind
  | r :: a, b => by
    have := sm_app (f := f) (a := a) (b := b)
    simp only [List.cons_append, sm, this]
    grind
theorem sm_congr {f g : Nat → Rat} : ∀ {l : List Nat}, (∀ r ∈ l, f r = g r) → sm f l = sm g l
  | [], _ => rfl
  | r :: l, h => by simp only [sm]; rw [h r (by simp), sm_congr fun r hr => h r (by simp [hr])]
theorem sm_lin {f g : Nat → Rat} {x : Rat} : ∀ {l : List Nat}, sm (fun r => f r - x * g r) l = sm f l - x * sm g l
  | [] => by simp only [sm]; grind
  | r :: l => by
    have := sm_lin (f := f) (g := g) (x := x) (l := l)
    simp only [sm, this]
    grind
theorem sm_mul {f : Nat → Rat} {x : Rat} : ∀ {l : List Nat}, sm (fun r => x * f r) l = x * sm f l
  | [] => by simp only [sm]; grind
  | r :: l => by
    have := sm_mul (f := f) (x := x) (l := l)
    simp only [sm, this]
    grind
theorem sm_zero {f : Nat → Rat} : ∀ {l : List Nat}, (∀ r ∈ l, f r = 0) → sm f l = 0
  | [], _ => rfl
  | r :: l, h => by
    have := sm_zero (f := f) (l := l) fun r hr => h r (by simp [hr])
    simp only [sm, this, h r (by simp)]
    grind
theorem sm_perm {f : Nat → Rat} {a b : List Nat} (h : a.Perm b) : sm f a = sm f b := by
  induction h with
  | nil => rfl
  | cons x _ ih => simp only [sm, ih]
  | swap x y l => simp only [sm]; grind
  | trans _ _ i1 i2 => rw [i1, i2]
theorem sm_map {f : Nat → Rat} {g : Nat → Nat} : ∀ {l : List Nat}, sm f (l.map g) = sm (fun r => f (g r)) l
  | [] => rfl
  | r :: l => by simp only [List.map_cons, sm, sm_map (l := l)]
theorem range_split {K u : Nat} (h : u < K) : ∃ b, List.range K = List.range u ++ u :: b ∧ (∀ r ∈ List.range u, r ≠ u) ∧ ∀ r ∈ b, r ≠ u := by
  refine ⟨(List.range K).drop (u + 1), ?_, fun r hr => ?_, fun r hr => ?_⟩
  · have h1 := List.take_append_drop u (List.range K)
    rw [List.take_range, Nat.min_eq_left (by omega), List.drop_eq_getElem_cons (by simpa using h)] at h1
    have h2 : (List.range K)[u]'(by simpa using h) = u := by simp
    rw [h2] at h1
    exact h1.symm
  · have := List.mem_range.1 hr
    omega
  · obtain ⟨i, hi, rfl⟩ := List.getElem_of_mem hr
    rw [List.getElem_drop]
    simp
    omega
theorem sm_range_one {K u : Nat} (h : u < K) {f : Nat → Rat} (h0 : ∀ r, r < K → r ≠ u → f r = 0) : sm f (List.range K) = f u := by
  obtain ⟨b, e, h1, h2⟩ := range_split h
  have hb : ∀ r ∈ b, r < K := fun r hr => by
    have : r ∈ List.range K := by rw [e]; simp [hr]
    exact List.mem_range.1 this
  rw [e, sm_app]
  simp only [sm]
  rw [sm_zero fun r hr => h0 r (by have := List.mem_range.1 hr; omega) (h1 r hr), sm_zero fun r hr => h0 r (hb r hr) (h2 r hr)]
  grind

/-! ### A basis, and what stands over it -/
def ud {α : Type} (B : Nat → α) (u : Nat) (w : α) : Nat → α := fun r => if r = u then w else B r
def dt (K : Nat) (B : Nat → Vc) : Int := Det.det (List.range K) ((List.range K).map B)
theorem comb_sum {t : Nat → Int} {B : Nat → Vc} {k : Nat} : ∀ {l : List Nat}, ((Det.comb (l.map t) (l.map B) k : Int) : Rat) = sm (fun r => (t r : Rat) * (B r k : Rat)) l
  | [] => rfl
  | r :: l => by
    have := comb_sum (t := t) (B := B) (k := k) (l := l)
    simp only [List.map_cons, Det.comb, Det.lin, sm]
    push_cast
    rw [this]
    grind
theorem cram {K u : Nat} (hu : u < K) {B : Nat → Vc} {t : Nat → Int} {w : Vc} (h : ∀ k, sm (fun r => (t r : Rat) * (B r k : Rat)) (List.range K) = (w k : Rat)) : dt K (ud B u w) = t u * dt K B := by
  obtain ⟨b, e, h1, h2⟩ := range_split hu
  have ew : w = Det.comb ((List.range K).map t) ((List.range K).map B) := by
    funext k
    have := h k
    rw [← comb_sum] at this
    exact_mod_cast this.symm
  have hm : (List.range K).map (ud B u w) = (List.range u).map B ++ w :: b.map B := by
    rw [e, List.map_append, List.map_cons]
    congr 1
    · exact List.map_congr_left fun r hr => by simp [ud, h1 r hr]
    · congr 1
      · simp [ud]
      · exact List.map_congr_left fun r hr => by simp [ud, h2 r hr]
  have hB : (List.range K).map B = (List.range u).map B ++ B u :: b.map B := by rw [e, List.map_append, List.map_cons]
  have ht : (List.range K).map t = (List.range u).map t ++ t u :: b.map t := by rw [e, List.map_append, List.map_cons]
  unfold dt
  rw [hm, ew, ht, hB]
  exact Det.cramer (Det.det_lin _) (Det.det_alt _) (by simp)
theorem dt_mul {K u : Nat} (hu : u < K) {B : Nat → Vc} {w : Vc} {D : Int} : dt K (ud B u fun k => D * w k) = D * dt K (ud B u w) := by
  obtain ⟨b, e, h1, h2⟩ := range_split hu
  have hm : ∀ w : Vc, (List.range K).map (ud B u w) = (List.range u).map B ++ w :: b.map B := fun w => by
    rw [e, List.map_append, List.map_cons]
    congr 1
    · exact List.map_congr_left fun r hr => by simp [ud, h1 r hr]
    · congr 1
      · simp [ud]
      · exact List.map_congr_left fun r hr => by simp [ud, h2 r hr]
  unfold dt
  rw [hm, hm]
  have := Det.det_lin (List.range K) ((List.range u).map B) (b.map B) D w 0 w
  have e2 : Det.lin D w 0 w = fun k => D * w k := by
    funext k
    simp [Det.lin]
  rw [e2] at this
  omega
theorem rat_rep (x : Rat) : ∃ n d : Int, 0 < d ∧ x * (d : Rat) = (n : Rat) := by
  refine ⟨x.num, (x.den : Int), by have := x.den_pos; omega, ?_⟩
  have h1 : x = (x.num : Rat) / ((x.den : Int) : Rat) := by rw [← Rat.divInt_eq_div, Rat.num_divInt_den]
  have h2 := ne0 (show (x.den : Int) ≠ 0 by have := x.den_pos; omega)
  generalize (x.den : Int) = d at *
  generalize x.num = n at *
  subst h1
  grind
theorem common_den (q : Nat → Rat) : ∀ l : List Nat, ∃ D : Int, 0 < D ∧ ∀ r ∈ l, ∃ t : Int, q r * (D : Rat) = (t : Rat)
  | [] => ⟨1, by omega, by simp⟩
  | r :: l => by
    obtain ⟨D, h1, h2⟩ := common_den q l
    obtain ⟨n, d, h3, h4⟩ := rat_rep (q r)
    refine ⟨D * d, Int.mul_pos h1 h3, fun s hs => ?_⟩
    rcases List.mem_cons.1 hs with rfl | hs
    · exact ⟨n * D, by push_cast; grind⟩
    · obtain ⟨t, ht⟩ := h2 s hs
      exact ⟨t * d, by push_cast; grind⟩
/-- Each column is the sum of the basis' vectors, each times its number in the column. -/
structure Bas (K N : Nat) (col : Nat → Vc) (q : Nat → Nat → Rat) (B : Nat → Vc) : Prop where
  eq : ∀ c, c < N → ∀ k, sm (fun r => q r c * (B r k : Rat)) (List.range K) = (col c k : Rat)
  det : dt K B ≠ 0
section
variable {K N : Nat} {col : Nat → Vc} {q : Nat → Nat → Rat} {B : Nat → Vc}
theorem Bas.key (h : Bas K N col q B) {c u : Nat} (hc : c < N) (hu : u < K) : ((dt K (ud B u (col c)) : Int) : Rat) = q u c * ((dt K B : Int) : Rat) := by
  obtain ⟨D, hD, hD2⟩ := common_den (fun r => q r c) (List.range K)
  have ht : ∃ t : Nat → Int, ∀ r, r < K → q r c * (D : Rat) = (t r : Rat) := by
    refine ⟨fun r => if h : r < K then Classical.choose (hD2 r (List.mem_range.2 h)) else 0, fun r hr => ?_⟩
    simp only [dif_pos hr]
    exact Classical.choose_spec (hD2 r (List.mem_range.2 hr))
  obtain ⟨t, ht⟩ := ht
  have h1 := cram hu (B := B) (t := t) (w := fun k => D * col c k) fun k => by
    have h2 := h.eq c hc k
    have h3 : sm (fun r => (t r : Rat) * (B r k : Rat)) (List.range K) = sm (fun r => (D : Rat) * (q r c * (B r k : Rat))) (List.range K) := sm_congr fun r hr => by
      have := ht r (List.mem_range.1 hr)
      rw [← this]
      grind
    rw [h3, sm_mul, h2]
    push_cast
    rfl
  rw [dt_mul hu] at h1
  have h2 : ((D * dt K (ud B u (col c)) : Int) : Rat) = ((t u * dt K B : Int) : Rat) := by rw [h1]
  push_cast at h2
  rw [← ht u hu] at h2
  have h3 := ne0 (show D ≠ 0 by omega)
  grind
/-- One step: the column p goes into the basis, in place of the vector u. -/
def pv (q : Nat → Nat → Rat) (u p : Nat) : Nat → Nat → Rat := fun r c => if r = u then q u c / q u p else q r c - q r p * (q u c / q u p)
theorem Bas.pivot (h : Bas K N col q B) {p u : Nat} (hp : p < N) (hu : u < K) (h0 : q u p ≠ 0) : Bas K N col (pv q u p) (ud B u (col p)) := by
  refine ⟨fun c hc k => ?_, fun e => ?_⟩
  · obtain ⟨b, e, h1, h2⟩ := range_split hu
    have ec := h.eq c hc k
    have ep := h.eq p hp k
    rw [e, sm_app] at ec ep ⊢
    simp only [sm] at ec ep ⊢
    have s1 : ∀ l : List Nat, (∀ r ∈ l, r ≠ u) → sm (fun r => pv q u p r c * (ud B u (col p) r k : Rat)) l = sm (fun r => q r c * (B r k : Rat)) l - (q u c / q u p) * sm (fun r => q r p * (B r k : Rat)) l := fun l hl => by
      rw [← sm_lin]
      refine sm_congr fun r hr => ?_
      simp only [pv, ud, if_neg (hl r hr)]
      grind
    rw [s1 _ h1, s1 _ h2]
    have e1 : pv q u p u c = q u c / q u p := by simp [pv]
    have e2 : ud B u (col p) u k = col p k := by simp [ud]
    rw [e1, e2, ← ep, ← ec]
    generalize sm (fun r => q r c * (B r k : Rat)) (List.range u) = a1
    generalize sm (fun r => q r p * (B r k : Rat)) (List.range u) = a2
    generalize sm (fun r => q r c * (B r k : Rat)) b = a3
    generalize sm (fun r => q r p * (B r k : Rat)) b = a4
    generalize (B u k : Rat) = y
    grind
  · have h1 := h.key hp hu
    rw [e] at h1
    have h2 := ne0 h.det
    have h3 : q u p * ((dt K B : Int) : Rat) = 0 := by rw [← h1]; rfl
    grind
/-- Two rows are exchanged. -/
def sw (u v r : Nat) : Nat := if r = u then v else if r = v then u else r
theorem sw_perm {u v : Nat} (hu : u < K) (hv : v < K) : ((List.range K).map (sw u v)).Perm (List.range K) := by
  have hn : ((List.range K).map (sw u v)).Nodup := by
    unfold List.Nodup
    rw [List.pairwise_map]
    refine List.Pairwise.imp (fun {a b} hab e => hab ?_) (List.nodup_range (n := K))
    unfold sw at e
    split at e <;> split at e <;> (try split at e) <;> (try split at e) <;> omega
  refine (List.perm_ext_iff_of_nodup hn List.nodup_range).2 fun a => ?_
  rw [List.mem_map, List.mem_range]
  constructor
  · rintro ⟨b, hb, rfl⟩
    have := List.mem_range.1 hb
    unfold sw
    split
    · exact hv
    · split
      · exact hu
      · exact this
  · intro ha
    refine ⟨sw u v a, List.mem_range.2 ?_, ?_⟩
    · unfold sw
      split
      · exact hv
      · split
        · exact hu
        · exact ha
    · unfold sw
      split <;> (try split) <;> (try split) <;> omega
theorem Bas.swap (h : Bas K N col q B) {u v : Nat} (hu : u < K) (hv : v < K) : Bas K N col (fun r => q (sw u v r)) (fun r => B (sw u v r)) := by
  have hp := sw_perm hu hv
  refine ⟨fun c hc k => ?_, fun e => h.det ?_⟩
  · have e1 := sm_perm (f := fun r => q r c * (B r k : Rat)) hp
    rw [sm_map] at e1
    rw [← h.eq c hc k, ← e1]
  · have h1 := Det.perm_sign (Det.det_lin (List.range K)) (Det.det_alt _) (hp.map B) []
    have h2 : (List.range K).map (fun r => B (sw u v r)) = ((List.range K).map (sw u v)).map B := by rw [List.map_map]; rfl
    unfold dt at e ⊢
    rw [h2] at e
    simp only [List.nil_append] at h1
    omega

/-! ### How great the numbers are -/
theorem bd_map {c : Nat} {B : Nat → Vc} : ∀ {l : List Nat}, (∀ r ∈ l, ∀ k, (B r k).natAbs ≤ c) → Det.Bd (List.replicate l.length c) (l.map B)
  | [], _ => trivial
  | r :: l, h => ⟨h r (by simp), bd_map fun r hr => h r (by simp [hr])⟩
theorem fac_le : ∀ K, K < 6 → Det.fac K * Det.prod (List.replicate K 5) ≤ 375000 := by decide
theorem fac_le9 : ∀ K, K < 6 → ∀ u, u < K → Det.fac K * Det.prod (List.replicate u 5 ++ 9 :: List.replicate (K - 1 - u) 5) ≤ 675000 := by decide
theorem dt_bd (hK : K ≤ 5) (hB : ∀ r, r < K → ∀ k, (B r k).natAbs ≤ 5) : (dt K B).natAbs ≤ 375000 := by
  have h1 := bd_map (c := 5) (B := B) (l := List.range K) fun r hr => hB r (List.mem_range.1 hr)
  rw [List.length_range] at h1
  have h2 := Det.det_bd (List.range K) (by simp) h1
  rw [List.length_range] at h2
  exact Nat.le_trans h2 (fac_le K (by omega))
theorem dt_bd9 (hK : K ≤ 5) (hB : ∀ r, r < K → ∀ k, (B r k).natAbs ≤ 5) {u : Nat} (hu : u < K) {w : Vc} (hw : ∀ k, (w k).natAbs ≤ 9) : (dt K (ud B u w)).natAbs ≤ 675000 := by
  obtain ⟨b, e, h1, h2⟩ := range_split hu
  have hb : b.length = K - 1 - u := by
    have := congrArg List.length e
    simp only [List.length_range, List.length_append, List.length_cons] at this
    omega
  have hbK : ∀ r ∈ b, r < K := fun r hr => by
    have : r ∈ List.range K := by rw [e]; simp [hr]
    exact List.mem_range.1 this
  have hm : (List.range K).map (ud B u w) = (List.range u).map B ++ w :: b.map B := by
    rw [e, List.map_append, List.map_cons]
    congr 1
    · exact List.map_congr_left fun r hr => by simp [ud, h1 r hr]
    · congr 1
      · simp [ud]
      · exact List.map_congr_left fun r hr => by simp [ud, h2 r hr]
  have h3 := bd_map (c := 5) (B := B) (l := List.range u) fun r hr => hB r (by have := List.mem_range.1 hr; omega)
  have h4 := bd_map (c := 5) (B := B) (l := b) fun r hr => hB r (hbK r hr)
  rw [List.length_range] at h3
  rw [hb] at h4
  have h5 : Det.Bd (List.replicate u 5 ++ 9 :: List.replicate (K - 1 - u) 5) ((List.range u).map B ++ w :: b.map B) := h3.app ⟨hw, h4⟩
  have h6 := Det.det_bd (List.range K) (by rw [← hm]; simp) h5
  rw [List.length_range] at h6
  unfold dt
  rw [hm]
  exact Nat.le_trans h6 (fac_le9 K (by omega) u hu)
/-- An entry's fraction: its denominator divides the determinant, and its numerator is no greater than one. -/
theorem Bas.ent (h : Bas K N col q B) (hK : K ≤ 5) (hB : ∀ r, r < K → ∀ k, (B r k).natAbs ≤ 5) (hc9 : ∀ c k, (col c k).natAbs ≤ 9) {c u : Nat} (hc : c < N) (hu : u < K) {a : Rt} (ha : Rd a) (hv : val a = q u c) :
    a.2.natAbs ∣ (dt K B).natAbs ∧ a.1.natAbs ≤ 675000 ∧ Sml a := by
  have h1 := h.key hc hu
  rw [← hv] at h1
  have h2 := val_mul ha.pos
  have h3 : a.1 * dt K B = a.2 * dt K (ud B u (col c)) := by
    have : ((a.1 * dt K B : Int) : Rat) = ((a.2 * dt K (ud B u (col c)) : Int) : Rat) := by
      push_cast
      rw [h1, ← h2]
      grind
    exact_mod_cast this
  have h4 : a.1.natAbs * (dt K B).natAbs = a.2.natAbs * (dt K (ud B u (col c))).natAbs := by rw [← Int.natAbs_mul, ← Int.natAbs_mul, h3]
  have hcop : Nat.Coprime a.2.natAbs a.1.natAbs := by
    have := ha.gcd
    unfold Int.gcd at this
    rw [Nat.gcd_comm] at this
    exact this
  have hdvd : a.2.natAbs ∣ (dt K B).natAbs := hcop.dvd_of_dvd_mul_left ⟨_, h4⟩
  obtain ⟨m, hm⟩ := hdvd
  have hd0 : 0 < (dt K B).natAbs := by have := h.det; omega
  have hm0 : 0 < m := by
    rcases Nat.eq_zero_or_pos m with h5 | h5
    · rw [h5] at hm; simp at hm; exact (h.det hm).elim
    · exact h5
  have hp := ha.pos
  have h5 : a.1.natAbs * m = (dt K (ud B u (col c))).natAbs := by
    rw [hm] at h4
    have h6 : a.2.natAbs * (a.1.natAbs * m) = a.2.natAbs * (dt K (ud B u (col c))).natAbs := by rw [← h4, Nat.mul_left_comm]
    exact Nat.eq_of_mul_eq_mul_left (by omega) h6
  have h6 := dt_bd9 hK hB hu (hc9 c)
  have h7 := dt_bd hK hB
  have h8 : a.1.natAbs ≤ a.1.natAbs * m := Nat.le_mul_of_pos_right _ hm0
  have h9 : a.2.natAbs ≤ a.2.natAbs * m := Nat.le_mul_of_pos_right _ hm0
  exact ⟨⟨m, hm⟩, by omega, ⟨by omega, by omega⟩⟩
/-- A whole multiple of an entry by a divisor of the determinant. -/
theorem Bas.mult (h : Bas K N col q B) (hK : K ≤ 5) (hB : ∀ r, r < K → ∀ k, (B r k).natAbs ≤ 5) (hc9 : ∀ c k, (col c k).natAbs ≤ 9) {c u : Nat} (hc : c < N) (hu : u < K) {v den : Int} (hden : den.natAbs ∣ (dt K B).natAbs) (hd : 0 < den) (hv : (v : Rat) = q u c * (den : Rat)) : -1048576 ≤ v ∧ v ≤ 1048576 := by
  have h1 := h.key hc hu
  obtain ⟨m, hm⟩ := hden
  have h2 : v * dt K B = den * dt K (ud B u (col c)) := by
    have : ((v * dt K B : Int) : Rat) = ((den * dt K (ud B u (col c)) : Int) : Rat) := by
      push_cast
      rw [h1, hv]
      grind
    exact_mod_cast this
  have h4 : v.natAbs * (dt K B).natAbs = den.natAbs * (dt K (ud B u (col c))).natAbs := by rw [← Int.natAbs_mul, ← Int.natAbs_mul, h2]
  have hm0 : 0 < m := by
    rcases Nat.eq_zero_or_pos m with h5 | h5
    · rw [h5] at hm; simp at hm; exact (h.det hm).elim
    · exact h5
  have h5 : v.natAbs * m = (dt K (ud B u (col c))).natAbs := by
    rw [hm] at h4
    have h6 : den.natAbs * (v.natAbs * m) = den.natAbs * (dt K (ud B u (col c))).natAbs := by rw [← h4, Nat.mul_left_comm]
    exact Nat.eq_of_mul_eq_mul_left (by omega) h6
  have h6 := dt_bd9 hK hB hu (hc9 c)
  have h8 : v.natAbs ≤ v.natAbs * m := Nat.le_mul_of_pos_right _ hm0
  omega
end
end Go.Proofs.Ytboefnpnoojfpaa

/-! The elimination as the program does it. Condition: there are enough rounds. -/
namespace Go.Proofs.Ytboefnpnoojfpaa
open Go Go.Md Go.RowKit

def chg (m : Mv) (k : Nat) : Int := m.2.getD k 0 - m.1.getD k 0
/-- The columns: the changes by all moves, the difference, and unit vectors. -/
def col (x : Spec) (s t : List Int) (c : Nat) : Vc := fun k => if c < x.2.length then chg (x.2.getD c ([], [])) k else if c = x.2.length then t.getD k 0 - s.getD k 0 else if k = c - (x.2.length + 1) then 1 else 0
structure Tb (K N : Nat) (M : Tab) (q : Nat → Nat → Rat) : Prop where
  len : M.length = K
  row : ∀ r, r < K → ∃ row : List Rt, M[r]? = some row ∧ row.length = N ∧ ∀ c, c < N → ∃ a, row[c]? = some a ∧ Rd a ∧ val a = q r c
theorem ixg {α : Type} {l : List α} {k : Nat} {a : α} (h : l[k]? = some a) : ix l (k : Int) = some a := by
  unfold ix
  rw [if_pos (by omega)]
  simpa using h
theorem getg {α : Type} {l : List α} {k : Nat} (h : k < l.length) : ∃ a, l[k]? = some a := ⟨_, List.getElem?_eq_getElem h⟩

/-! ### The rows -/
def Rf (N : Nat) (y : List Rt) (f : Nat → Rt) : Prop := y.length = N ∧ ∀ c, c < N → y[c]? = some (f c)
theorem Rf.set {N : Nat} {y : List Rt} {f : Nat → Rt} (h : Rf N y f) {c : Nat} {v : Rt} (hc : c < N) : Rf N (rset y (c : Int) v) (ud f c v) := by
  refine ⟨by simp [rset, h.1], fun d hd => ?_⟩
  simp only [rset, Int.toNat_natCast]
  rw [List.getElem?_set]
  by_cases e : c = d
  · subst e
    rw [if_pos rfl, if_pos (by rw [h.1]; exact hc)]
    simp [ud]
  · rw [if_neg e, h.2 d hd]
    simp [ud, Ne.symm e]
theorem getD_at {l : List Int} {k : Nat} (h : k < l.length) : l.getD k 0 = l[k] := by simp [List.getD_eq_getElem?_getD, List.getElem?_eq_getElem h]
theorem chg_bd {x : Spec} (hx : V x) {m : Mv} (hm : m ∈ x.2) (k : Nat) : -5 ≤ chg m k ∧ chg m k ≤ 5 := by
  obtain ⟨l1, l2, t5, g5⟩ := hx.mv m hm
  unfold chg
  by_cases h : k < x.1.length
  · rw [getD_at (by omega), getD_at (by omega)]
    have := t5 _ (List.getElem_mem (show k < m.1.length by omega))
    have := g5 _ (List.getElem_mem (show k < m.2.length by omega))
    omega
  · rw [List.getD_eq_getElem?_getD, List.getD_eq_getElem?_getD, List.getElem?_eq_none (by omega), List.getElem?_eq_none (by omega)]
    simp
theorem row_eq {F : Nat} {x : Spec} {s t : List Int} (hF : 1000000 < F) (hx : V x) (hs : Stk x s) (ht : Stk x t) {k : Nat} (hk : k < x.1.length) :
    ∃ y, slv_row F x (pad s) (pad t) (x.2.length : Int) (x.1.length : Int) (k : Int) = some y ∧ Rf (x.2.length + 1 + x.1.length) y fun c => (col x s t c k, 1) := by
  have k5 := hx.k5
  have m8 := hx.m8
  have hsl := hs.len
  have htl := ht.len
  obtain ⟨N, hN⟩ : ∃ N, N = x.2.length + 1 + x.1.length := ⟨_, rfl⟩
  unfold slv_row
  have e1 : w64 (w64 ((x.2.length : Int) + 1) + (x.1.length : Int)) = (N : Int) := by
    rw [w64_in (n := (x.2.length : Int) + 1) (by omega), w64_in (by omega)]
    omega
  have e2 : mks 16 (N : Int) ((0, 0) : Rt) = some (List.replicate N (0, 0)) := by
    unfold mks
    rw [if_pos (by simp; omega)]
    simp
  rw [e1, e2]
  simp only [Option.bind_eq_bind, Option.bind_some, List.length_replicate]
  have lz : ∀ (m i : Nat) (y : List Rt), i ≤ N → N - i < m → y.length = N → (∀ c, c < i → y[c]? = some (0, 1)) → ∃ z, slv_z (N : Int) m y (i : Int) = some z ∧ Rf N z fun _ => (0, 1) := by
    intro m
    induction m with
    | zero => intro i _ _ h; omega
    | succ m ih =>
      intro i y hi h hy hc
      simp only [slv_z]
      by_cases hlt : i < N
      · rw [if_pos (ltd hlt), ix_nat (by omega : i < y.length), w64_succ (by omega)]
        simp only [Option.bind_eq_bind, Option.bind_some]
        refine ih (i + 1) _ (by omega) (by omega) (by simp [rset, hy]) fun c hc2 => ?_
        simp only [rset, Int.toNat_natCast]
        rw [List.getElem?_set]
        by_cases e : i = c
        · rw [if_pos e, if_pos (by omega)]
        · rw [if_neg e]
          exact hc c (by omega)
      · have : i = N := by omega
        subst this
        rw [if_neg nltd]
        exact ⟨y, rfl, hy, hc⟩
  obtain ⟨z, z1, z2⟩ := lz F 0 (List.replicate N (0, 0)) (by omega) (by omega) (by simp) (fun c h => by omega)
  simp only [Int.natCast_zero] at z1
  rw [z1]
  simp only [Option.bind_some]
  have lm : ∀ (m i : Nat) (y : List Rt), i ≤ x.2.length → x.2.length - i < m → Rf N y (fun c => if c < i then (chg (x.2.getD c ([], [])) k, 1) else (0, 1)) →
      ∃ z, slv_m x (k : Int) m y (i : Int) = some z ∧ Rf N z (fun c => if c < x.2.length then (chg (x.2.getD c ([], [])) k, 1) else (0, 1)) := by
    intro m
    induction m with
    | zero => intro i _ _ h; omega
    | succ m ih =>
      intro i y hi h hy
      simp only [slv_m]
      by_cases hlt : i < x.2.length
      · have hm := List.getElem_mem hlt
        obtain ⟨l1, l2, _⟩ := hx.mv _ hm
        have c1 : k < x.2[i].2.length := by omega
        have c2 : k < x.2[i].1.length := by omega
        have hb := chg_bd hx hm k
        have hch : chg x.2[i] k = x.2[i].2[k] - x.2[i].1[k] := by unfold chg; rw [getD_at c1, getD_at c2]
        have hd : x.2.getD i ([], []) = x.2[i] := by simp [List.getD_eq_getElem?_getD, List.getElem?_eq_getElem hlt]
        have he : ix y (i : Int) = some (0, 1) := by
          have := ixg (hy.2 i (by omega))
          simp only [if_neg (Nat.lt_irrefl i)] at this
          exact this
        rw [if_pos (ltd hlt), ix_nat hlt, w64_succ (by omega)]
        simp only [Option.bind_eq_bind, Option.bind_some, ix_nat c1, ix_nat c2, he]
        rw [w64_in (by omega), ← hch]
        refine ih (i + 1) _ (by omega) (by omega) ?_
        have := hy.set (c := i) (v := (chg x.2[i] k, 1)) (by omega)
        refine ⟨this.1, fun c hc => ?_⟩
        rw [this.2 c hc]
        congr 1
        simp only [ud]
        by_cases e : c = i
        · subst e
          rw [if_pos rfl, if_pos (by omega), hd]
        · rw [if_neg e]
          by_cases e2 : c < i
          · rw [if_pos e2, if_pos (by omega)]
          · rw [if_neg e2, if_neg (by omega)]
      · have : i = x.2.length := by omega
        subst this
        rw [if_neg nltd]
        exact ⟨y, rfl, hy⟩
  obtain ⟨y, y1, y2⟩ := lm F 0 z (by omega) (by omega) ⟨z2.1, fun c hc => by rw [z2.2 c hc]; simp⟩
  simp only [Int.natCast_zero] at y1
  rw [y1]
  have hks : k < s.length := by omega
  have hkt : k < t.length := by omega
  have b1 := hs.rng hx _ (List.getElem_mem hks)
  have b2 := ht.rng hx _ (List.getElem_mem hkt)
  have e3 : w64 (w64 ((x.2.length : Int) + 1) + (k : Int)) = ((x.2.length + 1 + k : Nat) : Int) := by
    rw [w64_in (n := (x.2.length : Int) + 1) (by omega), w64_in (by omega)]
    omega
  have f1 := ixg (y2.2 x.2.length (by omega))
  simp only [if_neg (Nat.lt_irrefl x.2.length)] at f1
  simp only [Option.bind_some, pad_ix (by omega : t.length ≤ 5) hkt, pad_ix (by omega : s.length ≤ 5) hks, f1, e3]
  rw [w64_in (by omega)]
  have y3 := y2.set (c := x.2.length) (v := (t[k] - s[k], 1)) (by omega)
  have f2 := ixg (y3.2 (x.2.length + 1 + k) (by omega))
  simp only [ud, if_neg (show ¬ x.2.length + 1 + k = x.2.length by omega), if_neg (show ¬ x.2.length + 1 + k < x.2.length by omega)] at f2
  simp only [f2, Option.bind_some]
  have y4 := y3.set (c := x.2.length + 1 + k) (v := (1, 1)) (by omega)
  refine ⟨_, rfl, ?_⟩
  rw [← hN]
  refine ⟨y4.1, fun c hc => ?_⟩
  rw [y4.2 c hc]
  congr 1
  simp only [ud, col]
  by_cases a1 : c = x.2.length + 1 + k
  · rw [if_pos a1, if_neg (by omega), if_neg (by omega), if_pos (by omega)]
  · rw [if_neg a1]
    by_cases a2 : c = x.2.length
    · rw [if_pos a2, if_neg (by omega), if_pos a2, getD_at hkt, getD_at hks]
    · rw [if_neg a2]
      by_cases a3 : c < x.2.length
      · rw [if_pos a3, if_pos a3]
      · rw [if_neg a3, if_neg a3, if_neg a2, if_neg (by omega)]
theorem val_one (n : Int) : val (n, 1) = (n : Rat) := by
  have := val_mul (a := (n, 1)) (by simp)
  simp only at this
  grind
theorem rows_eq {F : Nat} {x : Spec} {s t : List Int} (hF : 1000000 < F) (hx : V x) (hs : Stk x s) (ht : Stk x t) :
    ∃ M, slv_rows F x (pad s) (pad t) (x.2.length : Int) (x.1.length : Int) F [] 0 = some M ∧ Tb x.1.length (x.2.length + 1 + x.1.length) M fun r c => (col x s t c r : Rat) := by
  have k5 := hx.k5
  have loop : ∀ (m k : Nat) (M : Tab), k ≤ x.1.length → x.1.length - k < m → M.length = k → (∀ r, r < k → ∃ row, M[r]? = some row ∧ Rf (x.2.length + 1 + x.1.length) row fun c => (col x s t c r, 1)) →
      ∃ M', slv_rows F x (pad s) (pad t) (x.2.length : Int) (x.1.length : Int) m M (k : Int) = some M' ∧ M'.length = x.1.length ∧ ∀ r, r < x.1.length → ∃ row, M'[r]? = some row ∧ Rf (x.2.length + 1 + x.1.length) row fun c => (col x s t c r, 1) := by
    intro m
    induction m with
    | zero => intro k _ _ h; omega
    | succ m ih =>
      intro k M hk h hM hr
      simp only [slv_rows]
      by_cases hlt : k < x.1.length
      · obtain ⟨y, y1, y2⟩ := row_eq (F := F) hF hx hs ht hlt
        rw [if_pos (ltd hlt), y1, w64_succ (by omega)]
        simp only [Option.bind_eq_bind, Option.bind_some]
        rw [app_some (by simp; omega)]
        simp only [Option.bind_some]
        refine ih (k + 1) _ (by omega) (by omega) (by simp [hM]) fun r hr2 => ?_
        by_cases e : r = k
        · subst e
          exact ⟨y, by rw [← hM, List.getElem?_append_right (Nat.le_refl _)]; simp, y2⟩
        · obtain ⟨row, h1, h2⟩ := hr r (by omega)
          exact ⟨row, by rw [List.getElem?_append_left (by omega)]; exact h1, h2⟩
      · have : k = x.1.length := by omega
        subst this
        rw [if_neg nltd]
        exact ⟨M, rfl, hM, hr⟩
  obtain ⟨M, m1, m2, m3⟩ := loop F 0 [] (by omega) (by omega) rfl (fun r h => by omega)
  refine ⟨M, by simpa using m1, m2, fun r hr => ?_⟩
  obtain ⟨row, h1, h2⟩ := m3 r hr
  refine ⟨row, h1, h2.1, fun c hc => ⟨_, h2.2 c hc, ⟨by simp, ?_⟩, val_one _⟩⟩
  simp only
  exact Int.gcd_one_right _

/-! ### One step -/
section
variable {F K N : Nat} {M : Tab} {q : Nat → Nat → Rat}
theorem Tb.get (h : Tb K N M q) {r c : Nat} (hr : r < K) (hc : c < N) : ∃ row a, M[r]? = some row ∧ row.length = N ∧ row[c]? = some a ∧ Rd a ∧ val a = q r c := by
  obtain ⟨row, h1, h2, h3⟩ := h.row r hr
  obtain ⟨a, h4, h5, h6⟩ := h3 c hc
  exact ⟨row, a, h1, h2, h4, h5, h6⟩
theorem find_eq (h : Tb K N M q) (hF : 1000000 < F) (hK : K ≤ 5) {i used : Nat} (hi : i < N) (hu : used ≤ K) :
    ∃ a : Int, slv_find (K : Int) (i : Int) M F (used : Int) = some a ∧ ((a = -1 ∧ ∀ r, used ≤ r → r < K → q r i = 0) ∨ ∃ r : Nat, a = (r : Int) ∧ used ≤ r ∧ r < K ∧ q r i ≠ 0) := by
  have loop : ∀ (m r : Nat), used ≤ r → r ≤ K → K - r < m → (∀ r', used ≤ r' → r' < r → q r' i = 0) → ∃ a : Int, slv_find (K : Int) (i : Int) M m (r : Int) = some a ∧ ((a = -1 ∧ ∀ r, used ≤ r → r < K → q r i = 0) ∨ ∃ r : Nat, a = (r : Int) ∧ used ≤ r ∧ r < K ∧ q r i ≠ 0) := by
    intro m
    induction m with
    | zero => intro r _ _ h; omega
    | succ m ih =>
      intro r h1 h2 h3 h4
      simp only [slv_find]
      by_cases hlt : r < K
      · obtain ⟨row, a, g1, g2, g3, g4, g5⟩ := h.get hlt hi
        rw [if_pos (ltd hlt), ixg g1]
        simp only [Option.bind_eq_bind, Option.bind_some, ixg g3]
        by_cases e : a = (0, 1)
        · rw [if_neg (by simp [e]), w64_succ (by omega)]
          refine ih (r + 1) (by omega) (by omega) (by omega) fun r' h5 h6 => ?_
          by_cases e2 : r' = r
          · subst e2
            rw [← g5]
            exact g4.val0.2 e
          · exact h4 r' h5 (by omega)
        · rw [if_pos (by simpa using e)]
          exact ⟨_, rfl, .inr ⟨r, rfl, h1, hlt, fun e2 => e (g4.val0.1 (by rw [g5]; exact e2))⟩⟩
      · have : r = K := by omega
        subst this
        rw [if_neg nltd]
        exact ⟨_, rfl, .inl ⟨rfl, h4⟩⟩
  exact loop F used (Nat.le_refl _) hu (by omega) (fun r h1 h2 => by omega)
theorem set_get {α : Type} {l : List α} {i j : Nat} {v : α} (h : i < l.length) : (l.set i v)[j]? = if i = j then some v else l[j]? := by
  rw [List.getElem?_set]
  by_cases e : i = j
  · subst e
    rw [if_pos rfl, if_pos h, if_pos rfl]
  · rw [if_neg e, if_neg e]
theorem Tb.swap (h : Tb K N M q) {u v : Nat} (hu : u < K) (hv : v < K) {p w : List Rt} (hp : M[u]? = some p) (hw : M[v]? = some w) : Tb K N (rset (rset M (u : Int) w) (v : Int) p) (fun r => q (sw u v r)) := by
  have hl := h.len
  refine ⟨by simp [rset, hl], fun r hr => ?_⟩
  have e : (rset (rset M (u : Int) w) (v : Int) p)[r]? = M[sw u v r]? := by
    simp only [rset, Int.toNat_natCast]
    rw [set_get (by simp; omega), set_get (by omega)]
    unfold sw
    by_cases e1 : v = r
    · subst e1
      rw [if_pos rfl]
      by_cases e2 : v = u
      · subst e2
        rw [if_pos rfl, hp]
      · rw [if_neg e2, if_pos rfl, hp]
    · rw [if_neg e1]
      by_cases e2 : u = r
      · subst e2
        rw [if_pos rfl, if_pos rfl, hw]
      · rw [if_neg e2, if_neg (Ne.symm e2), if_neg (Ne.symm e1)]
  rw [e]
  have hsr : sw u v r < K := by
    unfold sw
    split
    · exact hv
    · split
      · exact hu
      · exact hr
  exact h.row _ hsr
/-- Each element of one row is replaced, in place. -/
theorem inplace {u : Nat} {M0 : Tab} {row0 : List Rt} (h0 : M0[u]? = some row0) (hN : row0.length = N) (hN2 : N ≤ 1000) {L : Nat → Tab → Int → Option Tab} {P : Nat → Rt → Prop} (base : ∀ m M, L (m + 1) M (N : Int) = some M)
    (step : ∀ m (M : Tab) (row : List Rt) (c : Nat) (e : Rt), c < N → M[u]? = some row → row0[c]? = some e → row[c]? = some e → (∀ r, r ≠ u → M[r]? = M0[r]?) → ∃ e', P c e' ∧ L (m + 1) M (c : Int) = L m (rset M (u : Int) (rset row (c : Int) e')) ((c + 1 : Nat) : Int)) :
    ∀ m, N < m → ∃ row', L m M0 0 = some (M0.set u row') ∧ row'.length = N ∧ ∀ c, c < N → ∃ e', row'[c]? = some e' ∧ P c e' := by
  have hul := (List.getElem?_eq_some_iff.1 h0).1
  have loop : ∀ (m c : Nat) (row : List Rt), c ≤ N → N - c < m → row.length = N → (∀ c', c' < c → ∃ e', row[c']? = some e' ∧ P c' e') → (∀ c', c ≤ c' → row[c']? = row0[c']?) →
      ∃ row', L m (M0.set u row) (c : Int) = some (M0.set u row') ∧ row'.length = N ∧ ∀ c, c < N → ∃ e', row'[c]? = some e' ∧ P c e' := by
    intro m
    induction m with
    | zero => intro c _ _ h; omega
    | succ m ih =>
      intro c row hc hm hl hd ho
      by_cases hlt : c < N
      · obtain ⟨e, he⟩ := getg (l := row0) (k := c) (by omega)
        obtain ⟨e', p1, p2⟩ := step m (M0.set u row) row c e hlt (by rw [set_get hul, if_pos rfl]) he (by rw [ho c (Nat.le_refl _)]; exact he) (fun r hr => by rw [set_get hul, if_neg (Ne.symm hr)])
        rw [p2]
        have e2 : rset (M0.set u row) (u : Int) (rset row (c : Int) e') = M0.set u (row.set c e') := by simp [rset, List.set_set]
        rw [e2]
        refine ih (c + 1) _ (by omega) (by omega) (by simp [hl]) (fun c' hc' => ?_) (fun c' hc' => ?_)
        · rw [set_get (by omega)]
          by_cases e3 : c = c'
          · subst e3
            exact ⟨e', by rw [if_pos rfl], p1⟩
          · rw [if_neg e3]
            exact hd c' (by omega)
        · rw [set_get (by omega), if_neg (by omega)]
          exact ho c' (by omega)
      · have : c = N := by omega
        subst this
        rw [base]
        exact ⟨row, rfl, hl, hd⟩
  intro m hm
  have e0 : M0.set u row0 = M0 := by
    apply List.ext_getElem?
    intro j
    rw [set_get hul]
    split
    · rename_i e
      rw [← e, h0]
    · rfl
  have := loop m 0 row0 (by omega) (by omega) hN (fun c h => by omega) (fun _ _ => rfl)
  rw [e0] at this
  exact this
theorem Tb.set (h : Tb K N M q) {u : Nat} (hu : u < K) {row : List Rt} (hl : row.length = N) {g : Nat → Rat} (hr : ∀ c, c < N → ∃ a, row[c]? = some a ∧ Rd a ∧ val a = g c) : Tb K N (M.set u row) (fun r c => if r = u then g c else q r c) := by
  refine ⟨by simp [h.len], fun r hr2 => ?_⟩
  rw [set_get (by rw [h.len]; exact hu)]
  by_cases e : u = r
  · subst e
    exact ⟨row, by rw [if_pos rfl], hl, fun c hc => by simpa using hr c hc⟩
  · obtain ⟨row', h1, h2, h3⟩ := h.row r hr2
    refine ⟨row', by rw [if_neg e]; exact h1, h2, fun c hc => ?_⟩
    simp only [if_neg (Ne.symm e)]
    exact h3 c hc
theorem over_row (h : Tb K N M q) (hF : 1000000 < F) (hN : N ≤ 1000) {u : Nat} (hu : u < K) {lead : Rt} (hl : Sml lead) (hl0 : lead.1 ≠ 0) (hS : ∀ c, c < N → ∀ a, Rd a → val a = q u c → Sml a) :
    ∃ M', slv_over F (u : Int) lead (N : Int) F M 0 = some M' ∧ Tb K N M' (fun r c => if r = u then q u c / val lead else q r c) := by
  obtain ⟨row0, h1, h2, h3⟩ := h.row u hu
  have := inplace (u := u) (M0 := M) (row0 := row0) h1 h2 hN (L := fun m M c => slv_over F (u : Int) lead (N : Int) m M c) (P := fun c a => Rd a ∧ val a = q u c / val lead) (fun m M => by
    simp only [slv_over]; rw [if_neg nltd]) (fun m M row c e hc hr he he2 _ => by
    obtain ⟨a, a1, a2, a3⟩ := h3 c hc
    rw [he] at a1
    cases a1
    obtain ⟨r, r1, r2, r3⟩ := over_eq (F := F) hF (hS c hc e a2 a3) hl hl0
    refine ⟨r, ⟨r2, by rw [r3, a3]⟩, ?_⟩
    simp only [slv_over]
    rw [if_pos (ltd hc), ixg hr, w64_succ (by omega)]
    simp only [Option.bind_eq_bind, Option.bind_some, ixg he2, r1]) F (by omega)
  obtain ⟨row', p1, p2, p3⟩ := this
  exact ⟨_, p1, h.set hu p2 p3⟩
theorem Tb.cg {q' : Nat → Nat → Rat} (h : Tb K N M q) (e : ∀ r, r < K → ∀ c, c < N → q r c = q' r c) : Tb K N M q' := by
  refine ⟨h.len, fun r hr => ?_⟩
  obtain ⟨row, h1, h2, h3⟩ := h.row r hr
  refine ⟨row, h1, h2, fun c hc => ?_⟩
  obtain ⟨a, a1, a2, a3⟩ := h3 c hc
  exact ⟨a, a1, a2, by rw [a3, e r hr c hc]⟩
theorem less_row (h : Tb K N M q) (hF : 1000000 < F) (hN : N ≤ 1000) {u r : Nat} (hu : u < K) (hr : r < K) (hne : r ≠ u) {f : Rt} (hf : Sml f)
    (hS : ∀ c, c < N → ∀ a, Rd a → val a = q r c ∨ val a = q u c → Sml a) :
    ∃ M', slv_less F (r : Int) (u : Int) f (N : Int) F M 0 = some M' ∧ Tb K N M' (fun r' c => if r' = r then q r c - val f * q u c else q r' c) := by
  obtain ⟨row0, h1, h2, h3⟩ := h.row r hr
  obtain ⟨rowu, u1, u2, u3⟩ := h.row u hu
  have := inplace (u := r) (M0 := M) (row0 := row0) h1 h2 hN (L := fun m M c => slv_less F (r : Int) (u : Int) f (N : Int) m M c) (P := fun c a => Rd a ∧ val a = q r c - val f * q u c) (fun m M => by
    simp only [slv_less]; rw [if_neg nltd]) (fun m M' row c e hc hr he he2 ho => by
    obtain ⟨a, a1, a2, a3⟩ := h3 c hc
    rw [he] at a1
    cases a1
    obtain ⟨b, b1, b2, b3⟩ := u3 c hc
    have hw : M'[u]? = some rowu := by rw [ho u (Ne.symm hne), u1]
    obtain ⟨z, z1, z2, z3⟩ := less_eq (F := F) hF (hS c hc e a2 (.inl a3)) hf (hS c hc b b2 (.inr b3))
    refine ⟨z, ⟨z2, by rw [z3, a3, b3]⟩, ?_⟩
    simp only [slv_less]
    rw [if_pos (ltd hc), ixg hr, w64_succ (by omega)]
    simp only [Option.bind_eq_bind, Option.bind_some, ixg he2, ixg hw, ixg b1, z1]) F (by omega)
  obtain ⟨row', p1, p2, p3⟩ := this
  exact ⟨_, p1, h.set hr p2 p3⟩
/-- The column i is cleared in all rows but u. -/
theorem elim_eq (h : Tb K N M q) (hF : 1000000 < F) (hN : N ≤ 1000) (hK : K ≤ 5) {u i : Nat} (hu : u < K) (hi : i < N) (hS : ∀ r, r < K → ∀ c, c < N → ∀ a, Rd a → val a = q r c → Sml a) :
    ∃ M', slv_elim F (i : Int) (u : Int) (K : Int) F M 0 = some M' ∧ Tb K N M' (fun r c => if r = u then q u c else q r c - q r i * q u c) := by
  have loop : ∀ (m r : Nat) (M : Tab), r ≤ K → K - r < m → Tb K N M (fun r' c => if r' = u then q u c else if r' < r then q r' c - q r' i * q u c else q r' c) →
      ∃ M', slv_elim F (i : Int) (u : Int) (K : Int) m M (r : Int) = some M' ∧ Tb K N M' (fun r c => if r = u then q u c else q r c - q r i * q u c) := by
    intro m
    induction m with
    | zero => intro r _ _ h; omega
    | succ m ih =>
      intro r M h1 h2 ht
      simp only [slv_elim]
      by_cases hlt : r < K
      · obtain ⟨row, f, g1, g2, g3, g4, g5⟩ := ht.get hlt hi
        rw [if_pos (ltd hlt), ixg g1, w64_succ (by omega)]
        simp only [Option.bind_eq_bind, Option.bind_some, ixg g3]
        by_cases e : r = u
        · subst e
          rw [if_pos (by simp)]
          refine ih (r + 1) M (by omega) (by omega) (ht.cg fun r' hr' c hc => ?_)
          by_cases e1 : r' = r
          · simp [e1]
          · simp only [if_neg e1]
            by_cases e2 : r' < r
            · rw [if_pos e2, if_pos (by omega)]
            · rw [if_neg e2, if_neg (by omega)]
        · simp only [if_neg e, if_neg (Nat.lt_irrefl r)] at g5
          by_cases e0 : f = (0, 1)
          · rw [if_pos (by simp [e0])]
            have hz : q r i = 0 := by rw [← g5]; exact g4.val0.2 e0
            refine ih (r + 1) M (by omega) (by omega) (ht.cg fun r' hr' c hc => ?_)
            by_cases e1 : r' = u
            · simp [e1]
            · simp only [if_neg e1]
              by_cases e2 : r' < r
              · rw [if_pos e2, if_pos (by omega)]
              · rw [if_neg e2]
                by_cases e3 : r' = r
                · subst e3
                  rw [if_pos (by omega), hz]
                  grind
                · rw [if_neg (by omega)]
          · rw [if_neg (by simp [e0]; omega), g2]
            obtain ⟨M', m1, m2⟩ := less_row (F := F) ht hF hN hu hlt e (f := f) (hS r hlt i hi f g4 g5) (fun c hc a ha hv => by
              simp only [if_neg e, if_neg (Nat.lt_irrefl r), if_true] at hv
              rcases hv with hv | hv
              · exact hS r hlt c hc a ha hv
              · exact hS u hu c hc a ha hv)
            rw [m1]
            simp only [Option.bind_some]
            refine ih (r + 1) M' (by omega) (by omega) (m2.cg fun r' hr' c hc => ?_)
            by_cases e3 : r' = r
            · subst e3
              simp only [if_neg e, if_neg (Nat.lt_irrefl r'), if_true, g5]
              rw [if_pos (by omega)]
            · simp only [if_neg e3]
              by_cases e1 : r' = u
              · simp [e1]
              · simp only [if_neg e1]
                by_cases e2 : r' < r
                · rw [if_pos e2, if_pos (by omega)]
                · rw [if_neg e2, if_neg (by omega)]
      · have : r = K := by omega
        subst this
        rw [if_neg nltd]
        refine ⟨M, rfl, ht.cg fun r' hr' c hc => ?_⟩
        by_cases e1 : r' = u
        · simp [e1]
        · simp only [if_neg e1]
          rw [if_pos hr']
  exact loop F 0 M (by omega) (by omega) (h.cg fun r hr c hc => by
    by_cases e1 : r = u
    · simp [e1]
    · simp [e1])
end
end Go.Proofs.Ytboefnpnoojfpaa

/-! The whole elimination, and what it returns. Condition: there are enough rounds. -/
namespace Go.Proofs.Ytboefnpnoojfpaa
open Go Go.Md Go.RowKit

def tv (f : Nat → Nat → Rat) (z : Int) (j : Nat) : Rat := if 0 ≤ z then f z.toNat j else 0
theorem sm_succ {f : Nat → Rat} {i : Nat} : sm f (List.range (i + 1)) = sm f (List.range i) + f i := by
  rw [List.range_succ, sm_app]
  simp only [sm]
  grind
/-- The tableau of fractions with the columns i and on still to come. -/
structure MI (x : Spec) (s t : List Int) (i : Nat) (M : Tab) (T : List Int) (used : Nat) (q : Nat → Nat → Rat) (B : Nat → Vc) (piv : Nat → Nat) : Prop where
  tb : Tb x.1.length (x.2.length + 1 + x.1.length) M q
  bas : Bas x.1.length (x.2.length + 1 + x.1.length) (col x s t) q B
  b5 : ∀ r, r < x.1.length → ∀ k, (B r k).natAbs ≤ 5
  uk : used ≤ x.1.length
  tl : T.length = x.2.length
  pv1 : ∀ r, r < used → piv r < i ∧ B r = col x s t (piv r)
  tj : ∀ j, j < i → ∃ z : Int, T[j]? = some z ∧ (z = -1 ∨ ∃ r : Nat, z = (r : Int) ∧ r < used)
  ts : ∀ f : Nat → Nat → Rat, sm (fun j => tv f (T.getD j 0) j) (List.range i) = sm (fun r => f r (piv r)) (List.range used)
  zz : ∀ r, used ≤ r → r < x.1.length → ∀ j, j < i → q r j = 0
  lin : ∀ r, r < x.1.length → ∀ c, c ≤ x.2.length → q r c = sm (fun k => q r (x.2.length + 1 + k) * (col x s t c k : Rat)) (List.range x.1.length)
section
variable {F : Nat} {x : Spec} {s t : List Int} {i : Nat} {M : Tab} {T : List Int} {used : Nat} {q : Nat → Nat → Rat} {B : Nat → Vc} {piv : Nat → Nat}
theorem col_bd (hx : V x) (hs : Stk x s) (ht : Stk x t) (c k : Nat) : (col x s t c k).natAbs ≤ 9 ∧ (c ≠ x.2.length → (col x s t c k).natAbs ≤ 5) := by
  unfold col
  by_cases h1 : c < x.2.length
  · rw [if_pos h1]
    have hm : x.2.getD c ([], []) ∈ x.2 := by
      rw [List.getD_eq_getElem?_getD, List.getElem?_eq_getElem h1]
      exact List.getElem_mem h1
    have := chg_bd hx hm k
    omega
  · rw [if_neg h1]
    by_cases h2 : c = x.2.length
    · rw [if_pos h2]
      refine ⟨?_, fun h => absurd h2 h⟩
      have hsl := hs.len
      have htl := ht.len
      by_cases h : k < x.1.length
      · rw [getD_at (by omega), getD_at (by omega)]
        have := hs.rng hx _ (List.getElem_mem (show k < s.length by omega))
        have := ht.rng hx _ (List.getElem_mem (show k < t.length by omega))
        omega
      · rw [List.getD_eq_getElem?_getD, List.getD_eq_getElem?_getD, List.getElem?_eq_none (by omega), List.getElem?_eq_none (by omega)]
        simp
    · rw [if_neg h2]
      split <;> simp
theorem MI.sml (h : MI x s t i M T used q B piv) (hx : V x) (hs : Stk x s) (ht : Stk x t) {r c : Nat} (hr : r < x.1.length) (hc : c < x.2.length + 1 + x.1.length) {a : Rt} (ha : Rd a) (hv : val a = q r c) : Sml a :=
  (h.bas.ent hx.k5 h.b5 (fun c k => (col_bd hx hs ht c k).1) hc hr ha hv).2.2
theorem MI.skip (h : MI x s t i M T used q B piv) (hi : i < x.2.length) (hz : ∀ r, used ≤ r → r < x.1.length → q r i = 0) : MI x s t (i + 1) M (rset T (i : Int) (-1)) used q B piv := by
  have htl := h.tl
  have e : rset T (i : Int) (-1) = T.set i (-1) := by simp [rset]
  rw [e]
  refine ⟨h.tb, h.bas, h.b5, h.uk, by simp [htl], fun r hr => ⟨by have := (h.pv1 r hr).1; omega, (h.pv1 r hr).2⟩, fun j hj => ?_, fun f => ?_, fun r h1 h2 j hj => ?_, h.lin⟩
  · rw [set_get (by omega)]
    by_cases e1 : i = j
    · exact ⟨-1, by rw [if_pos e1], .inl rfl⟩
    · rw [if_neg e1]
      exact h.tj j (by omega)
  · rw [sm_succ, ← h.ts f]
    have e1 : sm (fun j => tv f ((T.set i (-1)).getD j 0) j) (List.range i) = sm (fun j => tv f (T.getD j 0) j) (List.range i) := sm_congr fun j hj => by
      have hj := List.mem_range.1 hj
      rw [List.getD_eq_getElem?_getD, List.getD_eq_getElem?_getD, set_get (by omega), if_neg (by omega)]
    have e2 : tv f ((T.set i (-1)).getD i 0) i = 0 := by
      rw [List.getD_eq_getElem?_getD, set_get (by omega), if_pos rfl]
      rfl
    rw [e1, e2]
    grind
  · by_cases e1 : j = i
    · subst e1
      exact hz r h1 h2
    · exact h.zz r h1 h2 j (by omega)
theorem MI.one (h : MI x s t i M T used q B piv) (hx : V x) (hs : Stk x s) (ht : Stk x t) (hi : i < x.2.length) {v : Nat} (h1 : used ≤ v) (h2 : v < x.1.length) (h0 : q v i ≠ 0) {M3 : Tab} (hM : Tb x.1.length (x.2.length + 1 + x.1.length) M3 (pv (fun r => q (sw used v r)) used i)) :
    MI x s t (i + 1) M3 (rset (rset T (i : Int) (-1)) (i : Int) (used : Int)) (used + 1) (pv (fun r => q (sw used v r)) used i) (ud (fun r => B (sw used v r)) used (col x s t i)) (ud piv used i) := by
  have htl := h.tl
  have hu : used < x.1.length := by omega
  have hsu : sw used v used = v := by simp [sw]
  have hsl : ∀ r, r < used → sw used v r = r := fun r hr => by
    unfold sw
    rw [if_neg (by omega), if_neg (by omega)]
  have hsg : ∀ r, used ≤ r → r < x.1.length → used ≤ sw used v r ∧ sw used v r < x.1.length := fun r hr hr2 => by
    unfold sw
    split
    · omega
    · split <;> omega
  have hsk : ∀ r, r < x.1.length → sw used v r < x.1.length := fun r hr => by
    rcases Nat.lt_or_ge r used with h3 | h3
    · rw [hsl r h3]; exact hr
    · exact (hsg r h3 hr).2
  have e : rset (rset T (i : Int) (-1)) (i : Int) (used : Int) = T.set i (used : Int) := by simp [rset, List.set_set]
  rw [e]
  refine ⟨hM, (h.bas.swap hu h2).pivot (by omega) hu (by simpa only [hsu] using h0), fun r hr k => ?_, by omega, by simp [htl], fun r hr => ?_, fun j hj => ?_, fun f => ?_, fun r h3 h4 j hj => ?_, fun r hr c hc => ?_⟩
  · simp only [ud]
    split
    · exact (col_bd hx hs ht i k).2 (by omega)
    · exact h.b5 _ (hsk r hr) k
  · by_cases e1 : r = used
    · subst e1
      simp [ud]
    · have h3 := h.pv1 r (by omega)
      simp only [ud, if_neg e1]
      rw [hsl r (by omega)]
      exact ⟨by omega, h3.2⟩
  · rw [set_get (by omega)]
    by_cases e1 : i = j
    · exact ⟨_, by rw [if_pos e1], .inr ⟨used, rfl, by omega⟩⟩
    · rw [if_neg e1]
      obtain ⟨z, z1, z2⟩ := h.tj j (by omega)
      refine ⟨z, z1, z2.imp id fun ⟨r, h3, h4⟩ => ⟨r, h3, by omega⟩⟩
  · rw [sm_succ, sm_succ]
    have e1 : sm (fun j => tv f ((T.set i (used : Int)).getD j 0) j) (List.range i) = sm (fun j => tv f (T.getD j 0) j) (List.range i) := sm_congr fun j hj => by
      have hj := List.mem_range.1 hj
      rw [List.getD_eq_getElem?_getD, List.getD_eq_getElem?_getD, set_get (by omega), if_neg (by omega)]
    have e2 : tv f ((T.set i (used : Int)).getD i 0) i = f used i := by
      rw [List.getD_eq_getElem?_getD, set_get (by omega), if_pos rfl]
      simp [tv]
    have e3 : sm (fun r => f r (ud piv used i r)) (List.range used) = sm (fun r => f r (piv r)) (List.range used) := sm_congr fun r hr => by
      have hr := List.mem_range.1 hr
      simp only [ud, if_neg (show ¬ r = used by omega)]
    have e4 : f used (ud piv used i used) = f used i := by simp [ud]
    rw [e1, e2, e3, e4, h.ts f]
  · simp only [pv, if_neg (show ¬ r = used by omega), hsu]
    have h5 := hsg r (by omega) h4
    by_cases e1 : j = i
    · subst e1
      grind
    · rw [h.zz _ h5.1 h5.2 j (by omega), h.zz v h1 h2 j (by omega)]
      grind
  · have l1 := h.lin v h2 c hc
    simp only [pv, hsu]
    by_cases e1 : r = used
    · simp only [if_pos e1]
      have : sm (fun k => q v (x.2.length + 1 + k) / q v i * (col x s t c k : Rat)) (List.range x.1.length) = sm (fun k => (1 / q v i) * (q v (x.2.length + 1 + k) * (col x s t c k : Rat))) (List.range x.1.length) := sm_congr fun k _ => by grind
      rw [this, sm_mul, ← l1]
      grind
    · simp only [if_neg e1]
      have l2 := h.lin _ (hsk r hr) c hc
      have : sm (fun k => (q (sw used v r) (x.2.length + 1 + k) - q (sw used v r) i * (q v (x.2.length + 1 + k) / q v i)) * (col x s t c k : Rat)) (List.range x.1.length)
          = sm (fun k => q (sw used v r) (x.2.length + 1 + k) * (col x s t c k : Rat) - (q (sw used v r) i / q v i) * (q v (x.2.length + 1 + k) * (col x s t c k : Rat))) (List.range x.1.length) := sm_congr fun k _ => by grind
      rw [this, sm_lin, ← l1, ← l2]
      grind
theorem main_eq (hF : 1000000 < F) (hx : V x) (hs : Stk x s) (ht : Stk x t) : ∀ (m i : Nat) (M : Tab) (T : List Int) (used : Nat) (q : Nat → Nat → Rat) (B : Nat → Vc) (piv : Nat → Nat), i ≤ x.2.length → x.2.length - i < m → MI x s t i M T used q B piv →
    ∃ M' T' used' q' B' piv', slv_main F (x.2.length : Int) (x.1.length : Int) m M T (used : Int) (i : Int) = some (M', T', ((used' : Nat) : Int)) ∧ MI x s t x.2.length M' T' used' q' B' piv' := by
  have k5 := hx.k5
  have m8 := hx.m8
  intro m
  induction m with
  | zero => intro i _ _ _ _ _ _ _ h; omega
  | succ m ih =>
    intro i M T used q B piv hi hm h
    simp only [slv_main]
    by_cases hlt : i < x.2.length
    · have htl := h.tl
      have huk := h.uk
      rw [if_pos (ltd hlt), ix_nat (show i < T.length by omega), w64_succ (by omega)]
      simp only [Option.bind_eq_bind, Option.bind_some]
      obtain ⟨a, a1, a2⟩ := find_eq (F := F) h.tb hF k5 (i := i) (by omega) h.uk
      rw [a1]
      simp only [Option.bind_some]
      rcases a2 with ⟨rfl, hz⟩ | ⟨v, rfl, h1, h2, h0⟩
      · rw [if_pos (by decide)]
        exact ih (i + 1) M _ used q B piv (by omega) (by omega) (h.skip hlt hz)
      · have hu : used < x.1.length := by omega
        rw [if_neg (by simp)]
        obtain ⟨p, p1, _⟩ := h.tb.row used hu
        obtain ⟨w, lead, g1, g2, g3, g4, g5⟩ := h.tb.get (c := i) h2 (by omega)
        simp only [ixg p1, ixg g1, Option.bind_some, ixg g3]
        have t1 := h.tb.swap hu h2 p1 g1
        have hsu : sw used v used = v := by simp [sw]
        have hbas := h.bas.swap hu h2
        have hsk : ∀ r, r < x.1.length → sw used v r < x.1.length := fun r hr => by
          unfold sw
          split
          · exact h2
          · split <;> omega
        have hsml : ∀ r, r < x.1.length → ∀ c, c < x.2.length + 1 + x.1.length → ∀ a, Rd a → val a = q (sw used v r) c → Sml a := fun r hr c hc a ha hv => h.sml hx hs ht (hsk r hr) hc ha hv
        have hls : Sml lead := h.sml hx hs ht h2 (by omega) g4 g5
        have hl0 : lead.1 ≠ 0 := fun e => h0 (by
          rw [← g5]
          have := val_mul g4.pos
          rw [e] at this
          have := ne0 (show lead.2 ≠ 0 by have := g4.pos; omega)
          grind)
        obtain ⟨M2, o1, o2⟩ := over_row (F := F) t1 hF (by omega) hu hls hl0 (hsml used hu)
        rw [g2, o1]
        simp only [Option.bind_some, o2.len]
        have h0' : (fun r => q (sw used v r)) used i ≠ 0 := by simpa only [hsu] using h0
        have hp : Bas x.1.length (x.2.length + 1 + x.1.length) (col x s t) (pv (fun r => q (sw used v r)) used i) (ud (fun r => B (sw used v r)) used (col x s t i)) := hbas.pivot (by omega) hu h0'
        have hb5 : ∀ r, r < x.1.length → ∀ k, (ud (fun r => B (sw used v r)) used (col x s t i) r k).natAbs ≤ 5 := fun r hr k => by
          simp only [ud]
          split
          · exact (col_bd hx hs ht i k).2 (by omega)
          · exact h.b5 _ (hsk r hr) k
        obtain ⟨M3, e1, e2⟩ := elim_eq (F := F) o2 hF (by omega) k5 (u := used) (i := i) hu (by omega) (fun r hr c hc a ha hv => by
          by_cases e : r = used
          · subst e
            simp only [if_true] at hv
            refine (hp.ent k5 hb5 (fun c k => (col_bd hx hs ht c k).1) hc hr ha ?_).2.2
            rw [hv]
            simp only [pv, if_true, hsu, g5]
          · simp only [if_neg e] at hv
            exact hsml r hr c hc a ha hv)
        rw [e1]
        simp only [Option.bind_some]
        rw [w64_succ (by omega)]
        have t3 : Tb x.1.length (x.2.length + 1 + x.1.length) M3 (pv (fun r => q (sw used v r)) used i) := e2.cg fun r hr c hc => by
          by_cases e : r = used
          · subst e
            simp only [pv, if_true, hsu, g5]
          · simp only [pv, if_neg e, if_true, hsu, g5]
        exact ih (i + 1) M3 _ (used + 1) _ _ _ (by omega) (by omega) (h.one hx hs ht hlt h1 h2 h0 t3)
    · have : i = x.2.length := by omega
      subst this
      rw [if_neg nltd]
      exact ⟨M, T, used, q, B, piv, rfl, h⟩
end
end Go.Proofs.Ytboefnpnoojfpaa

/-! What solve returns: weights that part the two stocks, or a mixture that gives the way. Condition: there are enough rounds. -/
namespace Go.Proofs.Ytboefnpnoojfpaa
open Go Go.Md Go.RowKit

theorem sm_cons {f : Nat → Rat} {n : Nat} : sm f (List.range (n + 1)) = f 0 + sm (fun k => f (k + 1)) (List.range n) := by
  rw [List.range_succ_eq_map]
  simp only [sm, sm_map]
theorem dot_sm : ∀ {w l : List Int}, w.length = l.length → ((dot w l : Int) : Rat) = sm (fun k => (w.getD k 0 : Rat) * (l.getD k 0 : Rat)) (List.range w.length)
  | [], [], _ => rfl
  | a :: w, b :: l, h => by
    simp only [List.length_cons, Nat.add_right_cancel_iff] at h
    rw [List.length_cons, sm_cons]
    have := dot_sm h
    simp only [List.getD_cons_succ, List.getD_cons_zero]
    rw [← this]
    simp only [dot]
    push_cast
    rfl
  | [], _ :: _, h => by simp at h
  | _ :: _, [], h => by simp at h
/-- What a mixture changes of one kind. -/
def msum : List Int → List Mv → Nat → Int
  | v :: vs, m :: ms, k => v * chg m k + msum vs ms k
  | _, _, _ => 0
theorem msum_sm {k : Nat} : ∀ {vs : List Int} {ms : List Mv}, vs.length = ms.length → ((msum vs ms k : Int) : Rat) = sm (fun j => (vs.getD j 0 : Rat) * (chg (ms.getD j ([], [])) k : Rat)) (List.range vs.length)
  | [], [], _ => rfl
  | a :: w, b :: l, h => by
    simp only [List.length_cons, Nat.add_right_cancel_iff] at h
    rw [List.length_cons, sm_cons]
    have := msum_sm (k := k) h
    simp only [List.getD_cons_succ, List.getD_cons_zero]
    rw [← this]
    simp only [msum]
    push_cast
    rfl
  | [], _ :: _, h => by simp at h
  | _ :: _, [], h => by simp at h
section
variable {F : Nat} {x : Spec} {s t : List Int} {i : Nat} {M : Tab} {T : List Int} {used : Nat} {q : Nat → Nat → Rat} {B : Nat → Vc} {piv : Nat → Nat}
theorem MI.start (hx : V x) (hs : Stk x s) (ht : Stk x t) (hM : Tb x.1.length (x.2.length + 1 + x.1.length) M fun r c => (col x s t c r : Rat)) : MI x s t 0 M (List.replicate x.2.length 0) 0 (fun r c => (col x s t c r : Rat)) Det.unit (fun _ => 0) := by
  have hu : ∀ k r, col x s t (x.2.length + 1 + k) r = if r = k then 1 else 0 := fun k r => by
    unfold col
    rw [if_neg (by omega), if_neg (by omega)]
    rw [show x.2.length + 1 + k - (x.2.length + 1) = k by omega]
  refine ⟨hM, ⟨fun c hc k => ?_, ?_⟩, fun r hr k => ?_, by omega, by simp, fun r hr => by omega, fun j hj => by omega, fun f => rfl, fun r h1 h2 j hj => by omega, fun r hr c hc => ?_⟩
  · by_cases hk : k < x.1.length
    · rw [sm_range_one hk]
      · simp [Det.unit]
      · intro r hr hne
        simp only [Det.unit, if_neg (Ne.symm hne)]
        grind
    · rw [sm_zero]
      · have : col x s t c k = 0 := by
          have hsl := hs.len
          have htl := ht.len
          unfold col
          by_cases h1 : c < x.2.length
          · rw [if_pos h1]
            have hm : x.2.getD c ([], []) ∈ x.2 := by
              rw [List.getD_eq_getElem?_getD, List.getElem?_eq_getElem h1]
              exact List.getElem_mem h1
            obtain ⟨l1, l2, _⟩ := hx.mv _ hm
            unfold chg
            rw [List.getD_eq_getElem?_getD, List.getD_eq_getElem?_getD (l := (x.2.getD c ([], [])).1), List.getElem?_eq_none (by omega), List.getElem?_eq_none (by omega)]
            rfl
          · rw [if_neg h1]
            by_cases h2 : c = x.2.length
            · rw [if_pos h2, List.getD_eq_getElem?_getD, List.getD_eq_getElem?_getD, List.getElem?_eq_none (by omega), List.getElem?_eq_none (by omega)]
              rfl
            · rw [if_neg h2, if_neg (by omega)]
        rw [this]
        rfl
      · intro r hr
        have := List.mem_range.1 hr
        simp only [Det.unit, if_neg (show ¬ k = r by omega)]
        grind
  · unfold dt
    rw [Det.det_unit hx.k5]
    decide
  · unfold Det.unit
    split <;> simp
  · rw [sm_range_one hr]
    · rw [hu, if_pos rfl]
      grind
    · intro k hk hne
      rw [hu, if_neg (Ne.symm hne)]
      grind
theorem MI.lst (h : MI x s t x.2.length M T used q B piv) (hF : 1000000 < F) (hx : V x) (hs : Stk x s) (ht : Stk x t) :
    (∃ w : List Int, slv_last F (x.2.length : Int) (x.1.length : Int) M F (used : Int) = some (.inl w) ∧ w.length = x.1.length ∧ WB w ∧ ∃ r : Nat, ∃ den : Int, r < x.1.length ∧ 0 < den ∧ q r x.2.length ≠ 0 ∧ (∀ j, j < x.2.length → q r j = 0) ∧ ∀ k, k < x.1.length → (w.getD k 0 : Rat) = q r (x.2.length + 1 + k) * (den : Rat)) ∨
    (slv_last F (x.2.length : Int) (x.1.length : Int) M F (used : Int) = some (.inr ()) ∧ ∀ r, used ≤ r → r < x.1.length → q r x.2.length = 0) := by
  have k5 := hx.k5
  have m8 := hx.m8
  have hc9 := fun c k => (col_bd hx hs ht c k).1
  have loop : ∀ (m r : Nat), used ≤ r → r ≤ x.1.length → x.1.length - r < m → (∀ r', used ≤ r' → r' < r → q r' x.2.length = 0) →
      (∃ w : List Int, slv_last F (x.2.length : Int) (x.1.length : Int) M m (r : Int) = some (.inl w) ∧ w.length = x.1.length ∧ WB w ∧ ∃ r : Nat, ∃ den : Int, r < x.1.length ∧ 0 < den ∧ q r x.2.length ≠ 0 ∧ (∀ j, j < x.2.length → q r j = 0) ∧ ∀ k, k < x.1.length → (w.getD k 0 : Rat) = q r (x.2.length + 1 + k) * (den : Rat)) ∨
      (slv_last F (x.2.length : Int) (x.1.length : Int) M m (r : Int) = some (.inr ()) ∧ ∀ r, used ≤ r → r < x.1.length → q r x.2.length = 0) := by
    intro m
    induction m with
    | zero => intro r _ _ h; omega
    | succ m ih =>
      intro r h1 h2 h3 h4
      simp only [slv_last]
      by_cases hlt : r < x.1.length
      · obtain ⟨row, g1, g2, g3⟩ := h.tb.row r hlt
        obtain ⟨a, a1, a2, a3⟩ := g3 x.2.length (by omega)
        rw [if_pos (ltd hlt), ixg g1]
        simp only [Option.bind_eq_bind, Option.bind_some, ixg a1]
        by_cases e : a = (0, 1)
        · rw [if_neg (by simp [e]), w64_succ (by omega)]
          refine ih (r + 1) (by omega) (by omega) (by omega) fun r' h5 h6 => ?_
          by_cases e2 : r' = r
          · subst e2
            rw [← a3]
            exact a2.val0.2 e
          · exact h4 r' h5 (by omega)
        · rw [if_pos (by simpa using e), w64_succ (by omega)]
          have hsd : sdrop row ((x.2.length + 1 : Nat) : Int) = some (row.drop (x.2.length + 1)) := by
            unfold sdrop
            rw [if_pos (by omega)]
            simp
          rw [hsd]
          simp only [Option.bind_some]
          have hdr : ∀ k, k < x.1.length → ∃ b, (row.drop (x.2.length + 1))[k]? = some b ∧ Rd b ∧ val b = q r (x.2.length + 1 + k) := fun k hk => by
            rw [List.getElem?_drop]
            exact g3 _ (by omega)
          have hdl : (row.drop (x.2.length + 1)).length = x.1.length := by rw [List.length_drop]; omega
          have hdet := h.bas.det
          obtain ⟨out, den, w1, w2, w3, w4, w5⟩ := whole_eq (F := F) (l := row.drop (x.2.length + 1)) (del := (dt x.1.length B).natAbs) hF (by omega) (fun b hb => by
            obtain ⟨k, hk, rfl⟩ := List.getElem_of_mem hb
            rw [hdl] at hk
            obtain ⟨b', b1, b2, b3⟩ := hdr k hk
            rw [List.getElem?_eq_getElem (by rw [hdl]; exact hk)] at b1
            cases b1
            have := h.bas.ent k5 h.b5 hc9 (by omega) hlt b2 b3
            exact ⟨this.2.2, this.1⟩) (by have := dt_bd k5 h.b5; omega)
          rw [w1]
          have hv : ∀ k, k < x.1.length → (out.getD k 0 : Rat) = q r (x.2.length + 1 + k) * (den : Rat) := fun k hk => by
            obtain ⟨b, b1, b2, b3⟩ := hdr k hk
            obtain ⟨v, v1, v2⟩ := w5 k b b1
            rw [List.getD_eq_getElem?_getD, v1]
            simp only [Option.getD_some]
            rw [v2, b3]
          refine .inl ⟨out, rfl, by rw [w4, hdl], fun n hn => ?_, r, den, hlt, w2, fun e2 => e (a2.val0.1 (by rw [a3]; exact e2)), fun j hj => h.zz r h1 hlt j hj, hv⟩
          obtain ⟨k, hk, rfl⟩ := List.getElem_of_mem hn
          rw [w4, hdl] at hk
          have := hv k hk
          rw [getD_at (by omega)] at this
          exact h.bas.mult k5 h.b5 hc9 (by omega) hlt w3 w2 this
      · have : r = x.1.length := by omega
        subst this
        rw [if_neg nltd]
        exact .inr ⟨rfl, h4⟩
  exact loop F used (Nat.le_refl _) h.uk (by omega) (fun r h1 h2 => by omega)
theorem MI.tms (h : MI x s t x.2.length M T used q B piv) (hF : 1000000 < F) (hx : V x) : ∃ l : List Rt, slv_times (x.2.length : Int) M T F (List.replicate x.2.length (0, 0)) 0 = some l ∧ l.length = x.2.length ∧
    ∀ j, j < x.2.length → ∃ a, l[j]? = some a ∧ Rd a ∧ val a = tv (fun r _ => q r x.2.length) (T.getD j 0) j := by
  have k5 := hx.k5
  have m8 := hx.m8
  have htl := h.tl
  have huk := h.uk
  have loop : ∀ (m i : Nat) (y : List Rt), i ≤ x.2.length → x.2.length - i < m → y.length = x.2.length → (∀ j, j < i → ∃ a, y[j]? = some a ∧ Rd a ∧ val a = tv (fun r _ => q r x.2.length) (T.getD j 0) j) →
      ∃ l : List Rt, slv_times (x.2.length : Int) M T m y (i : Int) = some l ∧ l.length = x.2.length ∧ ∀ j, j < x.2.length → ∃ a, l[j]? = some a ∧ Rd a ∧ val a = tv (fun r _ => q r x.2.length) (T.getD j 0) j := by
    intro m
    induction m with
    | zero => intro r _ _ h; omega
    | succ m ih =>
      intro i y hi hm hy hj
      simp only [slv_times]
      by_cases hlt : i < x.2.length
      · obtain ⟨z, z1, z2⟩ := h.tj i hlt
        rw [if_pos (by rw [htl]; exact ltd hlt), ixg z1, ix_nat (by omega : i < y.length), w64_succ (by omega)]
        simp only [Option.bind_eq_bind, Option.bind_some]
        have hTd : T.getD i 0 = z := by rw [List.getD_eq_getElem?_getD, z1]; rfl
        have key : ∀ v : Rt, Rd v → val v = tv (fun r _ => q r x.2.length) (T.getD i 0) i → ∀ j, j < i + 1 → ∃ a, (y.set i v)[j]? = some a ∧ Rd a ∧ val a = tv (fun r _ => q r x.2.length) (T.getD j 0) j := fun v v1 v2 j hj2 => by
          rw [set_get (by omega)]
          by_cases e : i = j
          · subst e
            exact ⟨v, by rw [if_pos rfl], v1, v2⟩
          · rw [if_neg e]
            exact hj j (by omega)
        rcases z2 with rfl | ⟨r, rfl, hr⟩
        · rw [if_neg (by decide)]
          have e : rset y (i : Int) (0, 1) = y.set i (0, 1) := by simp [rset]
          rw [e]
          exact ih (i + 1) _ (by omega) (by omega) (by simp [hy]) (key _ Rd.zero (by rw [hTd, val_zero]; rfl))
        · obtain ⟨row, a, g1, g2, g3, g4, g5⟩ := h.tb.get (r := r) (c := x.2.length) (by omega) (by omega)
          rw [if_pos (by simp), ixg g1]
          simp only [Option.bind_some, ixg g3]
          have e : rset (rset y (i : Int) (0, 1)) (i : Int) a = y.set i a := by simp [rset, List.set_set]
          rw [e]
          exact ih (i + 1) _ (by omega) (by omega) (by simp [hy]) (key _ g4 (by rw [hTd, g5]; simp [tv]))
      · have : i = x.2.length := by omega
        subst this
        rw [if_neg (by rw [htl]; exact nltd)]
        exact ⟨y, rfl, hy, hj⟩
  exact loop F 0 _ (by omega) (by omega) (by simp) (fun j h => by omega)
/-- Weights that part s from t. -/
structure WP (x : Spec) (s t w : List Int) : Prop where
  len : w.length = x.1.length
  wb : WB w
  mv : ∀ m ∈ x.2, dot w m.1 = dot w m.2
  ne : dot w s ≠ dot w t
/-- A mixture that leads from s to t. -/
structure MP (x : Spec) (s t : List Int) (q : List Int × Int) : Prop where
  len : q.1.length = x.2.length
  wb : WB q.1
  den : 1 ≤ q.2 ∧ q.2 ≤ 1048576
  eq : ∀ k, k < x.1.length → msum q.1 x.2 k = q.2 * (t.getD k 0 - s.getD k 0)
theorem solve_eq (hF : 1000000 < F) (hx : V x) (hs : Stk x s) (ht : Stk x t) : ∃ w p, bath_shop_solve F (x, Opq.mk) (pad s) (pad t) = some (w, p) ∧ (WP x s t w ∨ (w = [] ∧ MP x s t p)) := by
  have k5 := hx.k5
  have m8 := hx.m8
  have hsl := hs.len
  have htl := ht.len
  have hc9 := fun c k => (col_bd hx hs ht c k).1
  unfold bath_shop_solve
  obtain ⟨M, m1, m2⟩ := rows_eq (F := F) hF hx hs ht
  simp only [m1, Option.bind_eq_bind, Option.bind_some]
  have e1 : ∀ (b : Nat) {α : Type} (z : α), b ≤ 100 → mks b (x.2.length : Int) z = some (List.replicate x.2.length z) := fun b α z hb => by
    unfold mks
    rw [if_pos ⟨by omega, by
      rw [Int.toNat_natCast]
      have := Nat.mul_le_mul m8 hb
      omega⟩]
    simp
  rw [e1 8 _ (by omega)]
  simp only [Option.bind_some]
  obtain ⟨M', T', used', q', B', piv', n1, n2⟩ := main_eq (F := F) hF hx hs ht F 0 M _ 0 _ _ _ (by omega) (by omega) (MI.start hx hs ht m2)
  simp only [Int.natCast_zero] at n1
  rw [n1]
  simp only [Option.bind_some]
  have hcol : ∀ j, j < x.2.length → ∀ k, col x s t j k = chg (x.2.getD j ([], [])) k := fun j hj k => by unfold col; rw [if_pos hj]
  have hcn : ∀ k, col x s t x.2.length k = t.getD k 0 - s.getD k 0 := fun k => by unfold col; rw [if_neg (by omega), if_pos rfl]
  rcases n2.lst hF hx hs ht with ⟨w, w1, w2, w3, r, den, r1, r2, r3, r4, r5⟩ | ⟨l1, l2⟩
  · rw [w1]
    refine ⟨w, _, rfl, .inl ⟨w2, w3, fun m hm => ?_, fun e => ?_⟩⟩
    · obtain ⟨j, hj, rfl⟩ := List.getElem_of_mem hm
      obtain ⟨h1, h2, _⟩ := hx.mv _ (List.getElem_mem hj)
      have a1 := n2.lin r r1 j (by omega)
      rw [r4 j hj] at a1
      have hd : x.2.getD j ([], []) = x.2[j] := by simp [List.getD_eq_getElem?_getD, List.getElem?_eq_getElem hj]
      have a2 : sm (fun k => (w.getD k 0 : Rat) * (x.2[j].2.getD k 0 : Rat)) (List.range x.1.length) - 1 * sm (fun k => (w.getD k 0 : Rat) * (x.2[j].1.getD k 0 : Rat)) (List.range x.1.length) = (den : Rat) * sm (fun k => q' r (x.2.length + 1 + k) * (col x s t j k : Rat)) (List.range x.1.length) := by
        rw [← sm_lin, ← sm_mul]
        refine sm_congr fun k hk => ?_
        rw [r5 k (List.mem_range.1 hk), hcol j hj, hd]
        unfold chg
        push_cast
        grind
      rw [← a1] at a2
      have b1 := dot_sm (w := w) (l := x.2[j].1) (by omega)
      have b2 := dot_sm (w := w) (l := x.2[j].2) (by omega)
      rw [w2] at b1 b2
      rw [← b1, ← b2] at a2
      have : ((dot w x.2[j].1 : Int) : Rat) = ((dot w x.2[j].2 : Int) : Rat) := by grind
      exact_mod_cast this
    · have a1 := n2.lin r r1 x.2.length (by omega)
      have a2 : sm (fun k => (w.getD k 0 : Rat) * (t.getD k 0 : Rat)) (List.range x.1.length) - 1 * sm (fun k => (w.getD k 0 : Rat) * (s.getD k 0 : Rat)) (List.range x.1.length) = (den : Rat) * sm (fun k => q' r (x.2.length + 1 + k) * (col x s t x.2.length k : Rat)) (List.range x.1.length) := by
        rw [← sm_lin, ← sm_mul]
        refine sm_congr fun k hk => ?_
        rw [r5 k (List.mem_range.1 hk), hcn]
        push_cast
        grind
      rw [← a1] at a2
      have b1 := dot_sm (w := w) (l := s) (by omega)
      have b2 := dot_sm (w := w) (l := t) (by omega)
      rw [w2] at b1 b2
      rw [← b1, ← b2, e] at a2
      have := ne0 (show den ≠ 0 by omega)
      grind
  · rw [l1]
    simp only [e1 16 _ (by omega), Option.bind_some]
    obtain ⟨l, t1, t2, t3⟩ := n2.tms hF hx
    rw [t1]
    simp only [Option.bind_some]
    have hdet := n2.bas.det
    have huk := n2.uk
    have hent : ∀ j, j < x.2.length → ∀ a : Rt, Rd a → val a = tv (fun r _ => q' r x.2.length) (T'.getD j 0) j → Sml a ∧ a.2.natAbs ∣ (dt x.1.length B').natAbs := fun j hj a a1 a2 => by
      obtain ⟨z, z1, z2⟩ := n2.tj j hj
      rw [List.getD_eq_getElem?_getD, z1] at a2
      simp only [Option.getD_some] at a2
      rcases z2 with rfl | ⟨r, rfl, hr⟩
      · have : a = (0, 1) := a1.val0.1 (by rw [a2]; rfl)
        subst this
        exact ⟨⟨by simp, by simp⟩, Nat.one_dvd _⟩
      · have := n2.bas.ent k5 n2.b5 hc9 (c := x.2.length) (u := r) (by omega) (by omega) a1 (by rw [a2]; simp [tv])
        exact ⟨this.2.2, this.1⟩
    obtain ⟨out, den, w1, w2, w3, w4, w5⟩ := whole_eq (F := F) (l := l) (del := (dt x.1.length B').natAbs) hF (by omega) (fun b hb => by
      obtain ⟨j, hj, rfl⟩ := List.getElem_of_mem hb
      obtain ⟨a, a1, a2, a3⟩ := t3 j (by omega)
      rw [List.getElem?_eq_getElem hj] at a1
      cases a1
      exact hent j (by omega) _ a2 a3) (by have := dt_bd k5 n2.b5; omega)
    rw [w1]
    have hv : ∀ j, j < x.2.length → (out.getD j 0 : Rat) = tv (fun r _ => q' r x.2.length) (T'.getD j 0) j * (den : Rat) := fun j hj => by
      obtain ⟨b, b1, b2, b3⟩ := t3 j hj
      obtain ⟨v, v1, v2⟩ := w5 j b b1
      rw [List.getD_eq_getElem?_getD, v1]
      simp only [Option.getD_some]
      rw [v2, b3]
    have hdl := Nat.le_of_dvd (by omega) w3
    refine ⟨[], (out, den), rfl, .inr ⟨rfl, by simp only; omega, fun n hn => ?_, ?_, fun k hk => ?_⟩⟩
    · obtain ⟨j, hj, rfl⟩ := List.getElem_of_mem hn
      simp only at hj
      have h1 := hv j (by omega)
      rw [getD_at (by omega)] at h1
      obtain ⟨z, z1, z2⟩ := n2.tj j (by omega)
      rw [List.getD_eq_getElem?_getD, z1] at h1
      simp only [Option.getD_some] at h1
      rcases z2 with rfl | ⟨r, rfl, hr⟩
      · have : out[j] = 0 := by
          have : ((out[j] : Int) : Rat) = ((0 : Int) : Rat) := by
            rw [h1]
            simp only [tv]
            rw [if_neg (by decide)]
            grind
          exact_mod_cast this
        simp only [this]
        omega
      · exact n2.bas.mult k5 n2.b5 hc9 (c := x.2.length) (u := r) (by omega) (by omega) w3 w2 (by rw [h1]; simp [tv])
    · have := dt_bd k5 n2.b5
      simp only
      omega
    · simp only
      have b1 := msum_sm (k := k) (vs := out) (ms := x.2) (by omega)
      rw [w4, t2] at b1
      have b2 : sm (fun j => (out.getD j 0 : Rat) * (chg (x.2.getD j ([], [])) k : Rat)) (List.range x.2.length) = (den : Rat) * sm (fun j => tv (fun r c => q' r x.2.length * (col x s t c k : Rat)) (T'.getD j 0) j) (List.range x.2.length) := by
        rw [← sm_mul]
        refine sm_congr fun j hj => ?_
        have hj := List.mem_range.1 hj
        rw [hv j hj, ← hcol j hj]
        unfold tv
        split <;> grind
      rw [n2.ts] at b2
      have b3 : sm (fun r => q' r x.2.length * (col x s t (piv' r) k : Rat)) (List.range used') = sm (fun r => q' r x.2.length * (B' r k : Rat)) (List.range used') := sm_congr fun r hr => by
        rw [(n2.pv1 r (List.mem_range.1 hr)).2]
      have b4 : sm (fun r => q' r x.2.length * (B' r k : Rat)) (List.range x.1.length) = sm (fun r => q' r x.2.length * (B' r k : Rat)) (List.range used') := by
        obtain ⟨d, hd⟩ : ∃ d, x.1.length = used' + d := ⟨x.1.length - used', by omega⟩
        rw [hd, List.range_add, sm_app, sm_map]
        rw [sm_zero (l := List.range d) fun r hr => by
          have := List.mem_range.1 hr
          rw [l2 (used' + r) (by omega) (by omega)]
          grind]
        grind
      have b5 := n2.bas.eq x.2.length (by omega) k
      rw [b4, ← b3] at b5
      rw [b2, b5, hcn] at b1
      exact_mod_cast b1
end
end Go.Proofs.Ytboefnpnoojfpaa

/-! Mixtures and weights: the checks, what Weights and Mix return, and why there cannot be both. Condition: there are enough rounds. -/
namespace Go.Proofs.Ytboefnpnoojfpaa
open Go Go.Md Go.RowKit

/-! ### The checks of a mixture -/
def offk (x : Spec) (s t : List Int) (p : List Int × Int) (k : Nat) : Bool := !decide (msum p.1 x.2 k = p.2 * (t.getD k 0 - s.getD k 0))
def cm (x : Spec) (s t : List Int) (p : List Int × Int) : Int :=
  if two x s t ≠ 0 then two x s t else if p.1.length ≠ x.2.length then 15 else if inr (-1048576) 1048576 p.1 = false ∨ ¬ (1 ≤ p.2 ∧ p.2 ≤ 1048576) then 3 else if (List.range x.1.length).any (offk x s t p) = true then 14 else 0
theorem cm_ok {x : Spec} {s t : List Int} {p : List Int × Int} (hx : V x) (hs : Stk x s) (ht : Stk x t) : cm x s t p = 0 ↔ MP x s t p := by
  unfold cm
  rw [if_neg (by rw [two_ok.2 ⟨hx, hs, ht⟩]; simp)]
  constructor
  · intro h
    split at h
    · cases h
    rename_i h1
    split at h
    · cases h
    rename_i h2
    split at h
    · cases h
    rename_i h3
    simp only [not_or, Bool.not_eq_false, Decidable.not_not] at h2
    refine ⟨Decidable.not_not.1 h1, inr_iff.1 h2.1, h2.2, fun k hk => ?_⟩
    have := not_any h3 k (List.mem_range.2 hk)
    simpa [offk] using this
  · intro h
    rw [if_neg (by simpa using h.len), if_neg (by simpa [inr_iff.2 h.wb] using h.den), if_neg]
    simp only [List.any_eq_true, not_exists, not_and]
    intro k hk
    simp [offk, h.eq k (List.mem_range.1 hk)]
theorem mul_bd5 {a b : Int} (ha : -1048576 ≤ a ∧ a ≤ 1048576) (hb : -9 ≤ b ∧ b ≤ 9) : -9437184 ≤ a * b ∧ a * b ≤ 9437184 := by
  have := mul_le ha hb
  omega
theorem msum_take {k : Nat} : ∀ {vs : List Int} {ms : List Mv} {j : Nat} (h1 : j < vs.length) (h2 : j < ms.length), msum (vs.take (j + 1)) (ms.take (j + 1)) k = msum (vs.take j) (ms.take j) k + vs[j] * chg ms[j] k
  | v :: vs, m :: ms, 0, _, _ => by simp [msum]
  | v :: vs, m :: ms, j + 1, h1, h2 => by
    have := msum_take (k := k) (vs := vs) (ms := ms) (j := j) (by simpa using h1) (by simpa using h2)
    simp only [List.take_succ_cons, msum, this, List.getElem_cons_succ]
    omega
  | [], _, _, h, _ => by simp at h
  | _ :: _, [], _, _, h => by simp at h
section
variable {F : Nat} {x : Spec} {s t : List Int} {p : List Int × Int}
theorem cm_l2 (hF : 1000000 < F) (hx : V x) (hp : p.1.length = x.2.length) (hw : WB p.1) {k : Nat} (hk : k < x.1.length) {z : Int} (hz : -100000000 ≤ z ∧ z ≤ 100000000) :
    bath_CheckMix_l2 F x p (k : Int) F z 0 = some (z + msum p.1 x.2 k) ∧ ref11_CheckMix_l2 F x p (k : Int) F z 0 = some (z + msum p.1 x.2 k) ∧ -80000000 ≤ msum p.1 x.2 k ∧ msum p.1 x.2 k ≤ 80000000 := by
  have m8 := hx.m8
  have st : ∀ j (h : j < x.2.length), ∃ (c1 : k < x.2[j].2.length) (c2 : k < x.2[j].1.length), x.2[j].2[k] - x.2[j].1[k] = chg x.2[j] k ∧ (-9437184 ≤ p.1[j] * chg x.2[j] k ∧ p.1[j] * chg x.2[j] k ≤ 9437184) ∧ -5 ≤ chg x.2[j] k ∧ chg x.2[j] k ≤ 5 := fun j h => by
    have hm := List.getElem_mem h
    obtain ⟨l1, l2, _⟩ := hx.mv _ hm
    have c1 : k < x.2[j].2.length := by omega
    have c2 : k < x.2[j].1.length := by omega
    have hb := chg_bd hx hm k
    refine ⟨c1, c2, by unfold chg; rw [getD_at c1, getD_at c2], mul_bd5 (hw _ (List.getElem_mem _)) (by omega), hb⟩
  have bd : ∀ j, j ≤ x.2.length → -(9437184 * (j : Int)) ≤ msum (p.1.take j) (x.2.take j) k ∧ msum (p.1.take j) (x.2.take j) k ≤ 9437184 * (j : Int) := by
    intro j
    induction j with
    | zero => intro _; simp [msum]
    | succ j ih =>
      intro hj
      have := ih (by omega)
      obtain ⟨_, _, _, h, _⟩ := st j (by omega)
      rw [msum_take (show j < p.1.length by omega) (show j < x.2.length by omega)]
      omega
  have fin : msum (p.1.take x.2.length) (x.2.take x.2.length) k = msum p.1 x.2 k := by
    rw [List.take_length, List.take_of_length_le (by omega)]
  have l1 : ∀ m j, j ≤ x.2.length → x.2.length - j < m → bath_CheckMix_l2 F x p (k : Int) m (z + msum (p.1.take j) (x.2.take j) k) (j : Int) = some (z + msum p.1 x.2 k) := by
    intro m
    induction m with
    | zero => intro j _ h; omega
    | succ m ih =>
      intro j hj hm
      simp only [bath_CheckMix_l2]
      by_cases hlt : j < x.2.length
      · obtain ⟨c1, c2, e, h1, h2⟩ := st j hlt
        have b := bd j hj
        rw [if_pos (ltd hlt), ix_nat hlt, ix_nat (show j < p.1.length by omega), w64_succ (by omega)]
        simp only [Option.bind_eq_bind, Option.bind_some, ix_nat c1, ix_nat c2]
        rw [e, w64_in (n := chg x.2[j] k) (by omega), w64_in (n := p.1[j] * chg x.2[j] k) (by omega), w64_in (by omega), Int.add_assoc, ← msum_take (show j < p.1.length by omega) hlt]
        exact ih (j + 1) (by omega) (by omega)
      · have : j = x.2.length := by omega
        subst this
        rw [if_neg nltd, fin]
  have l2 : ∀ m j, j ≤ x.2.length → x.2.length - j < m → ref11_CheckMix_l2 F x p (k : Int) m (z + msum (p.1.take j) (x.2.take j) k) (j : Int) = some (z + msum p.1 x.2 k) := by
    intro m
    induction m with
    | zero => intro j _ h; omega
    | succ m ih =>
      intro j hj hm
      simp only [ref11_CheckMix_l2]
      by_cases hlt : j < x.2.length
      · obtain ⟨c1, c2, e, h1, h2⟩ := st j hlt
        have b := bd j hj
        rw [if_pos (ltd hlt), ix_nat hlt, ix_nat (show j < p.1.length by omega), w64_succ (by omega)]
        simp only [Option.bind_eq_bind, Option.bind_some, ix_nat c1, ix_nat c2]
        rw [e, w64_in (n := chg x.2[j] k) (by omega), w64_in (n := p.1[j] * chg x.2[j] k) (by omega), w64_in (by omega), Int.add_assoc, ← msum_take (show j < p.1.length by omega) hlt]
        exact ih (j + 1) (by omega) (by omega)
      · have : j = x.2.length := by omega
        subst this
        rw [if_neg nltd, fin]
  have b := bd x.2.length (Nat.le_refl _)
  rw [fin] at b
  have h1 := l1 F 0 (by omega) (by omega)
  have h2 := l2 F 0 (by omega) (by omega)
  simp only [List.take_zero, msum, Int.add_zero, Int.natCast_zero] at h1 h2
  exact ⟨h1, h2, by omega, by omega⟩
theorem dif_bd (hx : V x) (hs : Stk x s) (ht : Stk x t) {k : Nat} (hk : k < x.1.length) : ∃ (c1 : k < s.length) (c2 : k < t.length), s.getD k 0 = s[k] ∧ t.getD k 0 = t[k] ∧ -9 ≤ t[k] - s[k] ∧ t[k] - s[k] ≤ 9 := by
  have hsl := hs.len
  have htl := ht.len
  have c1 : k < s.length := by omega
  have c2 : k < t.length := by omega
  have b1 := hs.rng hx _ (List.getElem_mem c1)
  have b2 := ht.rng hx _ (List.getElem_mem c2)
  exact ⟨c1, c2, getD_at c1, getD_at c2, by omega, by omega⟩
theorem checkm_eq (hF : 1000000 < F) (hl : p.1.length ≤ 1000000) : bath_CheckMix F x s t p = some (cm x s t p) := by
  unfold bath_CheckMix cm
  have ho : bath_open F (x.1, x.2) [s, t] = _ := open2 (x := x) (s := s) (t := t) hF
  rw [ho]
  simp only [Option.bind_eq_bind, Option.bind_some]
  by_cases h2 : two x s t = 0
  case neg =>
    rw [if_neg h2, if_pos h2]
    simp [h2]
  obtain ⟨hx, hs, ht⟩ := two_ok.1 h2
  rw [if_pos h2, if_neg (show ¬ two x s t ≠ 0 by simp [h2])]
  simp only [decide_true, Bool.not_true, Bool.false_eq_true, if_false]
  by_cases h1 : p.1.length = x.2.length
  case neg => rw [if_pos (show (!decide ((p.1.length : Int) = (x.2.length : Int))) = true by simp [nc, h1]), if_pos (show p.1.length ≠ x.2.length from h1)]
  rw [if_neg (show ¬ (!decide ((p.1.length : Int) = (x.2.length : Int))) = true by simp [h1]), if_neg (show ¬ p.1.length ≠ x.2.length by simpa using h1), within_eq hF hl, within_eq hF (by simp)]
  have e1 : inr 1 1048576 [p.2] = (decide (1 ≤ p.2) && decide (p.2 ≤ 1048576)) := by simp [inr]
  rw [e1]
  simp only [Option.bind_some, gd]
  cases h3 : inr (-1048576) 1048576 p.1 with
  | false => simp
  | true =>
    by_cases h4 : 1 ≤ p.2 ∧ p.2 ≤ 1048576
    case neg =>
      rw [if_pos (c := _ ∨ _) (.inr h4)]
      have : (decide (1 ≤ p.2) && decide (p.2 ≤ 1048576)) = false := by
        simp only [Bool.and_eq_false_iff, decide_eq_false_iff_not]
        omega
      simp [this]
    have hw := inr_iff.1 h3
    have k5 := hx.k5
    have hr := any_loop0 (l := List.range x.1.length) (L := fun m k => bath_CheckMix_l1 F x s t p m (k : Int)) (p := offk x s t p) (c := 14) (fun m => by
      simp only [bath_CheckMix_l1, List.length_range]; rw [if_neg nltd]) (fun m k hk => by
      simp only [List.length_range] at hk
      obtain ⟨c1, c2, g1, g2, g3⟩ := dif_bd hx hs ht hk
      have hb := mul_bd5 (a := p.2) (b := s[k] - t[k]) (by omega) (by omega)
      have hl2 := (cm_l2 (F := F) (p := p) hF hx h1 hw hk (z := p.2 * (s[k] - t[k])) (by omega)).1
      simp only [bath_CheckMix_l1, List.getElem_range]
      rw [if_pos (ltd hk), ix_nat c1, ix_nat c2, w64_succ (by omega)]
      simp only [Option.bind_eq_bind, Option.bind_some]
      rw [w64_in (n := s[k] - t[k]) (by omega), w64_in (by omega), hl2]
      simp only [Option.bind_some]
      have e : (p.2 * (s[k] - t[k]) + msum p.1 x.2 k = 0) ↔ (msum p.1 x.2 k = p.2 * (t.getD k 0 - s.getD k 0)) := by
        rw [g1, g2]
        simp only [Int.mul_sub]
        omega
      have e2 : decide (p.2 * (s[k] - t[k]) + msum p.1 x.2 k = 0) = decide (msum p.1 x.2 k = p.2 * (t.getD k 0 - s.getD k 0)) := by simp only [e]
      unfold offk
      rw [e2]) (m := F) (by simp; omega)
    simp only [Int.natCast_zero] at hr
    have h6 : ¬ (true = false ∨ ¬(1 ≤ p.2 ∧ p.2 ≤ 1048576)) := by simp [h4]
    rw [hr, if_neg h6]
    simp only [h4.1, h4.2, decide_true, Bool.and_self, Bool.not_true, Bool.not_false, cond_true, Option.bind_some, Bool.or_self, Bool.false_eq_true, if_false]
    by_cases h5 : (List.range x.1.length).any (offk x s t p) = true
    · rw [if_pos h5, if_pos h5]
    · rw [if_neg h5, if_neg h5]
theorem rcheckm_eq (hF : 1000000 < F) (hl : p.1.length ≤ 1000000) : ref11_CheckMix F x s t p = some (cm x s t p) := by
  unfold ref11_CheckMix cm
  have ho : ref11_Two F (x.1, x.2) s t = _ := two_eq (x := x) (s := s) (t := t) hF
  rw [ho]
  simp only [Option.bind_eq_bind, Option.bind_some]
  by_cases h2 : two x s t = 0
  case neg =>
    rw [if_pos h2]
    simp [h2]
  obtain ⟨hx, hs, ht⟩ := two_ok.1 h2
  rw [if_neg (show ¬ (!decide (two x s t = 0)) = true by simp [h2]), if_neg (show ¬ two x s t ≠ 0 by simp [h2])]
  by_cases h1 : p.1.length = x.2.length
  case neg => rw [if_pos (show (!decide ((p.1.length : Int) = (x.2.length : Int))) = true by simp [nc, h1]), if_pos (show p.1.length ≠ x.2.length from h1)]
  rw [if_neg (show ¬ (!decide ((p.1.length : Int) = (x.2.length : Int))) = true by simp [h1]), if_neg (show ¬ p.1.length ≠ x.2.length by simpa using h1), small_eq hF hl]
  simp only [Option.bind_some]
  cases h3 : inr (-1048576) 1048576 p.1 with
  | false => simp
  | true =>
    by_cases h4 : 1 ≤ p.2 ∧ p.2 ≤ 1048576
    case neg =>
      rw [if_pos (c := _ ∨ _) (.inr h4), if_pos (show (!true || decide (p.2 < 1) || decide (1048576 < p.2)) = true by simp; omega)]
    have hw := inr_iff.1 h3
    have k5 := hx.k5
    have hsl := hs.len
    have hr := any_loop0 (l := List.range x.1.length) (L := fun m k => ref11_CheckMix_l1 F x s t p m (k : Int)) (p := offk x s t p) (c := 14) (fun m => by
      simp only [ref11_CheckMix_l1, List.length_range]; rw [hsl, if_neg nltd]) (fun m k hk => by
      simp only [List.length_range] at hk
      obtain ⟨c1, c2, g1, g2, g3⟩ := dif_bd hx hs ht hk
      have hb := mul_bd5 (a := p.2) (b := t[k] - s[k]) (by omega) (by omega)
      have hl2 := (cm_l2 (F := F) (p := p) hF hx h1 hw hk (z := 0) (by omega)).2.1
      simp only [ref11_CheckMix_l1, List.getElem_range]
      rw [if_pos (ltd c1), ix_nat c1, ix_nat c2, w64_succ (by omega), hl2]
      simp only [Option.bind_eq_bind, Option.bind_some]
      rw [w64_in (n := t[k] - s[k]) (by omega), w64_in (by omega), Int.zero_add]
      simp only [offk, g1, g2]) (m := F) (by simp; omega)
    simp only [Int.natCast_zero] at hr
    have h6 : ¬ (true = false ∨ ¬(1 ≤ p.2 ∧ p.2 ≤ 1048576)) := by simp [h4]
    have h7 : ¬ (!true || decide (p.2 < 1) || decide (1048576 < p.2)) = true := by simp; omega
    rw [hr, if_neg h7, if_neg h6]
    by_cases h5 : (List.range x.1.length).any (offk x s t p) = true
    · rw [if_pos h5, if_pos h5]; rfl
    · rw [if_neg h5, if_neg h5]; rfl

/-! ### What Weights and Mix return -/
theorem wm_eq (hF : 1000000 < F) (hx : V x) (hs : Stk x s) (ht : Stk x t) :
    (∃ w, WP x s t w ∧ bath_Weights F x s t = some (w, 0) ∧ bath_Mix F x s t = some (([], 0), 5)) ∨ (∃ p, MP x s t p ∧ bath_Weights F x s t = some ([], 5) ∧ bath_Mix F x s t = some (p, 0)) := by
  have ho : bath_open F (x.1, x.2) [s, t] = _ := open2 (x := x) (s := s) (t := t) hF
  have h2 := two_ok.2 ⟨hx, hs, ht⟩
  rw [if_pos h2] at ho
  obtain ⟨w, p, e, h⟩ := solve_eq (F := F) hF hx hs ht
  have e' : bath_shop_solve F ((x.1, x.2), Opq.mk) (pad s) (pad t) = some (w, p) := e
  have i0 : ix [pad s, pad t] 0 = some (pad s) := rfl
  have i1 : ix [pad s, pad t] 1 = some (pad t) := rfl
  unfold bath_Weights bath_Mix
  simp only [ho, Option.bind_eq_bind, Option.bind_some, i0, i1, e', decide_true, Bool.not_true, Bool.false_eq_true, if_false]
  have k1 := hx.k1
  rcases h with h | ⟨rfl, h⟩
  · have hl := h.len
    refine .inl ⟨w, h, ?_, ?_⟩
    · rw [if_neg (show ¬ decide ((w.length : Int) = 0) = true by simp only [decide_eq_true_eq]; omega)]
    · rw [if_pos (show decide (0 < (w.length : Int)) = true by simp only [decide_eq_true_eq]; omega)]
  · refine .inr ⟨p, h, ?_, ?_⟩
    · rw [if_pos (by simp)]
    · rw [if_neg (by simp)]
theorem wm_bad (hF : 1000000 < F) (h2 : two x s t ≠ 0) : bath_Weights F x s t = some ([], two x s t) ∧ bath_Mix F x s t = some (([], 0), two x s t) := by
  have ho : bath_open F (x.1, x.2) [s, t] = _ := open2 (x := x) (s := s) (t := t) hF
  rw [if_neg h2] at ho
  unfold bath_Weights bath_Mix
  simp only [ho, Option.bind_eq_bind, Option.bind_some]
  simp [h2]
/-! ### Weights against a mixture -/
theorem cw_wp {w : List Int} (hx : V x) (h : WP x s t w) : cw x w = 0 := by
  unfold cw
  rw [if_neg (by rw [cval_ok.2 hx]; simp), if_neg (by simpa using h.len), if_neg (by rw [inr_iff.2 h.wb]; simp), if_neg]
  simp only [List.any_eq_true, not_exists, not_and]
  intro m hm
  simp [unb, h.mv m hm]
theorem cw_ok {w : List Int} (h : cw x w = 0) : w.length = x.1.length ∧ WB w ∧ ∀ m ∈ x.2, dot w m.1 = dot w m.2 := by
  unfold cw at h
  split at h
  · contradiction
  split at h
  · cases h
  rename_i h1
  split at h
  · cases h
  rename_i h2
  split at h
  · cases h
  rename_i h3
  refine ⟨Decidable.not_not.1 h1, inr_iff.1 (by simpa using h2), fun m hm => ?_⟩
  have := not_any h3 m hm
  simpa [unb] using this
theorem parts_eq {w : List Int} (hF : 1000000 < F) (hx : V x) (hs : Stk x s) (ht : Stk x t) : law11_parts F x w s t = some (decide (cw x w = 0) && !decide (dot w s = dot w t)) := by
  unfold law11_parts
  have hc : ref11_CheckWeights F (x.1, x.2) w = some (cw x w) := rcheckw_eq hF
  rw [hc]
  simp only [Option.bind_eq_bind, Option.bind_some]
  by_cases h : cw x w = 0
  · obtain ⟨h1, h2, h3⟩ := cw_ok h
    have k5 := hx.k5
    have hsl := hs.len
    have htl := ht.len
    rw [rsum_eq hF (by omega) (by omega) h2 (hs.rng hx), rsum_eq hF (by omega) (by omega) h2 (ht.rng hx)]
    simp [gd, h]
  · simp [gd, h]
/-! ### A way is a mixture -/
end
end Go.Proofs.Ytboefnpnoojfpaa

/-! The reference's rank of columns: whether the last is a mixture of the others. Condition: there are enough rounds. -/
namespace Go.Proofs.Ytboefnpnoojfpaa
open Go Go.Md Go.RowKit

theorem rcommon_l1 {F : Nat} : ∀ (m : Nat) (a b : Int), ref11_common_l1 F m a b = bath_common__int64_l1 F m a b
  | 0, _, _ => rfl
  | m + 1, a, b => by
    unfold ref11_common_l1 bath_common__int64_l1
    simp only [rcommon_l1 m]
theorem rcommon_eq {F : Nat} {a b : Int} (hF : 1000000 < F) (ha : -B62 ≤ a ∧ a ≤ B62) (hb : -B62 ≤ b ∧ b ≤ B62) : ref11_common F a b = some ((Int.gcd a b : Nat) : Int) := by
  have h := common_eq (F := F) hF ha hb
  unfold bath_common__int64 at h
  rw [abs_eq ha, abs_eq hb] at h
  have e : ∀ c : Int, (-B62 ≤ c ∧ c ≤ B62) → (if decide (c < 0) = true then some (w64 (0 - c)) else some c : Option Int) = some (c.natAbs : Int) := fun c hc => by
    rw [w64_in (by unfold B62 at hc; omega)]
    by_cases h : c < 0
    · rw [if_pos (by simpa using h)]
      congr 1
      omega
    · rw [if_neg (by simpa using h)]
      congr 1
      omega
  unfold ref11_common
  rw [e a ha, e b hb]
  simp only [Option.bind_eq_bind, Option.bind_some, rcommon_l1] at h ⊢
  exact h
theorem l2_eq {F : Nat} {c : List Int} (hF : 1000000 < F) (hc : c.length ≤ 100) : ∃ z : Int, ref11_rank_l2 F c F (-1) 0 = some z ∧ ((z = -1 ∧ ∀ k, c.getD k 0 = 0) ∨ ∃ k : Nat, z = (k : Int) ∧ k < c.length ∧ c.getD k 0 ≠ 0) := by
  have loop : ∀ (m j : Nat) (y : Int), j ≤ c.length → c.length - j < m → ((y = -1 ∧ ∀ k, k < j → c.getD k 0 = 0) ∨ ∃ k : Nat, y = (k : Int) ∧ k < c.length ∧ c.getD k 0 ≠ 0) →
      ∃ z : Int, ref11_rank_l2 F c m y (j : Int) = some z ∧ ((z = -1 ∧ ∀ k, c.getD k 0 = 0) ∨ ∃ k : Nat, z = (k : Int) ∧ k < c.length ∧ c.getD k 0 ≠ 0) := by
    intro m
    induction m with
    | zero => intro j _ _ h; omega
    | succ m ih =>
      intro j y hj hm h
      simp only [ref11_rank_l2]
      by_cases hlt : j < c.length
      · rw [if_pos (ltd hlt), ix_nat hlt, w64_succ (by omega)]
        rcases h with ⟨rfl, h⟩ | ⟨k, rfl, h1, h2⟩
        · rw [if_pos (by decide)]
          simp only [Option.bind_eq_bind, Option.bind_some]
          by_cases h0 : c[j] = 0
          · rw [if_neg (by simp [h0])]
            simp only [Option.bind_some]
            refine ih (j + 1) _ (by omega) (by omega) (.inl ⟨rfl, fun k hk => ?_⟩)
            by_cases e : k = j
            · subst e
              rw [getD_at hlt, h0]
            · exact h k (by omega)
          · rw [if_pos (by simpa using h0)]
            simp only [Option.bind_some]
            exact ih (j + 1) _ (by omega) (by omega) (.inr ⟨j, rfl, hlt, by rw [getD_at hlt]; exact h0⟩)
        · rw [if_neg (show ¬ decide ((k : Int) < 0) = true by simp)]
          simp only [Option.bind_eq_bind, Option.bind_some, Bool.false_eq_true, if_false]
          exact ih (j + 1) _ (by omega) (by omega) (.inr ⟨k, rfl, h1, h2⟩)
      · have : j = c.length := by omega
        subst this
        rw [if_neg nltd]
        refine ⟨y, rfl, h.imp (fun ⟨a, b⟩ => ⟨a, fun k => ?_⟩) id⟩
        by_cases h3 : k < c.length
        · exact b k h3
        · rw [List.getD_eq_getElem?_getD, List.getElem?_eq_none (by omega)]
          rfl
  exact loop F 0 (-1) (by omega) (by omega) (.inl ⟨rfl, fun k h => by omega⟩)
/-- What is left of v, the column c taken out at z. -/
def uu (c v : List Int) (z : Nat) : List Int := (List.range c.length).map fun j => v.getD j 0 * c.getD z 0 - c.getD j 0 * v.getD z 0
def gg (l : List Int) : Nat := l.foldl (fun g n => Nat.gcd g n.natAbs) 0
def dv (g : Nat) (l : List Int) : List Int := if 1 < g then l.map fun n => n.tdiv (g : Int) else l
def elf (c : List Int) (z : Nat) (v : List Int) : List Int := dv (gg (uu c v z)) (uu c v z)
theorem uu_len {c v : List Int} {z : Nat} : (uu c v z).length = c.length := by simp [uu]
theorem uu_get {c v : List Int} {z j : Nat} (h : j < c.length) : (uu c v z).getD j 0 = v.getD j 0 * c.getD z 0 - c.getD j 0 * v.getD z 0 := by
  rw [getD_at (by rw [uu_len]; exact h)]
  simp [uu]
theorem dv_len {g : Nat} {l : List Int} : (dv g l).length = l.length := by
  unfold dv
  split <;> simp
theorem elf_len {c v : List Int} {z : Nat} : (elf c z v).length = c.length := by unfold elf; rw [dv_len, uu_len]
theorem gg_dvd : ∀ {l : List Int} {g : Nat}, (l.foldl (fun g n => Nat.gcd g n.natAbs) g ∣ g) ∧ ∀ n ∈ l, l.foldl (fun g n => Nat.gcd g n.natAbs) g ∣ n.natAbs
  | [], g => ⟨Nat.dvd_refl _, by simp⟩
  | a :: l, g => by
    obtain ⟨h1, h2⟩ := gg_dvd (l := l) (g := Nat.gcd g a.natAbs)
    rw [List.foldl_cons]
    refine ⟨Nat.dvd_trans h1 (Nat.gcd_dvd_left ..), fun n hn => ?_⟩
    rcases List.mem_cons.1 hn with rfl | hn
    · exact Nat.dvd_trans h1 (Nat.gcd_dvd_right ..)
    · exact h2 n hn
def gof (c v : List Int) (z : Nat) : Int := if 1 < gg (uu c v z) then (gg (uu c v z) : Int) else 1
theorem gof_pos {c v : List Int} {z : Nat} : 1 ≤ gof c v z := by
  unfold gof
  split <;> omega
theorem elf_get {c v : List Int} {z j : Nat} (h : j < c.length) : gof c v z * (elf c z v).getD j 0 = v.getD j 0 * c.getD z 0 - c.getD j 0 * v.getD z 0 := by
  rw [← uu_get h]
  unfold gof elf dv
  split
  · have h1 : j < (uu c v z).length := by rw [uu_len]; exact h
    rw [getD_at (by simpa using h1), getD_at h1, List.getElem_map]
    have h2 := (gg_dvd (l := uu c v z) (g := 0)).2 _ (List.getElem_mem h1)
    have h3 : ((gg (uu c v z) : Nat) : Int) ∣ (uu c v z)[j] := Int.ofNat_dvd_left.2 h2
    exact Int.mul_tdiv_cancel' h3
  · rw [Int.one_mul]
theorem gcd_le {g : Nat} {n : Int} {B : Nat} (hg : g ≤ B) (hn : n.natAbs ≤ B) : Nat.gcd g n.natAbs ≤ B := by
  rcases Nat.eq_zero_or_pos g with h | h
  · subst h
    rw [Nat.gcd_zero_left]
    exact hn
  · exact Nat.le_trans (Nat.gcd_le_left _ h) hg
/-- The products fit. -/
def Ex (c v : List Int) (z : Nat) : Prop := ∀ j, j < c.length → w64 (w64 (v.getD j 0 * c.getD z 0) - w64 (c.getD j 0 * v.getD z 0)) = v.getD j 0 * c.getD z 0 - c.getD j 0 * v.getD z 0 ∧ -B62 ≤ v.getD j 0 * c.getD z 0 - c.getD j 0 * v.getD z 0 ∧ v.getD j 0 * c.getD z 0 - c.getD j 0 * v.getD z 0 ≤ B62
section
variable {F : Nat} {c v : List Int} {z : Nat}
theorem l4_eq (hF : 1000000 < F) (hc : c.length ≤ 100) (hz : z < c.length) (hv : v.length = c.length) (hE : Ex c v z) {L : List (List Int)} {i : Nat} (hi : L[i]? = some v) :
    ref11_rank_l4 F c L (i : Int) (z : Int) F [] 0 0 = some (uu c v z, (gg (uu c v z) : Int)) := by
  have hb : ∀ n ∈ uu c v z, n.natAbs ≤ 4611686018427387904 := fun n hn => by
    obtain ⟨j, hj, rfl⟩ := List.mem_map.1 hn
    have := (hE j (List.mem_range.1 hj)).2
    unfold B62 at this
    omega
  have loop : ∀ (m j : Nat), j ≤ c.length → c.length - j < m → gg ((uu c v z).take j) ≤ 4611686018427387904 → ref11_rank_l4 F c L (i : Int) (z : Int) m ((uu c v z).take j) (gg ((uu c v z).take j) : Int) (j : Int) = some (uu c v z, (gg (uu c v z) : Int)) := by
    intro m
    induction m with
    | zero => intro j _ h; omega
    | succ m ih =>
      intro j hj hm hg
      simp only [ref11_rank_l4]
      by_cases hlt : j < c.length
      · have hul : j < (uu c v z).length := by rw [uu_len]; exact hlt
        obtain ⟨e1, e2⟩ := hE j hlt
        have e3 := uu_get (v := v) (z := z) hlt
        rw [getD_at hul] at e3
        rw [← e3, getD_at (by omega : j < v.length), getD_at hz, getD_at hlt, getD_at (by omega : z < v.length)] at e1
        rw [if_pos (ltd hlt), ixg hi, w64_succ (by omega)]
        simp only [Option.bind_eq_bind, Option.bind_some, ix_nat hlt, ix_nat hz, ix_nat (by omega : j < v.length), ix_nat (by omega : z < v.length)]
        rw [e1, app_some (by simp; omega)]
        have hn := hb _ (List.getElem_mem hul)
        rw [rcommon_eq hF (by unfold B62; omega) (by unfold B62; omega)]
        simp only [Option.bind_some]
        have ht : (uu c v z).take (j + 1) = (uu c v z).take j ++ [(uu c v z)[j]] := by
          rw [List.take_add_one, List.getElem?_eq_getElem hul]
          rfl
        have hgs : gg ((uu c v z).take (j + 1)) = Nat.gcd (gg ((uu c v z).take j)) ((uu c v z)[j]).natAbs := by
          rw [ht]
          unfold gg
          rw [List.foldl_append]
          rfl
        have e5 : ((Int.gcd ((gg ((uu c v z).take j) : Nat) : Int) (uu c v z)[j] : Nat) : Int) = (gg ((uu c v z).take (j + 1)) : Int) := by
          rw [hgs]
          rfl
        rw [← ht, e5]
        exact ih (j + 1) (by omega) (by omega) (by rw [hgs]; exact gcd_le hg hn)
      · have : j = c.length := by omega
        subst this
        rw [if_neg nltd, List.take_of_length_le (by rw [uu_len]; exact Nat.le_refl _)]
  have := loop F 0 (by omega) (by omega) (by simp [gg])
  simpa [gg] using this
theorem l5_eq {g : Nat} {l : List Int} (hF : 1000000 < F) (hl : l.length ≤ 100) (hd : ∀ n ∈ l, (g : Int) ∣ n) (hb : ∀ n ∈ l, -B62 ≤ n ∧ n ≤ B62) : ref11_rank_l5 F (g : Int) F l 0 = some (dv g l) := by
  unfold dv
  by_cases hg : 1 < g
  · rw [if_pos hg]
    have loop : ∀ (m j : Nat) (y : List Int), j ≤ l.length → l.length - j < m → y = (l.take j).map (fun n => n.tdiv (g : Int)) ++ l.drop j → ref11_rank_l5 F (g : Int) m y (j : Int) = some (l.map fun n => n.tdiv (g : Int)) := by
      intro m
      induction m with
      | zero => intro j _ _ h; omega
      | succ m ih =>
        intro j y hj hm hy
        have hyl : y.length = l.length := by rw [hy]; simp; omega
        simp only [ref11_rank_l5]
        by_cases hlt : j < l.length
        · have hyj : y[j]'(by omega) = l[j] := by
            simp only [hy]
            rw [List.getElem_append_right (by simp; omega)]
            simp
            congr 1
            omega
          obtain ⟨q, hq⟩ := hd _ (List.getElem_mem hlt)
          rw [Int.mul_comm] at hq
          rw [if_pos (by simp; omega), ix_nat (by omega : j < y.length), w64_succ (by omega)]
          simp only [Option.bind_eq_bind, Option.bind_some, hyj]
          rw [quo_dvd (by omega) hq (hb _ (List.getElem_mem hlt))]
          simp only [Option.bind_some]
          refine ih (j + 1) _ (by omega) (by omega) ?_
          have e1 : l.drop j = l[j] :: l.drop (j + 1) := List.drop_eq_getElem_cons hlt
          have e2 : l.take (j + 1) = l.take j ++ [l[j]] := by
            rw [List.take_add_one, List.getElem?_eq_getElem hlt]
            rfl
          have e3 : l[j].tdiv (g : Int) = q := by
            rw [hq]
            exact Int.mul_tdiv_cancel _ (by omega)
          have e4 : ((l.take j).map fun n => n.tdiv (g : Int)).length = j := by simp; omega
          rw [hy, e1, e2, List.map_append, List.map_cons, List.map_nil, e3]
          simp only [rset, Int.toNat_natCast]
          rw [List.set_append_right _ _ (by omega), e4, Nat.sub_self, List.set_cons_zero, List.append_assoc]
          rfl
        · have : j = l.length := by omega
          subst this
          rw [if_neg (by simp [hyl]), hy]
          simp
    exact loop F 0 l (by omega) (by omega) (by simp)
  · rw [if_neg hg]
    obtain ⟨m, rfl⟩ : ∃ m, F = m + 1 := ⟨F - 1, by omega⟩
    unfold ref11_rank_l5
    rw [if_neg]
    simp only [Bool.and_eq_true, decide_eq_true_eq]
    omega
theorem l3_eq {L : List (List Int)} (hF : 1000000 < F) (hc : c.length ≤ 100) (hz : z < c.length) (hL : L.length ≤ 100) (h : ∀ v ∈ L, v.length = c.length ∧ Ex c v z) : ref11_rank_l3 F c L (z : Int) F [] 0 = some (L.map (elf c z)) := by
  have loop : ∀ (m i : Nat), i ≤ L.length → L.length - i < m → ref11_rank_l3 F c L (z : Int) m ((L.take i).map (elf c z)) (i : Int) = some (L.map (elf c z)) := by
    intro m
    induction m with
    | zero => intro j _ h; omega
    | succ m ih =>
      intro i hi hm
      simp only [ref11_rank_l3]
      by_cases hlt : i < L.length
      · obtain ⟨h1, h2⟩ := h _ (List.getElem_mem hlt)
        rw [if_pos (ltd hlt), w64_succ (by omega), l4_eq hF hc hz h1 h2 (List.getElem?_eq_getElem hlt)]
        simp only [Option.bind_eq_bind, Option.bind_some]
        rw [l5_eq (g := gg (uu c L[i] z)) (l := uu c L[i] z) hF (by rw [uu_len]; exact hc) (fun n hn => Int.ofNat_dvd_left.2 ((gg_dvd (g := 0)).2 n hn)) (fun n hn => by
          obtain ⟨j, hj, rfl⟩ := List.mem_map.1 hn
          exact (h2 j (List.mem_range.1 hj)).2)]
        simp only [Option.bind_some]
        rw [app_some (by simp; omega)]
        simp only [Option.bind_some]
        have e2 : L.take (i + 1) = L.take i ++ [L[i]] := by
          rw [List.take_add_one, List.getElem?_eq_getElem hlt]
          rfl
        have := ih (i + 1) (by omega) (by omega)
        rw [e2, List.map_append, List.map_cons, List.map_nil] at this
        exact this
      · have : i = L.length := by omega
        subst this
        rw [if_neg nltd, List.take_length]
  exact loop F 0 (by omega) (by omega)
end

/-! ### How great the numbers are -/
def bC : Nat → Int
  | 0 => 5
  | 1 => 50
  | 2 => 5000
  | 3 => 50000000
  | _ => 5000000000000000
def bD : Nat → Int
  | 0 => 9
  | 1 => 90
  | 2 => 9000
  | 3 => 90000000
  | _ => 9000000000000000
structure Zs (K k : Nat) (Z : List Nat) : Prop where
  len : Z.length = k
  nd : Z.Nodup
  lt : ∀ z ∈ Z, z < K
structure Lv (K k : Nat) (Z : List Nat) (b : Nat → Int) (v : List Int) : Prop where
  len : v.length = K
  zz : ∀ z ∈ Z, v.getD z 0 = 0
  bd : k ≤ 4 → ∀ j, -(b k) ≤ v.getD j 0 ∧ v.getD j 0 ≤ b k
section
variable {K k : Nat} {Z : List Nat} {c v : List Int} {z : Nat} {b : Nat → Int}
theorem Zs.cons (h : Zs K k Z) (hz : z < K) (hn : z ∉ Z) : Zs K (k + 1) (z :: Z) := ⟨by simp [h.len], List.nodup_cons.2 ⟨hn, h.nd⟩, fun a ha => by
  rcases List.mem_cons.1 ha with rfl | ha
  · exact hz
  · exact h.lt a ha⟩
theorem Zs.le (h : Zs K k Z) : k ≤ K := by
  have := nodup_sub Z (List.range K) h.nd fun a ha => List.mem_range.2 (h.lt a ha)
  rw [h.len] at this
  simpa using this
theorem step_bd (hK : K ≤ 5) (hZ : Zs K k Z) (hb : b = bC ∨ b = bD) (hc : Lv K k Z bC c) (hv : Lv K k Z b v) (hz : z < K) (h0 : c.getD z 0 ≠ 0) :
    Zs K (k + 1) (z :: Z) ∧ Ex c v z ∧ (k + 1 ≤ 4 → ∀ j, j < K → -(b (k + 1)) ≤ v.getD j 0 * c.getD z 0 - c.getD j 0 * v.getD z 0 ∧ v.getD j 0 * c.getD z 0 - c.getD j 0 * v.getD z 0 ≤ b (k + 1)) := by
  have hn : z ∉ Z := fun h => h0 (hc.zz z h)
  have hZ2 := hZ.cons hz hn
  have hk := hZ2.le
  refine ⟨hZ2, ?_⟩
  by_cases h4 : k = 4
  · subst h4
    refine ⟨fun j hj => ?_, fun h => by omega⟩
    rw [hc.len] at hj
    have he : v.getD j 0 * c.getD z 0 - c.getD j 0 * v.getD z 0 = 0 ∧ w64 (w64 (v.getD j 0 * c.getD z 0) - w64 (c.getD j 0 * v.getD z 0)) = 0 := by
      have hw : w64 0 = 0 := by decide
      by_cases e : j = z
      · subst e
        rw [Int.mul_comm, Int.sub_self, Int.sub_self]
        exact ⟨rfl, hw⟩
      · have hjZ : j ∈ Z := Classical.byContradiction fun h => by
          have := (hZ2.cons hj (fun h2 => by
            rcases List.mem_cons.1 h2 with h3 | h3
            · exact e h3
            · exact h h3)).le
          omega
        rw [hc.zz j hjZ, hv.zz j hjZ]
        simp [hw]
    rw [he.1, he.2]
    exact ⟨rfl, by unfold B62; omega⟩
  · have hk3 : k = 0 ∨ k = 1 ∨ k = 2 ∨ k = 3 := by omega
    have main : ∀ j, (-(b (k + 1)) ≤ v.getD j 0 * c.getD z 0 - c.getD j 0 * v.getD z 0 ∧ v.getD j 0 * c.getD z 0 - c.getD j 0 * v.getD z 0 ≤ b (k + 1)) ∧ w64 (w64 (v.getD j 0 * c.getD z 0) - w64 (c.getD j 0 * v.getD z 0)) = v.getD j 0 * c.getD z 0 - c.getD j 0 * v.getD z 0 ∧ b (k + 1) ≤ B62 := fun j => by
      have c1 := hc.bd (by omega) j
      have c2 := hc.bd (by omega) z
      have v1 := hv.bd (by omega) j
      have v2 := hv.bd (by omega) z
      have m1 := mul_le v1 c2
      have m2 := mul_le c1 v2
      generalize v.getD j 0 * c.getD z 0 = P at *
      generalize c.getD j 0 * v.getD z 0 = Q at *
      unfold B62
      rcases hb with rfl | rfl <;> rcases hk3 with rfl | rfl | rfl | rfl <;> simp only [bC, bD] at m1 m2 ⊢ <;> (rw [w64_in (n := P) (by omega), w64_in (n := Q) (by omega), w64_in (by omega)]; omega)
    refine ⟨fun j _ => ?_, fun _ j _ => (main j).1⟩
    obtain ⟨h1, h2, h3⟩ := main j
    exact ⟨h2, by omega⟩
theorem Lv.el (hK : K ≤ 5) (hZ : Zs K k Z) (hb : b = bC ∨ b = bD) (hc : Lv K k Z bC c) (hv : Lv K k Z b v) (hz : z < K) (h0 : c.getD z 0 ≠ 0) : Lv K (k + 1) (z :: Z) b (elf c z v) := by
  obtain ⟨h1, h2, h3⟩ := step_bd hK hZ hb hc hv hz h0
  have hg := gof_pos (c := c) (v := v) (z := z)
  have hcl := hc.len
  refine ⟨by rw [elf_len, hcl], fun a ha => ?_, fun hk j => ?_⟩
  · have haK := h1.lt a ha
    have e := elf_get (c := c) (v := v) (z := z) (j := a) (by omega)
    have e2 : v.getD a 0 * c.getD z 0 - c.getD a 0 * v.getD z 0 = 0 := by
      rcases List.mem_cons.1 ha with rfl | ha
      · rw [Int.mul_comm, Int.sub_self]
      · rw [hc.zz a ha, hv.zz a ha]
        simp
    rw [e2] at e
    rcases Int.mul_eq_zero.1 e with h | h
    · omega
    · exact h
  · by_cases hj : j < K
    · have e := elf_get (c := c) (v := v) (z := z) (j := j) (by omega)
      have h4 := h3 hk j hj
      rw [← e] at h4
      generalize (elf c z v).getD j 0 = w at *
      generalize gof c v z = g at *
      have h5 : (g * w).natAbs = g.natAbs * w.natAbs := Int.natAbs_mul ..
      have h6 : w.natAbs ≤ g.natAbs * w.natAbs := Nat.le_mul_of_pos_left _ (by omega)
      omega
    · rw [List.getD_eq_getElem?_getD, List.getElem?_eq_none (by rw [elf_len]; omega)]
      have : 0 ≤ b (k + 1) := by
        rcases hb with rfl | rfl
        · unfold bC; split <;> omega
        · unfold bD; split <;> omega
      simp
      omega
end
end Go.Proofs.Ytboefnpnoojfpaa

/-! The reference says whether a mixture gives the way, and the laws of weights and mixtures hold. Condition: there are enough rounds. -/
namespace Go.Proofs.Ytboefnpnoojfpaa
open Go Go.Md Go.RowKit

def lsum : List Int → List (List Int) → Nat → Int
  | a :: az, c :: cs, k => a * c.getD k 0 + lsum az cs k
  | _, _, _ => 0
/-- The column d is a mixture of the others. -/
def Dep (K : Nat) (cs : List (List Int)) (d : List Int) : Prop := ∃ (a0 : Int) (az : List Int), a0 ≠ 0 ∧ ∀ k, k < K → lsum az cs k = a0 * d.getD k 0
section
variable {F K : Nat}
theorem dot_elf {w c v : List Int} {z : Nat} (hw : w.length = K) (hc : c.length = K) (hv : v.length = K) : gof c v z * dot w (elf c z v) = c.getD z 0 * dot w v - v.getD z 0 * dot w c := by
  have e1 := dot_sm (w := w) (l := elf c z v) (by rw [elf_len]; omega)
  have e2 := dot_sm (w := w) (l := v) (by omega)
  have e3 := dot_sm (w := w) (l := c) (by omega)
  have : ((gof c v z * dot w (elf c z v) : Int) : Rat) = ((c.getD z 0 * dot w v - v.getD z 0 * dot w c : Int) : Rat) := by
    push_cast
    rw [e1, e2, e3, ← sm_mul, ← sm_mul, ← sm_lin]
    refine sm_congr fun k hk => ?_
    have e := elf_get (c := c) (v := v) (z := z) (j := k) (by have := List.mem_range.1 hk; omega)
    have e' : ((gof c v z * (elf c z v).getD k 0 : Int) : Rat) = ((v.getD k 0 * c.getD z 0 - c.getD k 0 * v.getD z 0 : Int) : Rat) := by rw [e]
    push_cast at e'
    grind
  exact_mod_cast this
theorem lsum_elf {c : List Int} {z k : Nat} (hk : k < c.length) : ∀ {az : List Int} {cs : List (List Int)}, lsum (List.zipWith (fun a v => a * gof c v z) az cs) (cs.map (elf c z)) k = c.getD z 0 * lsum az cs k - c.getD k 0 * lsum az cs z
  | a :: az, v :: cs => by
    have ih := lsum_elf (z := z) hk (az := az) (cs := cs)
    have e := elf_get (c := c) (v := v) (z := z) hk
    simp only [List.zipWith_cons_cons, List.map_cons, lsum, ih]
    rw [Int.mul_assoc, e]
    generalize v.getD k 0 = p
    generalize c.getD z 0 = q
    generalize c.getD k 0 = r
    generalize v.getD z 0 = u
    generalize lsum az cs k = l1
    generalize lsum az cs z = l2
    grind
  | [], _ => by simp [lsum]
  | _ :: _, [] => by simp [lsum]
theorem rank_eq (hF : 1000000 < F) (hK : K ≤ 5) : ∀ (n : Nat) (cs : List (List Int)) (d : List Int) (k : Nat) (Z : List Nat) (y : Nat) (m1 m2 : Nat), cs.length = n → n + y ≤ 50 → n < m1 → n + 1 < m2 → Zs K k Z → (∀ c ∈ cs, Lv K k Z bC c) → Lv K k Z bD d →
    ∃ (r : Nat) (b : Bool), ref11_rank_l1 F m1 cs (y : Int) = some (r : Int) ∧ ref11_rank_l1 F m2 (cs ++ [d]) (y : Int) = some (if b = true then (r : Int) else (r : Int) + 1) ∧
      (b = true → ∀ w : List Int, w.length = K → (∀ c ∈ cs, dot w c = 0) → dot w d = 0) ∧ (Dep K cs d → b = true) := by
  have dot0 : ∀ (w d : List Int), (∀ k, d.getD k 0 = 0) → dot w d = 0 := by
    intro w
    induction w with
    | nil => intro d _; rfl
    | cons a w ih =>
      intro d h
      cases d with
      | nil => rfl
      | cons e d =>
        have h0 := h 0
        have h1 := ih d fun k => h (k + 1)
        simp only [List.getD_cons_zero] at h0
        simp [dot, h0, h1]
  intro n
  induction n with
  | zero =>
    intro cs d k Z y m1 m2 hn hy h1 h2 hZ hc hd
    have : cs = [] := List.length_eq_zero_iff.1 hn
    subst this
    have hdl := hd.len
    obtain ⟨m1, rfl⟩ : ∃ m, m1 = m + 1 := ⟨m1 - 1, by omega⟩
    obtain ⟨m2, rfl⟩ : ∃ m, m2 = m + 2 := ⟨m2 - 2, by omega⟩
    obtain ⟨z, z1, z2⟩ := l2_eq (F := F) (c := d) hF (by omega)
    have e1 : ∀ (m : Nat) (y : Int), ref11_rank_l1 F (m + 1) [] y = some y := fun m y => by
      unfold ref11_rank_l1
      rw [if_neg (by simp)]
    have e2 : sdrop [d] 1 = some [] := rfl
    have e3 : ix [d] 0 = some d := rfl
    rw [e1, List.nil_append]
    unfold ref11_rank_l1
    rw [if_pos (by simp), e2, e3]
    simp only [Option.bind_eq_bind, Option.bind_some, z1]
    rcases z2 with ⟨rfl, h⟩ | ⟨j, rfl, hj, h⟩
    · refine ⟨y, true, rfl, ?_, fun _ w _ _ => dot0 w d h, fun _ => rfl⟩
      rw [if_pos (by decide)]
      simp only [Option.bind_some, e1, if_true]
    · refine ⟨y, false, rfl, ?_, fun h => by simp at h, fun ⟨a0, az, h3, h4⟩ => ?_⟩
      · have e4 : ref11_rank_l3 F d [] (j : Int) F [] 0 = some [] := by
          obtain ⟨f, rfl⟩ : ∃ f, F = f + 1 := ⟨F - 1, by omega⟩
          unfold ref11_rank_l3
          rw [if_neg (by simp)]
        rw [if_neg (by simp), e4, w64_succ (by omega)]
        simp only [Option.bind_some, e1]
        simp
      · exfalso
        have := h4 j (by omega)
        have e5 : lsum az [] j = 0 := by cases az <;> rfl
        rw [e5] at this
        rcases Int.mul_eq_zero.1 this.symm with h5 | h5
        · exact h3 h5
        · exact h h5
  | succ n ih =>
    intro cs d k Z y m1 m2 hn hy h1 h2 hZ hc hd
    cases cs with
    | nil => simp at hn
    | cons c cs =>
    rw [List.length_cons] at hn
    obtain ⟨m1, rfl⟩ : ∃ m, m1 = m + 1 := ⟨m1 - 1, by omega⟩
    obtain ⟨m2, rfl⟩ : ∃ m, m2 = m + 1 := ⟨m2 - 1, by omega⟩
    have hcc := hc c (by simp)
    have hcl := hcc.len
    have hdl := hd.len
    obtain ⟨z, z1, z2⟩ := l2_eq (F := F) (c := c) hF (by omega)
    have e2 : ∀ l : List (List Int), sdrop (c :: l) 1 = some l := fun l => by
      unfold sdrop
      rw [if_pos (by simp; omega)]
      rfl
    have e3 : ∀ l : List (List Int), ix (c :: l) 0 = some c := fun l => rfl
    have e4 : ∀ l : List (List Int), decide (0 < ((c :: l).length : Int)) = true := fun l => by
      rw [List.length_cons]
      simp only [decide_eq_true_eq]
      omega
    rw [List.cons_append]
    rcases z2 with ⟨rfl, h⟩ | ⟨j, rfl, hj, h⟩
    · obtain ⟨r, b, r1, r2, r3, r4⟩ := ih cs d k Z y m1 m2 (by omega) (by omega) (by omega) (by omega) hZ (fun c hc2 => hc c (by simp [hc2])) hd
      refine ⟨r, b, ?_, ?_, fun hb w hw hwc => r3 hb w hw fun c hc2 => hwc c (by simp [hc2]), fun ⟨a0, az, h3, h4⟩ => r4 ⟨a0, az.drop 1, h3, fun k hk => ?_⟩⟩
      · unfold ref11_rank_l1
        rw [if_pos (e4 _), e2, e3]
        simp only [Option.bind_eq_bind, Option.bind_some, z1]
        rw [if_pos (by decide)]
        exact r1
      · unfold ref11_rank_l1
        rw [if_pos (e4 _), e2, e3]
        simp only [Option.bind_eq_bind, Option.bind_some, z1]
        rw [if_pos (by decide)]
        exact r2
      · rw [← h4 k hk]
        cases az with
        | nil => cases cs <;> rfl
        | cons a az => simp only [List.drop_one, List.tail_cons, lsum, h k, Int.mul_zero, Int.zero_add]
    · have hjK : j < K := by omega
      have hst := fun v (hv : Lv K k Z bC v) => step_bd hK hZ (.inl rfl) hcc hv hjK h
      have hsd := step_bd hK hZ (.inr rfl) hcc hd hjK h
      obtain ⟨r, b, r1, r2, r3, r4⟩ := ih (cs.map (elf c j)) (elf c j d) (k + 1) (j :: Z) (y + 1) m1 m2 (by simp; omega) (by omega) (by omega) (by omega) hsd.1 (fun v hv => by
        obtain ⟨u, hu, rfl⟩ := List.mem_map.1 hv
        exact (Lv.el hK hZ (.inl rfl) hcc (hc u (by simp [hu])) hjK h)) (Lv.el hK hZ (.inr rfl) hcc hd hjK h)
      refine ⟨r, b, ?_, ?_, fun hb w hw hwc => ?_, fun ⟨a0, az, h3, h4⟩ => r4 ⟨a0 * gof c d j, List.zipWith (fun a v => a * gof c v j) (az.drop 1) cs, ?_, fun k hk => ?_⟩⟩
      · unfold ref11_rank_l1
        rw [if_pos (e4 _), e2, e3]
        simp only [Option.bind_eq_bind, Option.bind_some, z1]
        rw [if_neg (by simp), l3_eq hF (by omega) hj (by omega) fun v hv => ⟨by rw [(hc v (by simp [hv])).len, hcl], (hst v (hc v (by simp [hv]))).2.1⟩, w64_succ (by omega)]
        exact r1
      · unfold ref11_rank_l1
        rw [if_pos (e4 _), e2, e3]
        simp only [Option.bind_eq_bind, Option.bind_some, z1]
        rw [if_neg (by simp), l3_eq hF (by omega) hj (by simp; omega) fun v hv => by
          rcases List.mem_append.1 hv with hv | hv
          · exact ⟨by rw [(hc v (by simp [hv])).len, hcl], (hst v (hc v (by simp [hv]))).2.1⟩
          · rw [List.mem_singleton] at hv
            subst hv
            exact ⟨by omega, hsd.2.1⟩, w64_succ (by omega)]
        rw [List.map_append]
        exact r2
      · have hw0 := hwc c (by simp)
        have h5 := r3 hb w hw fun v hv => by
          obtain ⟨u, hu, rfl⟩ := List.mem_map.1 hv
          have e := dot_elf (w := w) (c := c) (v := u) (z := j) hw hcl (hc u (by simp [hu])).len
          rw [hw0, hwc u (by simp [hu]), Int.mul_zero, Int.mul_zero, Int.sub_self] at e
          rcases Int.mul_eq_zero.1 e with h6 | h6
          · have := gof_pos (c := c) (v := u) (z := j)
            omega
          · exact h6
        have e := dot_elf (w := w) (c := c) (v := d) (z := j) hw hcl hdl
        rw [h5, hw0, Int.mul_zero, Int.mul_zero, Int.sub_zero] at e
        rcases Int.mul_eq_zero.1 e.symm with h6 | h6
        · exact (h h6).elim
        · exact h6
      · have := gof_pos (c := c) (v := d) (z := j)
        exact Int.mul_ne_zero h3 (by omega)
      · rw [lsum_elf (by omega), Int.mul_assoc, elf_get (by omega)]
        have g1 := h4 k hk
        have g2 := h4 j hjK
        have e5 : ∀ k, lsum az (c :: cs) k = az.getD 0 0 * c.getD k 0 + lsum (az.drop 1) cs k := fun k => by
          cases az with
          | nil => cases cs <;> simp [lsum]
          | cons a az => simp [lsum]
        rw [e5] at g1 g2
        generalize lsum (az.drop 1) cs k = l1 at *
        generalize lsum (az.drop 1) cs j = l2 at *
        generalize az.getD 0 0 = a at *
        generalize c.getD k 0 = ck at *
        generalize c.getD j 0 = cj at *
        generalize d.getD k 0 = dk at *
        generalize d.getD j 0 = dj at *
        grind
theorem mixed_eq {x : Spec} {s t : List Int} (hF : 1000000 < F) (hx : V x) (hs : Stk x s) (ht : Stk x t) : ∃ b, ref11_Mixed F x s t = some b ∧ ((∃ w, WP x s t w) → b = false) ∧ ((∃ p, MP x s t p) → b = true) := by
  have k5 := hx.k5
  have m8 := hx.m8
  have hsl := hs.len
  have htl := ht.len
  have l2 : ∀ j (hj : j < x.2.length), ref11_Mixed_l2 F x s (j : Int) F [] 0 = some ((List.range x.1.length).map (chg x.2[j])) := fun j hj => by
    obtain ⟨h1, h2, _⟩ := hx.mv _ (List.getElem_mem hj)
    have loop : ∀ (m k : Nat), k ≤ x.1.length → x.1.length - k < m → ref11_Mixed_l2 F x s (j : Int) m ((List.range k).map (chg x.2[j])) (k : Int) = some ((List.range x.1.length).map (chg x.2[j])) := by
      intro m
      induction m with
      | zero => intro k _ h; omega
      | succ m ih =>
        intro k hk hm
        simp only [ref11_Mixed_l2]
        by_cases hlt : k < x.1.length
        · have c1 : k < x.2[j].2.length := by omega
          have c2 : k < x.2[j].1.length := by omega
          have hb := chg_bd hx (List.getElem_mem hj) k
          have e : x.2[j].2[k] - x.2[j].1[k] = chg x.2[j] k := by unfold chg; rw [getD_at c1, getD_at c2]
          rw [if_pos (by rw [hsl]; exact ltd hlt), ix_nat hj, w64_succ (by omega)]
          simp only [Option.bind_eq_bind, Option.bind_some, ix_nat c1, ix_nat c2]
          rw [e, w64_in (by omega), app_some (by simp; omega)]
          simp only [Option.bind_some]
          have := ih (k + 1) (by omega) (by omega)
          rw [List.range_succ, List.map_append] at this
          exact this
        · have : k = x.1.length := by omega
          subst this
          rw [if_neg (by rw [hsl]; exact nltd)]
    exact loop F 0 (by omega) (by omega)
  have l1 : ref11_Mixed_l1 F x s F [] 0 = some (x.2.map fun m => (List.range x.1.length).map (chg m)) := by
    have loop : ∀ (m j : Nat), j ≤ x.2.length → x.2.length - j < m → ref11_Mixed_l1 F x s m ((x.2.take j).map fun m => (List.range x.1.length).map (chg m)) (j : Int) = some (x.2.map fun m => (List.range x.1.length).map (chg m)) := by
      intro m
      induction m with
      | zero => intro k _ h; omega
      | succ m ih =>
        intro j hj hm
        simp only [ref11_Mixed_l1]
        by_cases hlt : j < x.2.length
        · rw [if_pos (ltd hlt), l2 j hlt, w64_succ (by omega)]
          simp only [Option.bind_eq_bind, Option.bind_some]
          rw [app_some (by simp; omega)]
          simp only [Option.bind_some]
          have := ih (j + 1) (by omega) (by omega)
          have e2 : x.2.take (j + 1) = x.2.take j ++ [x.2[j]] := by
            rw [List.take_add_one, List.getElem?_eq_getElem hlt]
            rfl
          rw [e2, List.map_append] at this
          exact this
        · have : j = x.2.length := by omega
          subst this
          rw [if_neg nltd, List.take_length]
    exact loop F 0 (by omega) (by omega)
  have l3 : ref11_Mixed_l3 F s t F [] 0 = some ((List.range x.1.length).map fun k => t.getD k 0 - s.getD k 0) := by
    have loop : ∀ (m k : Nat), k ≤ x.1.length → x.1.length - k < m → ref11_Mixed_l3 F s t m ((List.range k).map fun k => t.getD k 0 - s.getD k 0) (k : Int) = some ((List.range x.1.length).map fun k => t.getD k 0 - s.getD k 0) := by
      intro m
      induction m with
      | zero => intro k _ h; omega
      | succ m ih =>
        intro k hk hm
        simp only [ref11_Mixed_l3]
        by_cases hlt : k < x.1.length
        · obtain ⟨c1, c2, g1, g2, g3⟩ := dif_bd hx hs ht hlt
          rw [if_pos (by rw [hsl]; exact ltd hlt), ix_nat c1, ix_nat c2, w64_succ (by omega)]
          simp only [Option.bind_eq_bind, Option.bind_some]
          rw [w64_in (by omega), app_some (by simp; omega)]
          simp only [Option.bind_some]
          have := ih (k + 1) (by omega) (by omega)
          rw [List.range_succ, List.map_append, List.map_cons, List.map_nil, g1, g2] at this
          exact this
        · have : k = x.1.length := by omega
          subst this
          rw [if_neg (by rw [hsl]; exact nltd)]
    exact loop F 0 (by omega) (by omega)
  have hrg : ∀ (f : Nat → Int) (k : Nat), ((List.range x.1.length).map f).getD k 0 = if k < x.1.length then f k else 0 := fun f k => by
    by_cases h : k < x.1.length
    · rw [if_pos h, getD_at (by simpa using h)]
      simp
    · rw [if_neg h, List.getD_eq_getElem?_getD, List.getElem?_eq_none (by simpa using h)]
      rfl
  have hlv : ∀ (f : Nat → Int) (b : Nat → Int), 0 ≤ b 0 → (∀ k, k < x.1.length → -(b 0) ≤ f k ∧ f k ≤ b 0) → Lv x.1.length 0 [] b ((List.range x.1.length).map f) := fun f b h0 h => ⟨by simp, by simp, fun _ j => by
    rw [hrg]
    split
    · rename_i hj
      exact h j hj
    · omega⟩
  obtain ⟨r, b, r1, r2, r3, r4⟩ := rank_eq (F := F) hF k5 x.2.length (x.2.map fun m => (List.range x.1.length).map (chg m)) ((List.range x.1.length).map fun k => t.getD k 0 - s.getD k 0) 0 [] 0 F F (by simp) (by omega) (by omega) (by omega) ⟨rfl, List.nodup_nil, by simp⟩ (fun c hc => by
    obtain ⟨m, hm, rfl⟩ := List.mem_map.1 hc
    exact hlv _ _ (by decide) fun k _ => chg_bd hx hm k) (hlv _ _ (by decide) fun k hk => by
    obtain ⟨c1, c2, g1, g2, g3⟩ := dif_bd hx hs ht hk
    simp only [g1, g2]
    exact g3)
  refine ⟨b, ?_, fun ⟨w, hw⟩ => ?_, fun ⟨p, hp⟩ => r4 ⟨p.2, p.1, by have := hp.den; omega, fun k hk => ?_⟩⟩
  · unfold ref11_Mixed ref11_rank
    simp only [Int.natCast_zero] at r1 r2
    simp only [l1, l3, Option.bind_eq_bind, Option.bind_some, r1]
    rw [app_some (by simp; omega)]
    simp only [Option.bind_some, List.nil_append]
    rw [app_some (by simp; omega)]
    simp only [Option.bind_some, r2]
    cases b with
    | true => simp
    | false =>
      simp only [Bool.false_eq_true, if_false]
      congr 1
      simp only [decide_eq_false_iff_not]
      omega
  · cases b with
    | false => rfl
    | true =>
      have hwl := hw.len
      have e : ∀ (a c : List Int), a.length = w.length → c.length = w.length → dot w ((List.range x.1.length).map fun k => c.getD k 0 - a.getD k 0) = dot w c - dot w a := fun a c ha hc => by
        have e1 := dot_sm (w := w) (l := (List.range x.1.length).map fun k => c.getD k 0 - a.getD k 0) (by simp [hwl])
        have e2 := dot_sm (w := w) (l := a) ha.symm
        have e3 := dot_sm (w := w) (l := c) hc.symm
        have : ((dot w ((List.range x.1.length).map fun k => c.getD k 0 - a.getD k 0) : Int) : Rat) = ((dot w c - dot w a : Int) : Rat) := by
          push_cast
          rw [e1, e2, e3]
          have h4 := sm_lin (f := fun k => (w.getD k 0 : Rat) * (c.getD k 0 : Rat)) (g := fun k => (w.getD k 0 : Rat) * (a.getD k 0 : Rat)) (x := 1) (l := List.range w.length)
          have h5 : sm (fun k => (w.getD k 0 : Rat) * ((((List.range x.1.length).map fun k => c.getD k 0 - a.getD k 0).getD k 0 : Int) : Rat)) (List.range w.length) = sm (fun r => (w.getD r 0 : Rat) * (c.getD r 0 : Rat) - 1 * ((w.getD r 0 : Rat) * (a.getD r 0 : Rat))) (List.range w.length) := sm_congr fun k hk => by
            rw [hrg, if_pos (by have := List.mem_range.1 hk; omega)]
            push_cast
            grind
          rw [h5, h4]
          grind
        exact_mod_cast this
      have h6 := r3 rfl w hwl fun c hc => by
        obtain ⟨m, hm, rfl⟩ := List.mem_map.1 hc
        obtain ⟨h1, h2, _⟩ := hx.mv m hm
        have h7 := e m.1 m.2 (by omega) (by omega)
        rw [hw.mv m hm, Int.sub_self] at h7
        exact h7
      rw [e s t (by omega) (by omega)] at h6
      exact (hw.ne (by omega)).elim
  · rw [hrg, if_pos hk, ← hp.eq k hk]
    have key : ∀ (az : List Int) (ms : List Mv), lsum az (ms.map fun m => (List.range x.1.length).map (chg m)) k = msum az ms k := by
      intro az
      induction az with
      | nil => intro ms; rfl
      | cons a az ih =>
        intro ms
        cases ms with
        | nil => rfl
        | cons m ms => simp only [List.map_cons, lsum, msum, ih, hrg, if_pos hk]
    exact key p.1 x.2
theorem proofs_law {x : Spec} {s t w : List Int} {p : List Int × Int} (hF : 2000000000 < F) (hW : law11_Works F = some true) : law11_BathProofs F x s t w p = some true := by
  have hF' : 1000000 < F := by omega
  unfold law11_BathProofs
  have hg : law11_great F (x.1, x.2) = some (gr x) := great_eq hF'
  simp only [hg, Option.bind_eq_bind, Option.bind_some, hW]
  split
  · rfl
  rename_i hc
  simp only [Bool.or_eq_true, decide_eq_true_eq, not_or] at hc
  obtain ⟨⟨⟨⟨c1, c2⟩, c3⟩, c4⟩, c5⟩ := hc
  have ho : ref11_Two F (x.1, x.2) s t = some (two x s t) := two_eq hF'
  have cme : ∀ q : List Int × Int, q.1.length ≤ 1000000 → bath_CheckMix F (x.1, x.2) s t q = some (cm x s t q) := fun q hq => checkm_eq hF' hq
  have rcme : ∀ q : List Int × Int, q.1.length ≤ 1000000 → ref11_CheckMix F (x.1, x.2) s t q = some (cm x s t q) := fun q hq => rcheckm_eq hF' hq
  have cwe : bath_CheckWeights F (x.1, x.2) w = some (cw x w) := checkw_eq hF'
  have rcwe : ref11_CheckWeights F (x.1, x.2) w = some (cw x w) := rcheckw_eq hF'
  simp only [cwe, rcwe, ho, cme (p.1, p.2) (by simp only; omega), rcme (p.1, p.2) (by simp only; omega), gd, Option.bind_some, decide_true, Bool.not_true, Bool.not_false, cond_true, Bool.or_self, Bool.false_eq_true, if_false]
  by_cases h2 : two x s t = 0
  case neg =>
    obtain ⟨e1, e2⟩ := wm_bad (F := F) hF' h2
    simp only [show bath_Weights F (x.1, x.2) s t = _ from e1, show bath_Mix F (x.1, x.2) s t = _ from e2, Option.bind_some]
    rw [if_pos (by simpa using h2)]
    simp
  obtain ⟨hx, hs, ht⟩ := two_ok.1 h2
  obtain ⟨b, b1, b2, b3⟩ := mixed_eq (F := F) hF' hx hs ht
  rcases wm_eq (F := F) hF' hx hs ht with ⟨w', h1, e1, e2⟩ | ⟨p', h1, e1, e2⟩
  · have hb := b2 ⟨w', h1⟩
    subst hb
    have pte : law11_parts F (x.1, x.2) w' s t = some (decide (cw x w' = 0) && !decide (dot w' s = dot w' t)) := parts_eq hF' hx hs ht
    simp only [show bath_Weights F (x.1, x.2) s t = _ from e1, show bath_Mix F (x.1, x.2) s t = _ from e2, Option.bind_some, show ref11_Mixed F (x.1, x.2) s t = _ from b1, h2, pte, cw_wp hx h1, h1.ne]
    simp
  · have hb := b3 ⟨p', h1⟩
    subst hb
    have hpl := h1.len
    have m8 := hx.m8
    simp only [show bath_Weights F (x.1, x.2) s t = _ from e1, show bath_Mix F (x.1, x.2) s t = _ from e2, Option.bind_some, show ref11_Mixed F (x.1, x.2) s t = _ from b1, h2, rcme (p'.1, p'.2) (by simp only; omega), (cm_ok hx hs ht).2 h1]
    simp
end
end Go.Proofs.Ytboefnpnoojfpaa
