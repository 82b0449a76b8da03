/-
  Bits of numbers, and lists of numbers, in plain words. Condition: the numbers are small; there are enough rounds.
-/
import Derived.Test.YtdimoehnkagghaaSpecA
namespace Go.Proofs.Ytdimoehnkagghaa
open Go Go.Md Go.RowKit

abbrev B62 (n : Nat) : Prop := n < 4611686018427387904
theorem toBV {a : Nat} (h : B62 a) : (BitVec.ofInt 64 (a : Int)).toNat = a := by
  have h' : a < 4611686018427387904 := h
  rw [BitVec.toNat_ofInt]
  omega
theorem w64_nat {a : Nat} (h : B62 a) : IntKind.i64.wrap (a : Int) = (a : Int) := by
  have h' : a < 4611686018427387904 := h
  exact w64_in (by omega)
theorem and62 {a b : Nat} (h : B62 a) : B62 (a &&& b) := Nat.lt_of_le_of_lt Nat.and_le_left h
theorem or62 {a b : Nat} (ha : B62 a) (hb : B62 b) : B62 (a ||| b) := Nat.or_lt_two_pow (n := 62) ha hb
theorem band_nat {a b : Nat} (ha : B62 a) (hb : B62 b) : band .i64 (a : Int) (b : Int) = ((a &&& b : Nat) : Int) := by
  unfold band
  rw [BitVec.toNat_and]
  show IntKind.i64.wrap (((BitVec.ofInt 64 (a : Int)).toNat &&& (BitVec.ofInt 64 (b : Int)).toNat : Nat) : Int) = _
  rw [toBV ha, toBV hb, w64_nat (and62 ha)]
theorem bor_nat {a b : Nat} (ha : B62 a) (hb : B62 b) : bor .i64 (a : Int) (b : Int) = ((a ||| b : Nat) : Int) := by
  unfold bor
  rw [BitVec.toNat_or]
  show IntKind.i64.wrap (((BitVec.ofInt 64 (a : Int)).toNat ||| (BitVec.ofInt 64 (b : Int)).toNat : Nat) : Int) = _
  rw [toBV ha, toBV hb, w64_nat (or62 ha hb)]
/-- a without the bits of b. -/
def ndiff (a b : Nat) : Nat := a ^^^ (a &&& b)
theorem ndiff_bit (a b i : Nat) : (ndiff a b).testBit i = (a.testBit i && !b.testBit i) := by
  unfold ndiff
  rw [Nat.testBit_xor, Nat.testBit_and]
  cases a.testBit i <;> cases b.testBit i <;> rfl
theorem ndiff62 {a b : Nat} (ha : B62 a) : B62 (ndiff a b) := Nat.xor_lt_two_pow (n := 62) ha (and62 ha)
theorem bandn_nat {a b : Nat} (ha : B62 a) (hb : B62 b) : bandn .i64 (a : Int) (b : Int) = ((ndiff a b : Nat) : Int) := by
  unfold bandn
  have e : ∀ x y : BitVec 64, x &&& ~~~y = x ^^^ (x &&& y) := fun x y => by
    ext i hi
    simp only [BitVec.getElem_and, BitVec.getElem_not, BitVec.getElem_xor]
    cases x[i] <;> cases y[i] <;> rfl
  show IntKind.i64.wrap ((BitVec.ofInt 64 (a : Int) &&& ~~~(BitVec.ofInt 64 (b : Int))).toNat : Int) = _
  rw [e, BitVec.toNat_xor, BitVec.toNat_and, toBV ha, toBV hb]
  exact w64_nat (ndiff62 ha)
theorem sub_iff {a b : Nat} : ndiff a b = 0 ↔ ∀ i, a.testBit i = true → b.testBit i = true := by
  constructor
  · intro h i hi
    have := ndiff_bit a b i
    rw [h, Nat.zero_testBit, hi] at this
    simpa using this
  · intro h
    apply Nat.eq_of_testBit_eq
    intro i
    rw [ndiff_bit, Nat.zero_testBit]
    cases ha : a.testBit i with
    | false => rfl
    | true => rw [h i ha]; rfl
theorem pow62 {n : Nat} (h : n ≤ 61) : B62 (2 ^ n) := by
  have h1 : 2 ^ n ≤ 2 ^ 61 := Nat.pow_le_pow_right (by decide) h
  have h2 : (2 : Nat) ^ 61 = 2305843009213693952 := by decide
  show 2 ^ n < 4611686018427387904
  omega
theorem sh1_eq {n : Nat} (h : n ≤ 61) : sh1 n = ((2 ^ n : Nat) : Int) := by
  unfold sh1
  rw [Nat.min_eq_left (by omega), Int.one_mul]
  have h1 := pow62 h
  have h2 : (2 : Int) ^ n = ((2 ^ n : Nat) : Int) := by simp
  rw [h2]
  exact w64_nat h1
theorem shl1 {n : Nat} (h : n ≤ 61) : shl .i64 1 (n : Int) = some ((2 ^ n : Nat) : Int) := by rw [shl_one, sh1_eq h]
theorem shr_nat {k : IntKind} {a n : Nat} (h : a < 2 ^ k.bits) : shr k (a : Int) (n : Int) = some ((a >>> n : Nat) : Int) := by
  unfold shr
  rw [if_neg (by omega), Int.toNat_natCast, Nat.shiftRight_eq_div_pow, Option.some.injEq]
  have e : ∀ m : Nat, (a : Int).fdiv (2 ^ m) = ((a / 2 ^ m : Nat) : Int) := fun m => by
    rw [Int.fdiv_eq_ediv_of_nonneg _ (Int.pow_nonneg (by decide))]
    simp
  rw [e]
  by_cases hn : n ≤ k.bits
  · rw [Nat.min_eq_left hn]
  · have h1 : a < 2 ^ n := Nat.lt_of_lt_of_le h (Nat.pow_le_pow_right (by decide) (by omega))
    rw [Nat.min_eq_right (by omega), Nat.div_eq_of_lt h, Nat.div_eq_of_lt h1]
theorem tb_pow (n i : Nat) : (2 ^ n).testBit i = decide (n = i) := by rw [Nat.testBit_two_pow]

/-! ### Numbers by bits -/
def bitsN (l : List Nat) : Nat := l.foldl (fun o n => o ||| 2 ^ n) 0
theorem foldl_bit (l : List Nat) (o i : Nat) : (l.foldl (fun o n => o ||| 2 ^ n) o).testBit i = (o.testBit i || decide (i ∈ l)) := by
  induction l generalizing o with
  | nil => simp
  | cons a l ih =>
    rw [List.foldl_cons, ih, Nat.testBit_or, tb_pow]
    simp only [List.mem_cons]
    by_cases h1 : a = i
    · subst h1; simp
    · have h2 : ¬ i = a := fun e => h1 e.symm
      simp [h1, h2]
theorem bitsN_bit (l : List Nat) (i : Nat) : (bitsN l).testBit i = decide (i ∈ l) := by rw [bitsN, foldl_bit]; simp
theorem fold62 (l : List Nat) (o : Nat) (h : ∀ n ∈ l, n ≤ 61) (ho : B62 o) : B62 (l.foldl (fun o n => o ||| 2 ^ n) o) := by
  induction l generalizing o with
  | nil => exact ho
  | cons a l ih => exact ih _ (fun n hn => h n (by simp [hn])) (or62 ho (pow62 (h a (by simp))))
theorem bits62 {l : List Nat} (h : ∀ n ∈ l, n ≤ 61) : B62 (bitsN l) := fold62 l 0 h (by decide)
/-- The bits of a list of whole numbers. -/
def bitsI (l : List Int) : Nat := bitsN (l.map Int.toNat)
abbrev Small (l : List Int) : Prop := ∀ n ∈ l, 0 ≤ n ∧ n ≤ 61
theorem bitsI62 {l : List Int} (h : Small l) : B62 (bitsI l) := bits62 fun n hn => by
  obtain ⟨x, hx, rfl⟩ := List.mem_map.1 hn
  have := h x hx
  omega
theorem bitsI_bit {l : List Int} (h : Small l) {x : Int} (hx : 0 ≤ x) : (bitsI l).testBit x.toNat = decide (x ∈ l) := by
  rw [bitsI, bitsN_bit]
  congr 1
  rw [List.mem_map, eq_iff_iff]
  constructor
  · rintro ⟨y, hy, e⟩
    have := h y hy
    rwa [show x = y by omega]
  · intro h'
    exact ⟨x, h', rfl⟩
theorem bitsI_bit' {l : List Int} (h : Small l) (i : Nat) : (bitsI l).testBit i = decide ((i : Int) ∈ l) := bitsI_bit h (x := (i : Int)) (by omega)
theorem together_eq {F : Nat} {l : List Int} (hF : 1000000 < F) (hl : Sm l) (h : Small l) : right_together F l = some ((bitsI l : Nat) : Int) := by
  have hl' : l.length ≤ 1000000 := hl
  unfold right_together
  have := (fold_loop0 (l := l) (σ := Nat) (L := fun m k y => right_together_l1 F l m (y : Int) (k : Int)) (f := fun o n => o ||| 2 ^ n.toNat) (fin := fun y => (y : Int)) (inv := fun _ y => B62 y) (fun m y _ => by
    simp only [right_together_l1]; rw [if_neg nltd]) (fun m k y hk hy => by
    have hs := h l[k] (List.getElem_mem hk)
    obtain ⟨n, hn⟩ : ∃ n : Nat, l[k] = (n : Int) := ⟨l[k].toNat, by omega⟩
    have hn61 : n ≤ 61 := by omega
    refine ⟨?_, ?_⟩
    · simp only [right_together_l1]
      rw [if_pos (ltd hk), ix_nat hk, w64_succ (by omega)]
      simp only [Option.bind_eq_bind, Option.bind_some, hn, shl1 hn61, Int.toNat_natCast]
      rw [bor_nat hy (pow62 hn61)]
    · rw [hn, Int.toNat_natCast]
      exact or62 hy (pow62 hn61)) (m := F) (y := 0) (by omega) (by decide)).1
  simp only [Int.natCast_zero] at this
  rw [this]
  simp only [Option.bind_eq_bind, Option.bind_some, bitsI, bitsN, List.foldl_map]

/-! ### The numbers of bits -/
/-- The numbers of the bits of N that are below K. -/
def lst (N K : Nat) : List Int := ((List.range K).filter fun i => N.testBit i).map fun (i : Nat) => (i : Int)
theorem lst_succ (N K : Nat) : lst N (K + 1) = if N.testBit K = true then lst N K ++ [(K : Int)] else lst N K := by
  unfold lst
  rw [List.range_succ, List.filter_append, List.map_append]
  by_cases h : N.testBit K = true <;> simp [h]
theorem lst_len (N K : Nat) : (lst N K).length ≤ K := by
  unfold lst
  rw [List.length_map]
  exact Nat.le_trans (List.length_filter_le _ _) (by simp)
theorem lst_mem {N K : Nat} {x : Int} : x ∈ lst N K ↔ ∃ i : Nat, x = (i : Int) ∧ i < K ∧ N.testBit i = true := by
  unfold lst
  simp only [List.mem_map, List.mem_filter, List.mem_range]
  constructor
  · rintro ⟨i, ⟨h1, h2⟩, rfl⟩; exact ⟨i, rfl, h1, h2⟩
  · rintro ⟨i, rfl, h1, h2⟩; exact ⟨i, ⟨h1, h2⟩, rfl⟩
theorem shift_zero {N i : Nat} (h : N >>> i = 0) {j : Nat} (hj : i ≤ j) : N.testBit j = false := by
  have := Nat.testBit_shiftRight (i := i) (j := j - i) N
  rw [h, Nat.zero_testBit] at this
  rw [show i + (j - i) = j by omega] at this
  exact this.symm
theorem shift_one (N i : Nat) : (N >>> i) % 2 = 1 ↔ N.testBit i = true := by
  rw [Nat.testBit_eq_decide_div_mod_eq, Nat.shiftRight_eq_div_pow]
  simp
theorem lst_stop {N i K : Nat} (h : N >>> i = 0) (hK : i ≤ K) : lst N K = lst N i := by
  induction K with
  | zero => rw [show i = 0 by omega]
  | succ K ih =>
    by_cases hi : i = K + 1
    · rw [hi]
    · rw [lst_succ, if_neg (by rw [shift_zero h (by omega)]; simp), ih (by omega)]
theorem numbers_eq {F : Nat} {N : Nat} (hF : 1000000 < F) (hN : B62 N) : right_numbers F (N : Int) = some (lst N 62) := by
  unfold right_numbers
  have key : ∀ m i, i ≤ 62 → 62 - i < m → right_numbers_l1 F (N : Int) m (lst N i) (i : Int) = some (lst N 62) := by
    intro m
    induction m with
    | zero => intro i _ h; omega
    | succ m ih =>
      intro i hi hm
      have hs := shr_nat (k := .i64) (a := N) (n := i) (Nat.lt_of_lt_of_le hN (by decide))
      simp only [right_numbers_l1, hs, Option.bind_eq_bind, Option.bind_some]
      by_cases h0 : N >>> i = 0
      · rw [h0, if_neg (by simp), lst_stop h0 hi]
      · have hi62 : i < 62 := by
          refine Nat.lt_of_le_of_ne hi fun e => h0 ?_
          subst e
          rw [Nat.shiftRight_eq_div_pow]
          exact Nat.div_eq_of_lt hN
        have hb : B62 (N >>> i) := Nat.lt_of_le_of_lt (Nat.shiftRight_le _ _) hN
        have hpos : (0 : Int) < ((N >>> i : Nat) : Int) := Int.natCast_pos.2 (Nat.pos_of_ne_zero h0)
        rw [if_pos (decide_eq_true hpos)]
        have h1 : band .i64 ((N >>> i : Nat) : Int) 1 = (((N >>> i) % 2 : Nat) : Int) := by
          have := band_nat hb (show B62 1 by decide)
          rw [Nat.and_one_is_mod] at this
          exact this
        rw [h1, w64_succ (by omega)]
        have ha : app 8 (lst N i) ([(i : Int)] : List Int) = some (lst N i ++ [(i : Int)]) := app_some (by
          have := lst_len N i
          simp only [List.length_cons, List.length_nil]
          omega)
        rw [ha]
        by_cases hb1 : N.testBit i = true
        · have h2 := (shift_one N i).2 hb1
          rw [h2, if_pos (by simp)]
          simp only [Option.bind_some]
          have := ih (i + 1) (by omega) (by omega)
          rwa [lst_succ, if_pos hb1] at this
        · have h2 : ¬ (N >>> i) % 2 = 1 := fun h => hb1 ((shift_one N i).1 h)
          rw [if_neg (by
            intro hd
            have h3 := of_decide_eq_true hd
            generalize (N >>> i) % 2 = q at h2 h3
            omega)]
          simp only [Option.bind_some]
          have := ih (i + 1) (by omega) (by omega)
          rwa [lst_succ, if_neg hb1] at this
  have := key F 0 (by omega) (by omega)
  have e : lst N 0 = [] := rfl
  rw [e] at this
  simp only [Int.natCast_zero] at this
  rw [this]
  rfl
theorem list_eq {F : Nat} {N : Nat} (hF : 1000000 < F) (hN : B62 N) : ref10_List F (N : Int) = some (lst N 62) := by
  unfold ref10_List
  have key : ∀ m i, i ≤ 62 → 62 - i < m → ref10_List_l1 F (N : Int) m (lst N i) (i : Int) = some (lst N 62) := by
    intro m
    induction m with
    | zero => intro i _ h; omega
    | succ m ih =>
      intro i hi hm
      have hs := shr_nat (k := .i64) (a := N) (n := i) (Nat.lt_of_lt_of_le hN (by decide))
      simp only [ref10_List_l1, hs, Option.bind_eq_bind, Option.bind_some]
      by_cases h0 : N >>> i = 0
      · rw [h0, if_neg (by simp), lst_stop h0 hi]
      · have hi62 : i < 62 := by
          refine Nat.lt_of_le_of_ne hi fun e => h0 ?_
          subst e
          rw [Nat.shiftRight_eq_div_pow]
          exact Nat.div_eq_of_lt hN
        have hpos : (0 : Int) < ((N >>> i : Nat) : Int) := Int.natCast_pos.2 (Nat.pos_of_ne_zero h0)
        rw [if_pos (decide_eq_true hpos)]
        have h1 : Int.tmod ((N >>> i : Nat) : Int) 2 = (((N >>> i) % 2 : Nat) : Int) := by
          rw [Int.tmod_eq_emod_of_nonneg (by omega)]
          omega
        rw [h1, w64_succ (by omega)]
        have ha : app 8 (lst N i) ([(i : Int)] : List Int) = some (lst N i ++ [(i : Int)]) := app_some (by
          have := lst_len N i
          simp only [List.length_cons, List.length_nil]
          omega)
        rw [ha]
        by_cases hb1 : N.testBit i = true
        · have h2 := (shift_one N i).2 hb1
          rw [h2, if_pos (by simp)]
          simp only [Option.bind_some]
          have := ih (i + 1) (by omega) (by omega)
          rwa [lst_succ, if_pos hb1] at this
        · have h2 : ¬ (N >>> i) % 2 = 1 := fun h => hb1 ((shift_one N i).1 h)
          rw [if_neg (by
            intro hd
            have h3 := of_decide_eq_true hd
            generalize (N >>> i) % 2 = q at h2 h3
            omega)]
          simp only [Option.bind_some]
          have := ih (i + 1) (by omega) (by omega)
          rwa [lst_succ, if_neg hb1] at this
  have := key F 0 (by omega) (by omega)
  have e : lst N 0 = [] := rfl
  rw [e] at this
  simp only [Int.natCast_zero] at this
  rw [this]
  rfl
theorem lst_nat_sub {N K : Nat} : ∀ x ∈ lst N K, 0 ≤ x ∧ x < K := fun x hx => by
  obtain ⟨i, rfl, h, _⟩ := lst_mem.1 hx
  omega
theorem bits_lst {N : Nat} (hN : B62 N) : bitsI (lst N 62) = N := by
  apply Nat.eq_of_testBit_eq
  intro i
  rw [bitsI_bit' (fun x hx => by have := lst_nat_sub x hx; omega)]
  by_cases h : N.testBit i = true
  · have : i < 62 := by
      rcases Nat.lt_or_ge i 62 with h1 | h1
      · exact h1
      · have h2 : N < 2 ^ i := Nat.lt_of_lt_of_le hN (Nat.pow_le_pow_right (n := 2) (by decide) h1)
        rw [Nat.testBit_lt_two_pow h2] at h
        cases h
    rw [h]
    exact decide_eq_true (lst_mem.2 ⟨i, rfl, this, h⟩)
  · have h' : N.testBit i = false := by simpa using h
    rw [h']
    refine decide_eq_false fun hm => ?_
    obtain ⟨j, e, _, hj⟩ := lst_mem.1 hm
    rw [show i = j by omega] at h'
    rw [h'] at hj
    cases hj
end Go.Proofs.Ytdimoehnkagghaa
