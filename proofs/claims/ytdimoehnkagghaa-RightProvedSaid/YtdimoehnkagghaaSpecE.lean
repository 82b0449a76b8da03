/-
  The treaty: its ways, and what it holds, as bits. Condition: the book is sound.
-/
import Derived.Test.YtdimoehnkagghaaSpecD
namespace Go.Proofs.Ytdimoehnkagghaa
open Go Go.Md Go.RowKit

def wy (b : Bool) (i : Nat) (r : TRule) : TWay := ((b, (i : Int)), ((bitsI r.1 : Nat) : Int), ((2 ^ r.2.toNat : Nat) : Int))
def wys (b : Bool) (l : List TRule) : List TWay := l.mapIdx (wy b)
theorem wys_len (b : Bool) (l : List TRule) : (wys b l).length = l.length := by simp [wys]
theorem wys_drop {b : Bool} {l : List TRule} {k : Nat} (h : k < l.length) : (wys b l).drop k = wy b k l[k] :: (wys b l).drop (k + 1) := by
  rw [List.drop_eq_getElem_cons (by rw [wys_len]; exact h)]
  simp [wys]
theorem wys_mem {b : Bool} {l : List TRule} {w : TWay} : w ∈ wys b l ↔ ∃ i r, l[i]? = some r ∧ w = wy b i r := by
  unfold wys
  rw [List.mem_mapIdx]
  constructor
  · rintro ⟨i, h, rfl⟩
    exact ⟨i, l[i], List.getElem?_eq_getElem h, rfl⟩
  · rintro ⟨i, r, h, rfl⟩
    obtain ⟨h1, h2⟩ := List.getElem?_eq_some_iff.1 h
    exact ⟨i, h1, by rw [h2]⟩
def ways (s : TBook) : List TWay := wys false s.2.2.1 ++ wys true s.2.2.2.1
def treaty (s : TBook) : TTreaty := (s, ((bitsI s.2.1 : Nat) : Int), ways s, s.2.2.2.2.map fun t => ((bitsI t : Nat) : Int))
abbrev RuleOk (r : TRule) : Prop := Small r.1 ∧ Sm r.1 ∧ 0 ≤ r.2 ∧ r.2 < 30
theorem Sound.rok {s : TBook} (h : Sound s) {r : TRule} (hr : rise r.1 s.1 = true ∧ 0 ≤ r.2 ∧ r.2 < s.1) : RuleOk r :=
  ⟨rise_small hr.1 (by have := h.n2; omega), h.smr hr.1, hr.2.1, by have := h.n2; have := hr.2.2; omega⟩
theorem shl_gives {x : Int} (h : 0 ≤ x ∧ x < 62) : shl .i64 1 x = some ((2 ^ x.toNat : Nat) : Int) := by
  have := shl1 (n := x.toNat) (by omega)
  rwa [show ((x.toNat : Nat) : Int) = x by omega] at this

section
variable {F : Nat} {s : TBook}
theorem nt1 (hF : 1000000 < F) (hl : s.2.2.1.length ≤ 40) (hr : ∀ r ∈ s.2.2.1, RuleOk r) {h : Int} : ∀ (m k : Nat) (W : List TWay), k ≤ s.2.2.1.length → s.2.2.1.length - k < m → W.length ≤ 100 + k → right_newTreaty_l1 F s m (k : Int) (s, h, W, []) = some (s, h, W ++ (wys false s.2.2.1).drop k, [])
  | 0, k, _, _, h, _ => by omega
  | m + 1, k, W, hk, hm, hW => by
    by_cases hlt : k < s.2.2.1.length
    · have h1 := hr _ (List.getElem_mem hlt)
      simp only [right_newTreaty_l1]
      rw [if_pos (ltd hlt), ix_nat hlt, w64_succ (by omega)]
      simp only [Option.bind_eq_bind, Option.bind_some]
      rw [shl_gives ⟨h1.2.2.1, by omega⟩, together_eq hF h1.2.1 h1.1]
      simp only [Option.bind_some]
      rw [app_some (by simp; omega)]
      simp only [Option.bind_some]
      have := nt1 hF hl hr (h := h) m (k + 1) (W ++ [wy false k s.2.2.1[k]]) (by omega) (by omega) (by simp; omega)
      refine Eq.trans this ?_
      rw [wys_drop hlt]
      simp
    · have : k = s.2.2.1.length := by omega
      subst this
      simp only [right_newTreaty_l1]
      rw [if_neg nltd, List.drop_eq_nil_of_le (by rw [wys_len]; exact Nat.le_refl _), List.append_nil]
theorem nt2 (hF : 1000000 < F) (hl : s.2.2.2.1.length ≤ 12) (hr : ∀ r ∈ s.2.2.2.1, RuleOk r) {h : Int} : ∀ (m k : Nat) (W : List TWay), k ≤ s.2.2.2.1.length → s.2.2.2.1.length - k < m → W.length ≤ 100 + k → right_newTreaty_l2 F s m (k : Int) (s, h, W, []) = some (s, h, W ++ (wys true s.2.2.2.1).drop k, [])
  | 0, k, _, _, h, _ => by omega
  | m + 1, k, W, hk, hm, hW => by
    by_cases hlt : k < s.2.2.2.1.length
    · have h1 := hr _ (List.getElem_mem hlt)
      simp only [right_newTreaty_l2]
      rw [if_pos (ltd hlt), ix_nat hlt, w64_succ (by omega)]
      simp only [Option.bind_eq_bind, Option.bind_some]
      rw [shl_gives ⟨h1.2.2.1, by omega⟩, together_eq hF h1.2.1 h1.1]
      simp only [Option.bind_some]
      rw [app_some (by simp; omega)]
      simp only [Option.bind_some]
      have := nt2 hF hl hr (h := h) m (k + 1) (W ++ [wy true k s.2.2.2.1[k]]) (by omega) (by omega) (by simp; omega)
      refine Eq.trans this ?_
      rw [wys_drop hlt]
      simp
    · have : k = s.2.2.2.1.length := by omega
      subst this
      simp only [right_newTreaty_l2]
      rw [if_neg nltd, List.drop_eq_nil_of_le (by rw [wys_len]; exact Nat.le_refl _), List.append_nil]
theorem nt3 (hF : 1000000 < F) (hl : s.2.2.2.2.length ≤ 10) (hr : ∀ t ∈ s.2.2.2.2, Small t ∧ Sm t) {h : Int} {z2 : TTreaty} : ∀ (m k : Nat) (W : List Int), k ≤ s.2.2.2.2.length → s.2.2.2.2.length - k < m → W.length ≤ 100 + k → right_newTreaty_l3 F s z2 m (k : Int) (s, h, z2.2.2.1, W) = some (s, h, z2.2.2.1, W ++ (s.2.2.2.2.map fun t => ((bitsI t : Nat) : Int)).drop k)
  | 0, k, _, _, h, _ => by omega
  | m + 1, k, W, hk, hm, hW => by
    by_cases hlt : k < s.2.2.2.2.length
    · have h1 := hr _ (List.getElem_mem hlt)
      simp only [right_newTreaty_l3]
      rw [if_pos (ltd hlt), ix_nat hlt, w64_succ (by omega)]
      simp only [Option.bind_eq_bind, Option.bind_some]
      rw [together_eq hF h1.2 h1.1]
      simp only [Option.bind_some]
      rw [app_some (by simp; omega)]
      simp only [Option.bind_some]
      have := nt3 hF hl hr (h := h) (z2 := z2) m (k + 1) (W ++ [((bitsI s.2.2.2.2[k] : Nat) : Int)]) (by omega) (by omega) (by simp; omega)
      refine Eq.trans this ?_
      rw [List.drop_eq_getElem_cons (i := k) (by simp; omega)]
      simp
    · have : k = s.2.2.2.2.length := by omega
      subst this
      simp only [right_newTreaty_l3]
      rw [if_neg nltd, List.drop_eq_nil_of_le (by simp), List.append_nil]
end

/-! ### One way -/
structure IsWay (w : TWay) : Prop where
  ex : ∃ b i r, w = wy b i r ∧ RuleOk r ∧ i ≤ 61
theorem ways_is {s : TBook} (hs : Sound s) : ∀ w ∈ ways s, IsWay w := fun w hw => by
  rcases List.mem_append.1 hw with h | h
  · obtain ⟨i, r, h1, rfl⟩ := wys_mem.1 h
    exact ⟨_, i, r, rfl, hs.rok (hs.rule r (List.mem_of_getElem? h1)), by have := (List.getElem?_eq_some_iff.1 h1).1; have := hs.rules; omega⟩
  · obtain ⟨i, r, h1, rfl⟩ := wys_mem.1 h
    exact ⟨_, i, r, rfl, hs.rok (hs.give r (List.mem_of_getElem? h1)), by have := (List.getElem?_eq_some_iff.1 h1).1; have := hs.given; omega⟩
def mayw (f : List Int) (N : Nat) (w : TWay) : Bool := (!w.1.1 || decide (w.1.2 ∈ f)) && decide (ndiff w.2.1.toNat N = 0)
def okw (f : List Int) (N : Nat) (w : TWay) : Bool := mayw f N w && !decide (ndiff w.2.2.toNat N = 0)
theorem p62 {r : TRule} (h : RuleOk r) : B62 (2 ^ r.2.toNat) := pow62 (by have := h.2.2.2; omega)
theorem may_eq {f : List Int} {N : Nat} {w : TWay} (hw : IsWay w) (hf : Small f) (hN : B62 N) : right_way_may w (bitsI f : Nat) (N : Nat) = some (mayw f N w) := by
  obtain ⟨b, i, r, rfl, hr, hi⟩ := hw.ex
  have e1 : bandn .i64 ((bitsI r.1 : Nat) : Int) ((N : Nat) : Int) = ((ndiff (bitsI r.1) N : Nat) : Int) := bandn_nat (bitsI62 hr.1) hN
  have e2 : decide (((ndiff (bitsI r.1) N : Nat) : Int) = 0) = decide (ndiff (bitsI r.1) N = 0) := decide_eq_decide.2 (by omega)
  unfold right_way_may mayw wy
  cases b
  · simp only [Bool.not_false, Bool.not_true, gd, Bool.true_or, Bool.true_and, e1, e2, Int.toNat_natCast]
    rfl
  · have hb := bitsI62 hf
    have hs : bitsI f < 2 ^ (64 : Nat) := by have : bitsI f < 4611686018427387904 := hb; omega
    have e3 : shr .i64 ((bitsI f : Nat) : Int) ((i : Nat) : Int) = some ((bitsI f >>> i : Nat) : Int) := shr_nat hs
    have e4 : band .i64 ((bitsI f >>> i : Nat) : Int) 1 = (((bitsI f >>> i) &&& 1 : Nat) : Int) := band_nat (b := 1) (by
      rw [Nat.shiftRight_eq_div_pow]; exact Nat.lt_of_le_of_lt (Nat.div_le_self _ _) hb) (by decide)
    have e5 : decide ((((bitsI f >>> i) &&& 1 : Nat) : Int) = 1) = decide ((i : Int) ∈ f) := decide_eq_decide.2 (by
      rw [Nat.and_one_is_mod, show ((((bitsI f >>> i) % 2 : Nat) : Int) = 1) = ((bitsI f >>> i) % 2 = 1) by apply propext; omega, shift_one, bitsI_bit' hf, decide_eq_true_eq])
    simp only [Bool.not_true, Bool.not_false, gd, cond_true, e3, Option.bind_eq_bind, Option.bind_some, e4, e1, Bool.false_or, Int.toNat_natCast, e2, e5]
theorem usable_eq {f : List Int} {N : Nat} (hf : Small f) (hN : B62 N) : ∀ {ws : List TWay}, (∀ w ∈ ws, IsWay w) → usableL (bitsI f : Nat) (N : Nat) ws = some (ws.filter (okw f N))
  | [], _ => rfl
  | w :: ws, h => by
    obtain ⟨b, i, r, hw, hr, hi⟩ := (h w List.mem_cons_self).ex
    unfold usableL
    rw [may_eq (h w List.mem_cons_self) hf hN, usable_eq hf hN fun q hq => h q (List.mem_cons_of_mem _ hq)]
    have e : decide (bandn .i64 w.2.2 ((N : Nat) : Int) = 0) = decide (ndiff w.2.2.toNat N = 0) := by
      rw [hw]
      have : bandn .i64 ((2 ^ r.2.toNat : Nat) : Int) ((N : Nat) : Int) = ((ndiff (2 ^ r.2.toNat) N : Nat) : Int) := bandn_nat (p62 hr) hN
      show decide (bandn .i64 ((2 ^ r.2.toNat : Nat) : Int) ((N : Nat) : Int) = 0) = decide (ndiff ((2 ^ r.2.toNat : Nat) : Int).toNat N = 0)
      rw [this, Int.toNat_natCast]
      exact decide_eq_decide.2 (by omega)
    simp only [Option.bind_eq_bind, Option.bind_some, e, List.filter_cons]
    rfl

/-! ### The rounds over bits -/
def mk2 (a b : Int) : Ar 2 Int := ⟨[a, b], rfl⟩
def ors (us : List TWay) (N : Nat) : Nat := us.foldl (fun N w => N ||| w.2.2.toNat) N
theorem ors_bit : ∀ (us : List TWay) (N j : Nat), (ors us N).testBit j = (N.testBit j || us.any fun w => w.2.2.toNat.testBit j)
  | [], N, j => by simp [ors]
  | w :: us, N, j => by
    show (ors us (N ||| w.2.2.toNat)).testBit j = _
    rw [ors_bit us, Nat.testBit_or, List.any_cons, Bool.or_assoc]
theorem ors_lt : ∀ (us : List TWay) (N : Nat), (∀ w ∈ us, IsWay w) → N < 2 ^ 30 → ors us N < 2 ^ 30
  | [], N, _, h => h
  | w :: us, N, h, hN => by
    obtain ⟨b, i, r, hw, hr, _⟩ := (h w List.mem_cons_self).ex
    refine ors_lt us (N ||| w.2.2.toNat) (fun q hq => h q (List.mem_cons_of_mem _ hq)) (Nat.or_lt_two_pow hN ?_)
    rw [hw]
    show ((2 ^ r.2.toNat : Nat) : Int).toNat < 2 ^ 30
    rw [Int.toNat_natCast]
    exact Nat.pow_lt_pow_right (by decide) (by have := hr.2.2; omega)
theorem ors_le : ∀ (us : List TWay) (N : Nat), N ≤ ors us N
  | [], N => Nat.le_refl _
  | w :: us, N => Nat.le_trans Nat.left_le_or (ors_le us _)
theorem holds2 {F : Nat} : ∀ {us : List TWay} {N : Nat} {c : Int}, (∀ w ∈ us, IsWay w) → B62 N → 0 ≤ c → c + us.length ≤ 4611686018427387904 → right_treaty_holds_l2 F us (mk2 N c) = some (mk2 (ors us N : Nat) (c + us.length))
  | [], N, c, _, _, _, _ => by simp [right_treaty_holds_l2, ors]
  | w :: us, N, c, h, hN, h0, hc => by
    obtain ⟨b, i, r, hw, hr, _⟩ := (h w List.mem_cons_self).ex
    rw [List.length_cons] at hc
    have e0 : w.2.2 = ((w.2.2.toNat : Nat) : Int) := by rw [hw]; rfl
    have e1 : B62 w.2.2.toNat := by rw [hw]; exact p62 hr
    have e2 : bor .i64 ((N : Nat) : Int) w.2.2 = ((N ||| w.2.2.toNat : Nat) : Int) := by rw [e0, bor_nat hN e1]; rfl
    have e3 : w64 (c + 1) = c + 1 := w64_in (by omega)
    have := holds2 (F := F) (us := us) (N := N ||| w.2.2.toNat) (c := c + 1) (fun q hq => h q (List.mem_cons_of_mem _ hq)) (or62 hN e1) (by omega) (by omega)
    unfold right_treaty_holds_l2
    show right_treaty_holds_l2 F us (mk2 (bor .i64 N w.2.2) (w64 (c + 1))) = _
    rw [e2, e3, this, List.length_cons]
    show some (mk2 (ors us (N ||| w.2.2.toNat) : Nat) _) = some (mk2 (ors us (N ||| w.2.2.toNat) : Nat) _)
    congr 2
    omega
structure Bt (s : TBook) (f : List Int) (N : Nat) : Prop where
  lt : N < 2 ^ 30
  base : ∀ x ∈ s.2.1, N.testBit x.toNat = true
  hd : ∀ i : Nat, N.testBit i = true → Hd s f i
theorem way_or {s : TBook} {w : TWay} (hw : w ∈ ways s) : (∃ i r, s.2.2.1[i]? = some r ∧ w = wy false i r) ∨ ∃ i r, s.2.2.2.1[i]? = some r ∧ w = wy true i r := by
  rcases List.mem_append.1 hw with h | h
  · exact .inl (wys_mem.1 h)
  · exact .inr (wys_mem.1 h)
theorem wy_bit (b : Bool) (i : Nat) (r : TRule) (j : Nat) : (wy b i r).2.2.toNat.testBit j = decide (r.2.toNat = j) := by
  show ((2 ^ r.2.toNat : Nat) : Int).toNat.testBit j = _
  rw [Int.toNat_natCast, tb_pow]
theorem need_iff {r : TRule} (hr : RuleOk r) {N : Nat} {b : Bool} {i : Nat} : decide (ndiff (wy b i r).2.1.toNat N = 0) = true ↔ ∀ n ∈ r.1, N.testBit n.toNat = true := by
  show decide (ndiff ((bitsI r.1 : Nat) : Int).toNat N = 0) = true ↔ _
  rw [Int.toNat_natCast, decide_eq_true_eq, sub_iff]
  constructor
  · intro h n hn
    have h1 := hr.1 n hn
    refine h _ ?_
    rw [bitsI_bit hr.1 h1.1]
    simpa using hn
  · intro h i hi
    rw [bitsI_bit' hr.1, decide_eq_true_eq] at hi
    simpa using h _ hi
theorem give_iff {r : TRule} {N : Nat} {b : Bool} {i : Nat} : decide (ndiff (wy b i r).2.2.toNat N = 0) = true ↔ N.testBit r.2.toNat = true := by
  rw [decide_eq_true_eq, sub_iff]
  constructor
  · intro h
    exact h _ (by rw [wy_bit]; simp)
  · intro h j hj
    rw [wy_bit, decide_eq_true_eq] at hj
    rwa [← hj]
theorem Bt.may {s : TBook} {f : List Int} (hs : Sound s) {N : Nat} (h : Bt s f N) {w : TWay} (hw : w ∈ ways s) (hm : mayw f N w = true) {j : Nat} (hj : w.2.2.toNat.testBit j = true) : Hd s f j := by
  unfold mayw at hm
  rw [Bool.and_eq_true] at hm
  rcases way_or hw with ⟨i, r, hr, rfl⟩ | ⟨i, r, hr, rfl⟩
  · have hq := hs.rule r (List.mem_of_getElem? hr)
    have hok := hs.rok hq
    rw [wy_bit, decide_eq_true_eq] at hj
    have e : (j : Int) = r.2 := by omega
    rw [e]
    refine .rule (List.mem_of_getElem? hr) fun n hn => ?_
    have := h.hd _ ((need_iff hok).1 hm.2 n hn)
    rwa [show ((n.toNat : Nat) : Int) = n by have := hok.1 n hn; omega] at this
  · have hq := hs.give r (List.mem_of_getElem? hr)
    have hok := hs.rok hq
    rw [wy_bit, decide_eq_true_eq] at hj
    have e : (j : Int) = r.2 := by omega
    rw [e]
    refine .give (i := i) (of_decide_eq_true hm.1) hr fun n hn => ?_
    have := h.hd _ ((need_iff hok).1 hm.2 n hn)
    rwa [show ((n.toNat : Nat) : Int) = n by have := hok.1 n hn; omega] at this
theorem Bt.next {s : TBook} {f : List Int} (hs : Sound s) {N : Nat} (h : Bt s f N) : Bt s f (ors ((ways s).filter (okw f N)) N) := by
  refine ⟨ors_lt _ _ (fun w hw => ways_is hs w (List.mem_filter.1 hw).1) h.lt, fun x hx => ?_, fun i hi => ?_⟩
  · rw [ors_bit, h.base x hx, Bool.true_or]
  · rw [ors_bit, Bool.or_eq_true, List.any_eq_true] at hi
    rcases hi with hi | ⟨w, hw, hj⟩
    · exact h.hd i hi
    · obtain ⟨h1, h2⟩ := List.mem_filter.1 hw
      unfold okw at h2
      rw [Bool.and_eq_true] at h2
      exact h.may hs h1 h2.1 hj
theorem Bt.fin {s : TBook} {f : List Int} (hs : Sound s) (hf : InG s f) {N : Nat} (h : Bt s f N) (he : (ways s).filter (okw f N) = []) {x : Int} (hx : Hd s f x) : 0 ≤ x ∧ N.testBit x.toNat = true := by
  rw [List.filter_eq_nil_iff] at he
  induction hx with
  | held hx => exact ⟨(rise_mem hs.held _ hx).1, h.base _ hx⟩
  | @rule r hr _ ih =>
    have hok := hs.rok (hs.rule r hr)
    obtain ⟨i, hi, hi'⟩ := List.getElem_of_mem hr
    have h1 := he (wy false i r) (List.mem_append.2 (.inl (wys_mem.2 ⟨i, r, by rw [List.getElem?_eq_getElem hi, hi'], rfl⟩)))
    refine ⟨hok.2.2.1, ?_⟩
    have h2 := (need_iff (b := false) (i := i) hok).2 fun n hn => (ih n hn).2
    have h3 : mayw f N (wy false i r) = true := by unfold mayw; rw [h2]; rfl
    unfold okw at h1
    rw [h3, Bool.true_and, Bool.not_eq_true, Bool.not_eq_false'] at h1
    exact give_iff.1 h1
  | @give i r hi hr _ ih =>
    have hok := hs.rok (hs.give r (List.mem_of_getElem? hr))
    have h1 := he (wy true i r) (List.mem_append.2 (.inr (wys_mem.2 ⟨i, r, hr, rfl⟩)))
    refine ⟨hok.2.2.1, ?_⟩
    have h2 := (need_iff (b := true) (i := i) hok).2 fun n hn => (ih n hn).2
    have h3 : mayw f N (wy true i r) = true := by unfold mayw; rw [h2]; simp [wy, hi]
    unfold okw at h1
    rw [h3, Bool.true_and, Bool.not_eq_true, Bool.not_eq_false'] at h1
    exact give_iff.1 h1
theorem ways_len {s : TBook} (hs : Sound s) : (ways s).length ≤ 52 := by
  unfold ways
  rw [List.length_append, wys_len, wys_len]
  have := hs.rules
  have := hs.given
  omega
theorem b30 {N : Nat} (h : N < 2 ^ 30) : B62 N := Nat.lt_trans h (by decide)
theorem holds1 {F : Nat} {s : TBook} {f : List Int} (hs : Sound s) (hf : InG s f) (hsm : Small f) : ∀ (m N : Nat) (c : Int), Bt s f N → 0 ≤ c → c ≤ 60 * (N : Int) → 2 ^ 30 - N < m →
    ∃ M : Nat, right_treaty_holds_l1 F (treaty s) (bitsI f : Nat) m (mk2 N c) = some (.inl (M : Int)) ∧ M < 2 ^ 30 ∧ ∀ i : Nat, M.testBit i = true ↔ Hd s f i
  | 0, N, c, h, _, _, hm => by omega
  | m + 1, N, c, h, h0, hc, hm => by
    have hlt := h.lt
    have hw := ways_len hs
    have hfl : ((ways s).filter (okw f N)).length ≤ (ways s).length := List.length_filter_le _ _
    have hu : right_treaty_usable (treaty s) (bitsI f : Nat) (N : Nat) = some ((ways s).filter (okw f N)) := usable_eq hsm (b30 hlt) (ways_is hs)
    have h2 := holds2 (F := F) (us := (ways s).filter (okw f N)) (N := N) (c := c) (fun w hw => ways_is hs w (List.mem_filter.1 hw).1) (b30 hlt) h0 (by omega)
    have e0 : ix (mk2 (N : Int) c).l 0 = some (N : Int) := rfl
    have e1 : right_treaty_usable (((treaty s).1.1, (treaty s).1.2.1, (treaty s).1.2.2.1, (treaty s).1.2.2.2.1, (treaty s).1.2.2.2.2), (treaty s).2.1, (treaty s).2.2.1, (treaty s).2.2.2) (bitsI f : Nat) (N : Nat) = some ((ways s).filter (okw f N)) := hu
    simp only [right_treaty_holds_l1]
    rw [e0]
    simp only [Option.bind_eq_bind, Option.bind_some]
    rw [e1]
    simp only [Option.bind_some]
    rw [h2]
    simp only [Option.bind_some]
    have hn := h.next hs
    by_cases he : (ways s).filter (okw f N) = []
    · rw [he]
      rw [if_pos (by simp [ors])]
      refine ⟨N, rfl, hlt, fun i => ⟨h.hd i, fun hi => ?_⟩⟩
      simpa using (h.fin hs hf he hi).2
    · have hpos : 0 < ((ways s).filter (okw f N)).length := List.length_pos_iff.2 he
      rw [if_neg (by
        rw [decide_eq_true_eq]
        intro e
        have := congrArg (fun z : Ar 2 Int => z.l.getD 1 0) e
        have : c + (((ways s).filter (okw f N)).length : Int) = c := this
        omega)]
      have hlt2 : N < ors ((ways s).filter (okw f N)) N := by
        refine Nat.lt_of_le_of_ne (ors_le _ _) fun e => ?_
        obtain ⟨w, hw⟩ := List.exists_mem_of_ne_nil _ he
        obtain ⟨_, h4⟩ := List.mem_filter.1 hw
        unfold okw at h4
        rw [Bool.and_eq_true, Bool.not_eq_true', decide_eq_false_iff_not, sub_iff] at h4
        refine h4.2 fun j hj => ?_
        rw [e, ors_bit, List.any_eq_true.2 ⟨w, hw, hj⟩, Bool.or_true]
      have hlt3 := hn.lt
      exact holds1 hs hf hsm m _ _ hn (by omega) (by omega) (by omega)
theorem holds_eq {F : Nat} {s : TBook} {f : List Int} (hF : 2000000000 < F) (hs : Sound s) (hf : InG s f) (hsm : Small f) :
    ∃ M : Nat, right_treaty_holds F (treaty s) (bitsI f : Nat) = some (M : Int) ∧ M < 2 ^ 30 ∧ ∀ i : Nat, M.testBit i = true ↔ Hd s f i := by
  have hb : Bt s f (bitsI s.2.1) := ⟨by
    refine Nat.lt_of_not_le fun h => ?_
    obtain ⟨i, hi, h1⟩ := Nat.exists_ge_and_testBit_of_ge_two_pow h
    rw [bitsI_bit' (rise_small hs.held (by have := hs.n2; omega)), decide_eq_true_eq] at h1
    have := rise_mem hs.held _ h1
    have := hs.n2
    omega, fun x hx => by
    rw [bitsI_bit (rise_small hs.held (by have := hs.n2; omega)) (rise_mem hs.held x hx).1]
    simpa using hx, fun i hi => by
    rw [bitsI_bit' (rise_small hs.held (by have := hs.n2; omega)), decide_eq_true_eq] at hi
    exact .held hi⟩
  obtain ⟨M, h1, h2⟩ := holds1 (F := F) hs hf hsm F _ 0 hb (by omega) (by omega) (by omega)
  refine ⟨M, ?_, h2⟩
  unfold right_treaty_holds
  show ((right_treaty_holds_l1 F (treaty s) (bitsI f : Nat) F (mk2 (bitsI s.2.1 : Nat) 0)) >>= fun o => _) = _
  rw [h1]
  rfl
theorem broken_eq {F : Nat} {s : TBook} {f : List Int} (hF : 2000000000 < F) (hs : Sound s) (hf : InG s f) (hsm : Small f) : right_treaty_broken F (treaty s) (bitsI f : Nat) = some (tb s f) := by
  obtain ⟨M, h1, h2, h3⟩ := holds_eq hF hs hf hsm
  unfold right_treaty_broken
  show ((right_treaty_holds F (treaty s) (bitsI f : Nat)) >>= fun x3 => (right_first__int F (s.2.2.2.2.map fun t => ((bitsI t : Nat) : Int)) (fun y => right_treaty_broken_1 y x3)) >>= fun x4 => some x4) = _
  rw [h1]
  simp only [Option.bind_eq_bind, Option.bind_some]
  simp only [right_treaty_broken_1]
  rw [firstI (p := fun y => decide (bandn .i64 y (M : Int) = 0)) (by omega) (by show _ ≤ _; rw [List.length_map]; exact hs.sm.2.2) (fun _ _ => rfl)]
  simp only [Option.bind_some]
  have e : ∀ t ∈ s.2.2.2.2, decide (bandn .i64 ((bitsI t : Nat) : Int) (M : Int) = 0) = t.all (hd s f) := fun t ht => by
    have hr := hs.taboo t ht
    have hsml : Small t := rise_small hr (by have := hs.n2; omega)
    have e1 : bandn .i64 ((bitsI t : Nat) : Int) ((M : Nat) : Int) = ((ndiff (bitsI t) M : Nat) : Int) := bandn_nat (bitsI62 hsml) (b30 h2)
    rw [e1, Bool.eq_iff_iff, decide_eq_true_eq, show (((ndiff (bitsI t) M : Nat) : Int) = 0) = (ndiff (bitsI t) M = 0) by apply propext; omega, sub_iff, List.all_eq_true]
    constructor
    · intro h x hx
      have h0 := hsml x hx
      rw [hd_iff, show x = ((x.toNat : Nat) : Int) by omega, ← h3]
      refine h _ ?_
      rw [bitsI_bit hsml h0.1]
      simpa using hx
    · intro h i hi
      rw [bitsI_bit' hsml, decide_eq_true_eq] at hi
      exact (h3 i).2 (hd_iff.1 (h _ hi))
  unfold tb fst
  rw [List.any_map, List.findIdx_map]
  have e2 : ∀ l : List (List Int), (∀ t ∈ l, decide (bandn .i64 ((bitsI t : Nat) : Int) (M : Int) = 0) = t.all (hd s f)) → l.any ((fun y => decide (bandn .i64 y (M : Int) = 0)) ∘ fun t => ((bitsI t : Nat) : Int)) = l.any (fun t => t.all (hd s f)) ∧
      l.findIdx ((fun y => decide (bandn .i64 y (M : Int) = 0)) ∘ fun t => ((bitsI t : Nat) : Int)) = l.findIdx (fun t => t.all (hd s f)) := fun l => by
    induction l with
    | nil => intro _; exact ⟨rfl, rfl⟩
    | cons a l ih =>
      intro h
      obtain ⟨i1, i2⟩ := ih fun t ht => h t (List.mem_cons_of_mem _ ht)
      have h1 := h a List.mem_cons_self
      rw [List.any_cons, List.any_cons, List.findIdx_cons, List.findIdx_cons, i1, i2]
      simp only [Function.comp_apply, h1, and_self]
  rw [(e2 _ e).1, (e2 _ e).2]
theorem safe_eq {F : Nat} {s : TBook} {f : List Int} (hF : 2000000000 < F) (hs : Sound s) (hf : InG s f) (hsm : Small f) : right_treaty_safe F (treaty s) (bitsI f : Nat) = some (decide (tb s f < 0)) := by
  unfold right_treaty_safe
  show ((right_treaty_broken F (treaty s) (bitsI f : Nat)) >>= fun x3 => some (decide (x3 < 0))) = _
  rw [broken_eq hF hs hf hsm]
  rfl

/-! ### Opening a treaty -/
theorem newTreaty_eq {F : Nat} {s : TBook} (hF : 2000000000 < F) (h : Fit s) : right_newTreaty F s = some (if cb s = 0 then (⟨some (treaty s)⟩, 0) else (⟨none⟩, cb s)) := by
  unfold right_newTreaty
  show ((right_valid F s) >>= fun x2 => _) = _
  rw [valid_eq (by omega) h]
  simp only [Option.bind_eq_bind, Option.bind_some]
  unfold cb
  by_cases h0 : vd s = 0
  · have hs := Sound.of h0
    have hsm : ∀ {l : List Int}, rise l s.1 = true → Small l := fun hl => rise_small hl (by have := hs.n2; omega)
    rw [if_neg (by simp [h0]), together_eq (by omega) h.held (hsm hs.held), if_pos h0]
    simp only [Option.bind_some]
    have h1 := nt1 (F := F) (s := s) (by omega) hs.rules (fun r hr => hs.rok (hs.rule r hr)) (h := ((bitsI s.2.1 : Nat) : Int)) F 0 [] (by omega) (by have := hs.rules; omega) (by simp)
    have h2 := nt2 (F := F) (s := s) (by omega) hs.given (fun r hr => hs.rok (hs.give r hr)) (h := ((bitsI s.2.1 : Nat) : Int)) F 0 (wys false s.2.2.1) (by omega) (by have := hs.given; omega) (by rw [wys_len]; have := hs.rules; omega)
    have h3 := nt3 (F := F) (s := s) (by omega) hs.taboos (fun t ht => ⟨hsm (hs.taboo t ht), hs.smr (hs.taboo t ht)⟩) (h := ((bitsI s.2.1 : Nat) : Int)) (z2 := (s, ((bitsI s.2.1 : Nat) : Int), ways s, [])) F 0 [] (by omega) (by have := hs.taboos; omega) (by simp)
    simp only [Int.natCast_zero, List.nil_append, List.drop_zero] at h1 h2 h3
    rw [show (s.1, s.2.1, s.2.2.1, s.2.2.2.1, s.2.2.2.2) = s from rfl, h1]
    simp only [Option.bind_some]
    rw [show (s.1, s.2.1, s.2.2.1, s.2.2.2.1, s.2.2.2.2) = s from rfl, h2]
    simp only [Option.bind_some]
    rw [show wys false s.2.2.1 ++ wys true s.2.2.2.1 = ways s from rfl, show (s.1, s.2.1, s.2.2.1, s.2.2.2.1, s.2.2.2.2) = s from rfl]
    rw [h3]
    simp only [Option.bind_some]
    have h4 := safe_eq (F := F) (f := []) hF hs (fun x hx => by cases hx) (fun x hx => by cases hx)
    have e4 : right_treaty_safe F ((s.1, s.2.1, s.2.2.1, s.2.2.2.1, s.2.2.2.2), ((bitsI s.2.1 : Nat) : Int), ways s, s.2.2.2.2.map fun t => ((bitsI t : Nat) : Int)) 0 = some (decide (tb s [] < 0)) := h4
    rw [e4]
    simp only [Option.bind_some]
    by_cases h5 : tb s [] < 0
    · simp [h5]; rfl
    · simp [h5]
  · rw [if_pos (by simp [h0]), if_neg h0, if_neg h0]
end Go.Proofs.Ytdimoehnkagghaa
