/-
  All lists of so many numbers, in their order; the most grants that do no harm. Condition: the book is sound; there are enough rounds.
-/
import Derived.Test.YtdimoehnkagghaaSpecN
namespace Go.Proofs.Ytdimoehnkagghaa
open Go Go.Md Go.RowKit

/-! ### The order of lists -/
def lexLt : List Int → List Int → Bool
  | x :: a, y :: b => if x = y then lexLt a b else decide (x < y)
  | _, _ => false
theorem lexLt_trans : ∀ {a b c : List Int}, a.length = b.length → b.length = c.length → lexLt a b = true → lexLt b c = true → lexLt a c = true
  | [], b, c, h1, h2, h, _ => by simp [lexLt] at h
  | x :: a, [], c, h1, _, _, _ => by simp at h1
  | x :: a, y :: b, [], _, h2, _, _ => by simp at h2
  | x :: a, y :: b, z :: c, h1, h2, h, k => by
    simp only [List.length_cons, Nat.add_right_cancel_iff] at h1 h2
    unfold lexLt at h k ⊢
    split at h
    · rename_i e1
      split at k
      · rename_i e2
        rw [if_pos (e1.trans e2)]
        exact lexLt_trans h1 h2 h k
      · rename_i e2
        rw [if_neg (by rw [e1]; exact e2), e1]
        exact k
    · rename_i e1
      rw [decide_eq_true_eq] at h
      split at k
      · rename_i e2
        rw [if_neg (by omega)]
        simpa using (by omega : x < z)
      · rw [decide_eq_true_eq] at k
        rw [if_neg (by omega)]
        simpa using (by omega : x < z)
theorem lexLt_irrefl : ∀ a : List Int, lexLt a a = false
  | [] => rfl
  | x :: a => by unfold lexLt; rw [if_pos rfl]; exact lexLt_irrefl a
theorem lexLt_total : ∀ {a b : List Int}, a.length = b.length → lexLt a b = false → lexLt b a = false → a = b
  | [], [], _, _, _ => rfl
  | [], y :: b, h, _, _ => by simp at h
  | x :: a, [], h, _, _ => by simp at h
  | x :: a, y :: b, h, h1, h2 => by
    simp only [List.length_cons, Nat.add_right_cancel_iff] at h
    unfold lexLt at h1 h2
    by_cases e : x = y
    · subst e
      rw [if_pos rfl] at h1 h2
      rw [lexLt_total h h1 h2]
    · rw [if_neg e, decide_eq_false_iff_not] at h1
      rw [if_neg (Ne.symm e), decide_eq_false_iff_not] at h2
      omega
abbrev Btr (a b : List Int) : Prop := b.length < a.length ∨ (a.length = b.length ∧ lexLt a b = true)
theorem Btr.trans {a b c : List Int} (h : Btr a b) (k : Btr b c) : Btr a c := by
  rcases h with h | ⟨h, h'⟩ <;> rcases k with k | ⟨k, k'⟩
  · exact .inl (by omega)
  · exact .inl (by omega)
  · exact .inl (by omega)
  · exact .inr ⟨by omega, lexLt_trans h k h' k'⟩
theorem btr_total {a b : List Int} (h : ¬ Btr a b) (k : ¬ Btr b a) : a = b := by
  rw [not_or, not_and, Bool.not_eq_true] at h k
  have e : a.length = b.length := by omega
  exact lexLt_total e (h.2 e) (k.2 e.symm)

/-! ### Rising lists by their bits -/
theorem riseG_ext {n : Int} : ∀ {a b : List Int} {p q : Int}, riseG n p a = true → riseG n q b = true → (∀ x, x ∈ a ↔ x ∈ b) → a = b
  | [], [], _, _, _, _, _ => rfl
  | [], y :: b, _, _, _, _, h => by have := (h y).2 List.mem_cons_self; cases this
  | x :: a, [], _, _, _, _, h => by have := (h x).1 List.mem_cons_self; cases this
  | x :: a, y :: b, p, q, ha, hb, h => by
    rw [riseG_cons, Bool.and_eq_true] at ha hb
    have e : x = y := by
      have h1 := (h x).1 List.mem_cons_self
      have h2 := (h y).2 List.mem_cons_self
      rcases List.mem_cons.1 h1 with h1 | h1
      · exact h1
      · rcases List.mem_cons.1 h2 with h2 | h2
        · exact h2.symm
        · have := (riseG_mem hb.2 x h1).1
          have := (riseG_mem ha.2 y h2).1
          omega
    subst e
    congr 1
    refine riseG_ext ha.2 hb.2 fun z => ?_
    constructor
    · intro hz
      have := (riseG_mem ha.2 z hz).1
      rcases List.mem_cons.1 ((h z).1 (List.mem_cons_of_mem _ hz)) with e | e
      · omega
      · exact e
    · intro hz
      have := (riseG_mem hb.2 z hz).1
      rcases List.mem_cons.1 ((h z).2 (List.mem_cons_of_mem _ hz)) with e | e
      · omega
      · exact e
theorem lst_bits {l : List Int} {n : Int} (h : rise l n = true) (hn : n ≤ 62) : lst (bitsI l) 62 = l := by
  have hs := rise_small h hn
  refine riseG_ext (n := 62) (rise_lst _ _ (by decide)) (riseG_mono hn h) fun x => ?_
  rw [lst_mem]
  constructor
  · rintro ⟨i, rfl, _, hi⟩
    rwa [bitsI_bit' hs, decide_eq_true_eq] at hi
  · intro hx
    have := hs x hx
    exact ⟨x.toNat, by omega, by omega, by rw [bitsI_bit hs this.1]; simpa using hx⟩
theorem bits_lt {l : List Int} {n : Nat} (h : rise l n = true) (hn : n ≤ 62) : bitsI l < 2 ^ n := by
  refine Nat.lt_of_not_le fun h1 => ?_
  obtain ⟨i, hi, h2⟩ := Nat.exists_ge_and_testBit_of_ge_two_pow h1
  rw [bitsI_bit' (rise_small h (by omega)), decide_eq_true_eq] at h2
  have := rise_mem h _ h2
  omega
theorem lst_n {N n : Nat} (h : N < 2 ^ n) (hn : n ≤ 62) : lst N 62 = lst N n := by
  have := lst_more (M := N) (a := n) (fun j hj => Nat.testBit_lt_two_pow (Nat.lt_of_lt_of_le h (Nat.pow_le_pow_right (by decide) hj))) (62 - n)
  rwa [show n + (62 - n) = 62 by omega] at this

/-! ### All lists of so many numbers -/
def comb (N : Nat) : Nat → Nat → List (List Int)
  | 0, _ => [[]]
  | left + 1, at_ => (List.range' at_ (N - left - at_)).flatMap fun n => (comb N left (n + 1)).map fun l => (n : Int) :: l
theorem riseG_room {N : Int} : ∀ {l : List Int} {p : Int}, p < N → riseG N p l = true → p + l.length < N
  | [], p, h, _ => by simpa using h
  | a :: l, p, h, k => by
    rw [riseG_cons, Bool.and_eq_true, Bool.not_eq_true', Bool.or_eq_false_iff, decide_eq_false_iff_not, decide_eq_false_iff_not] at k
    have := riseG_room (l := l) (p := a) (by omega) k.2
    rw [List.length_cons]
    omega
theorem comb_mem {N : Nat} : ∀ {left at_ : Nat} {l : List Int}, l ∈ comb N left at_ ↔ l.length = left ∧ riseG N ((at_ : Int) - 1) l = true
  | 0, at_, l => by
    show l ∈ [[]] ↔ _
    rw [List.mem_singleton]
    constructor
    · rintro rfl; exact ⟨rfl, rfl⟩
    · intro h; exact List.length_eq_zero_iff.1 h.1
  | left + 1, at_, l => by
    unfold comb
    rw [List.mem_flatMap]
    constructor
    · rintro ⟨n, hn, h⟩
      obtain ⟨l', hl', rfl⟩ := List.mem_map.1 h
      obtain ⟨h1, h2⟩ := comb_mem.1 hl'
      rw [List.mem_range'_1] at hn
      have e : ((n + 1 : Nat) : Int) - 1 = n := by omega
      rw [e] at h2
      refine ⟨by simp [h1], ?_⟩
      rw [riseG_cons, h2, Bool.and_true, Bool.not_eq_true', Bool.or_eq_false_iff, decide_eq_false_iff_not, decide_eq_false_iff_not]
      omega
    · rintro ⟨h1, h2⟩
      cases l with
      | nil => simp at h1
      | cons a l =>
        rw [riseG_cons, Bool.and_eq_true, Bool.not_eq_true', Bool.or_eq_false_iff, decide_eq_false_iff_not, decide_eq_false_iff_not] at h2
        have h3 := riseG_room (p := a) (by omega) h2.2
        rw [List.length_cons, Nat.add_right_cancel_iff] at h1
        refine ⟨a.toNat, List.mem_range'_1.2 ⟨by omega, by omega⟩, List.mem_map.2 ⟨l, comb_mem.2 ⟨h1, ?_⟩, by rw [show ((a.toNat : Nat) : Int) = a by omega]⟩⟩
        rw [show ((a.toNat + 1 : Nat) : Int) - 1 = a by omega]
        exact h2.2
theorem comb_sorted {N : Nat} : ∀ (left at_ : Nat), (comb N left at_).Pairwise fun a b => lexLt a b = true
  | 0, at_ => List.pairwise_singleton _ _
  | left + 1, at_ => by
    unfold comb
    rw [List.pairwise_flatMap]
    constructor
    · intro n _
      rw [List.pairwise_map]
      refine (comb_sorted left (n + 1)).imp fun {a b} h => ?_
      unfold lexLt
      rw [if_pos rfl]
      exact h
    · refine (List.pairwise_lt_range').imp fun {a b} h => ?_
      intro x hx y hy
      obtain ⟨x', _, rfl⟩ := List.mem_map.1 hx
      obtain ⟨y', _, rfl⟩ := List.mem_map.1 hy
      unfold lexLt
      rw [if_neg (by omega)]
      simpa using h
theorem bitsI_cons {n : Nat} {l : List Int} : bitsI ((n : Int) :: l) = 2 ^ n ||| bitsI l := by
  apply Nat.eq_of_testBit_eq
  intro i
  unfold bitsI
  rw [Nat.testBit_or, bitsN_bit, bitsN_bit, tb_pow, Bool.eq_iff_iff]
  simp only [List.map_cons, Int.toNat_natCast, List.mem_cons, Bool.or_eq_true, decide_eq_true_eq]
  exact ⟨fun h => h.imp Eq.symm id, fun h => h.imp Eq.symm id⟩
theorem flat_congr {α β : Type} {f g : α → List β} : ∀ {l : List α}, (∀ a ∈ l, f a = g a) → l.flatMap f = l.flatMap g
  | [], _ => rfl
  | a :: l, h => by rw [List.flatMap_cons, List.flatMap_cons, h a List.mem_cons_self, flat_congr fun b hb => h b (List.mem_cons_of_mem _ hb)]
theorem from_comb {N : Nat} (hN : N ≤ 61) : ∀ (left at_ b : Nat), B62 b → fromL N left at_ (b : Int) = (comb N left at_).map fun l => ((b ||| bitsI l : Nat) : Int)
  | 0, at_, b, _ => by
    show [(b : Int)] = [((b ||| bitsI [] : Nat) : Int)]
    have : bitsI [] = 0 := rfl
    rw [this, Nat.or_zero]
  | left + 1, at_, b, hb => by
    unfold fromL comb
    rw [List.map_flatMap]
    refine flat_congr fun n hn => ?_
    rw [List.mem_range'_1] at hn
    have h1 := pow62 (n := n) (by omega)
    rw [sh1_eq (by omega), bor_nat hb h1, from_comb hN left (n + 1) _ (or62 hb h1), List.map_map]
    congr 1
    funext l
    simp only [Function.comp_apply]
    rw [bitsI_cons, Nat.or_assoc]
theorem lists_eq {N k : Nat} (hN : N ≤ 61) (hk : k ≤ 61) : right_lists (N : Int) (k : Int) = some ((comb N k 0).map fun l => ((bitsI l : Nat) : Int)) := by
  unfold right_lists
  rw [if_pos (by omega), Int.toNat_natCast, Int.toNat_natCast]
  have := from_comb hN k 0 0 (by decide)
  simp only [Nat.zero_or] at this
  rw [← this]
  rfl
theorem comb_rise {N k : Nat} {l : List Int} : l ∈ comb N k 0 ↔ l.length = k ∧ rise l N = true := comb_mem

/-! ### The most grants -/
noncomputable def safe (s : TBook) (l : List Int) : Bool := decide (tb s l < 0)
noncomputable def fewR (s : TBook) (n : Nat) : Nat → List Int
  | 0 => []
  | k + 1 => match (comb n (k + 1) 0).find? (safe s) with
    | some l => l
    | none => fewR s n k
/-- Of those that are safe and rising, none is better. -/
structure Top (s : TBook) (n : Nat) (b : List Int) : Prop where
  safe : tb s b < 0
  rise : rise b n = true
  top : ∀ l, Go.Proofs.Ytdimoehnkagghaa.rise l n = true → tb s l < 0 → ¬ Btr l b
theorem Top.uniq {s : TBook} {n : Nat} {a b : List Int} (h : Top s n a) (k : Top s n b) : a = b := btr_total (k.top a h.rise h.safe) (h.top b k.rise k.safe)
theorem fewR_len {s : TBook} {n : Nat} : ∀ k, (fewR s n k).length ≤ k
  | 0 => Nat.le_refl _
  | k + 1 => by
    unfold fewR
    split
    · rename_i l hl
      have := (comb_rise.1 (List.mem_of_find?_eq_some hl)).1
      omega
    · have := fewR_len (s := s) (n := n) k
      omega
theorem fewR_top {s : TBook} {n : Nat} (h0 : tb s [] < 0) : ∀ k, tb s (fewR s n k) < 0 ∧ rise (fewR s n k) n = true ∧ ∀ l, rise l n = true → tb s l < 0 → l.length ≤ k → ¬ Btr l (fewR s n k)
  | 0 => ⟨h0, rfl, fun l hl _ hk => by
    have : l = [] := List.length_eq_zero_iff.1 (by omega)
    subst this
    show ¬ Btr [] []
    unfold Btr
    simp [lexLt]⟩
  | k + 1 => by
    obtain ⟨i1, i2, i3⟩ := fewR_top (s := s) (n := n) h0 k
    unfold fewR
    split
    · rename_i l0 hl
      have hm := comb_rise.1 (List.mem_of_find?_eq_some hl)
      have hs := List.find?_some hl
      obtain ⟨_, us, vs, e, hno⟩ := List.find?_eq_some_iff_append.1 hl
      refine ⟨by simpa [safe] using hs, hm.2, fun l h1 h2 h3 => ?_⟩
      rintro (h4 | ⟨h4, h5⟩)
      · omega
      · have hin : l ∈ comb n (k + 1) 0 := comb_rise.2 ⟨by omega, h1⟩
        have hsort := comb_sorted (N := n) (k + 1) 0
        rw [e] at hin hsort
        rcases List.mem_append.1 hin with h6 | h6
        · have := hno l h6
          simp [safe, h2] at this
        · rcases List.mem_cons.1 h6 with rfl | h6
          · rw [lexLt_irrefl] at h5; cases h5
          · have h7 := (List.pairwise_cons.1 (List.pairwise_append.1 hsort).2.1).1 l h6
            have := lexLt_trans h4 h4.symm h5 h7
            rw [lexLt_irrefl] at this
            cases this
    · rename_i hl
      refine ⟨i1, i2, fun l h1 h2 h3 => ?_⟩
      by_cases hk : l.length ≤ k
      · exact i3 l h1 h2 hk
      · have hin : l ∈ comb n (k + 1) 0 := comb_rise.2 ⟨by omega, h1⟩
        have := List.find?_eq_none.1 hl l hin
        simp [safe, h2] at this
theorem fewR_Top {s : TBook} {n : Nat} (h0 : tb s [] < 0) : Top s n (fewR s n n) := by
  obtain ⟨h1, h2, h3⟩ := fewR_top (s := s) (n := n) h0 n
  exact ⟨h1, h2, fun l hl hs => h3 l hl hs (by have := rise_len hl; omega)⟩
section
variable {F : Nat} {s : TBook} {f : List Int}
theorem few2 (hF : 2000000000 < F) (hs : Sound s) {x2 : Ob TTreaty × Int} (hx : x2.1.v = some (treaty s)) : ∀ {L : List (List Int)}, (∀ l ∈ L, rise l s.2.2.2.1.length = true) →
    right_Fewest_l2 F x2 (L.map fun l => ((bitsI l : Nat) : Int)) = some (match L.find? (safe s) with | some l => .inl (l, 0) | none => .inr ())
  | [], _ => rfl
  | l :: L, hL => by
    have hgl := hs.given
    have hr := hL l List.mem_cons_self
    have hg := rise_in hr
    rw [List.map_cons]
    unfold right_Fewest_l2
    rw [hx]
    simp only [Option.bind_eq_bind, Option.bind_some]
    have e : right_treaty_safe F (((treaty s).1.1, (treaty s).1.2.1, (treaty s).1.2.2.1, (treaty s).1.2.2.2.1, (treaty s).1.2.2.2.2), (treaty s).2.1, (treaty s).2.2.1, (treaty s).2.2.2) (bitsI l : Nat) = some (safe s l) := safe_eq hF hs hg (inG_small hs hg)
    rw [e, List.find?_cons]
    simp only [Option.bind_some]
    cases safe s l with
    | true =>
      rw [if_pos rfl, numbers_eq (by omega) (bitsI62 (inG_small hs hg))]
      simp only [Option.bind_some]
      rw [lst_bits hr (by omega)]
    | false =>
      rw [if_neg (by simp)]
      exact few2 hF hs hx fun q hq => hL q (List.mem_cons_of_mem _ hq)
theorem few1 (hF : 2000000000 < F) (hs : Sound s) {x2 : Ob TTreaty × Int} (hx : x2.1.v = some (treaty s)) : ∀ m (k : Nat), k ≤ s.2.2.2.1.length → k < m → ∃ o, right_Fewest_l1 F s x2 m (k : Int) = some o ∧ (o = .inl (fewR s s.2.2.2.1.length k, 0) ∨ (o = .inr () ∧ fewR s s.2.2.2.1.length k = []))
  | 0, k, _, h => by omega
  | m + 1, 0, _, _ => ⟨.inr (), by simp only [right_Fewest_l1]; rw [if_neg (by simp)], .inr ⟨rfl, rfl⟩⟩
  | m + 1, k + 1, hk, h => by
    have hgl := hs.given
    have e1 : w64 (((k + 1 : Nat) : Int) - 1) = (k : Int) := by rw [w64_in (by omega)]; omega
    simp only [right_Fewest_l1]
    rw [if_pos (by simp only [decide_eq_true_eq]; omega), lists_eq (by omega) (by omega), e1]
    simp only [Option.bind_eq_bind, Option.bind_some]
    rw [few2 hF hs hx fun l hl => (comb_rise.1 hl).2]
    simp only [Option.bind_some]
    unfold fewR
    cases hf : (comb s.2.2.2.1.length (k + 1) 0).find? (safe s) with
    | some l => exact ⟨_, rfl, .inl rfl⟩
    | none => exact few1 hF hs hx m k (by omega) (by omega)
theorem few_eq (hF : 2000000000 < F) (h : Fit s) (h0 : cb s = 0) : right_Fewest F s = some (fewR s s.2.2.2.1.length s.2.2.2.1.length, 0) := by
  have hs := (cb_zero h0).1
  unfold right_Fewest
  show ((right_newTreaty F s) >>= fun x2 => _) = _
  rw [newTreaty_eq hF h, if_pos h0]
  simp only [Option.bind_eq_bind, Option.bind_some]
  rw [if_neg (by simp)]
  obtain ⟨o, h1, h2⟩ := few1 (F := F) hF hs (x2 := (⟨some (treaty s)⟩, 0)) rfl F s.2.2.2.1.length (by omega) (by have := hs.given; omega)
  rw [h1]
  rcases h2 with rfl | ⟨rfl, h2⟩
  · rfl
  · rw [h2]
    rfl
end
end Go.Proofs.Ytdimoehnkagghaa
