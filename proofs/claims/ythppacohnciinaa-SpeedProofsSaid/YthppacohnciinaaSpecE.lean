/-
  What the search for a circle returns, in plain words. Condition: there are enough rounds.
-/
import Derived.Test.YthppacohnciinaaSpecD
namespace Go.Proofs.Ythppacohnciinaa
open Go Go.Md Go.RowKit
open BF (Rl St Back Inv rel pass passes NEV)

/-! ### Lists that are reversed -/
def revI (l : List Int) (i : Nat) : List Int := (List.range l.length).map fun t => if t < i ∨ l.length - i ≤ t then l.getD (l.length - 1 - t) 0 else l.getD t 0
theorem revI_len {l : List Int} {i : Nat} : (revI l i).length = l.length := by simp [revI]
theorem revI_get {l : List Int} {i t : Nat} (h : t < l.length) : (revI l i)[t]? = some (if t < i ∨ l.length - i ≤ t then l.getD (l.length - 1 - t) 0 else l.getD t 0) := by
  simp [revI, List.getElem?_map, List.getElem?_range, h]
theorem revI_zero {l : List Int} : revI l 0 = l := by
  apply List.ext_getElem?
  intro t
  by_cases h : t < l.length
  · rw [revI_get h, if_neg (by omega), List.getElem?_eq_getElem h, List.getD_eq_getElem?_getD, List.getElem?_eq_getElem h]
    rfl
  · rw [List.getElem?_eq_none (by rw [revI_len]; omega), List.getElem?_eq_none (by omega)]
theorem revI_end {l : List Int} {i : Nat} (h : l.length ≤ 2 * i + 1) : revI l i = l.reverse := by
  apply List.ext_getElem?
  intro t
  by_cases ht : t < l.length
  · rw [revI_get ht, List.getElem?_reverse ht]
    have h1 : l.length - 1 - t < l.length := by omega
    rw [List.getElem?_eq_getElem h1]
    split
    · rw [List.getD_eq_getElem?_getD, List.getElem?_eq_getElem h1]; rfl
    · have : t = l.length - 1 - t := by omega
      rw [List.getD_eq_getElem?_getD]
      conv => lhs; rw [this]
      rw [List.getElem?_eq_getElem h1]
      rfl
  · rw [List.getElem?_eq_none (by rw [revI_len]; omega), List.getElem?_eq_none (by simp; omega)]
theorem revI_step {l : List Int} {i : Nat} (h : 2 * i + 1 < l.length) : rset (rset (revI l i) (i : Int) (l.getD (l.length - 1 - i) 0)) ((l.length : Int) - 1 - i) (l.getD i 0) = revI l (i + 1) := by
  have e : ((l.length : Int) - 1 - i).toNat = l.length - 1 - i := by omega
  unfold rset
  apply List.ext_getElem?
  intro t
  rw [e, List.getElem?_set, List.getElem?_set, Int.toNat_natCast]
  simp only [List.length_set, revI_len]
  by_cases ht : t < l.length
  · rw [revI_get ht, revI_get ht]
    by_cases h1 : l.length - 1 - i = t
    · subst h1
      rw [if_pos rfl, if_pos ht, if_pos (by omega)]
      congr 2
      omega
    · rw [if_neg h1]
      by_cases h2 : i = t
      · subst h2
        rw [if_pos rfl, if_pos (by omega), if_pos (by omega)]
      · rw [if_neg h2]
        congr 1
        have : (t < i ∨ l.length - i ≤ t) ↔ (t < i + 1 ∨ l.length - (i + 1) ≤ t) := by omega
        simp only [this]
  · rw [if_neg (by omega), if_neg (by omega), List.getElem?_eq_none (by rw [revI_len]; omega), List.getElem?_eq_none (by rw [revI_len]; omega)]
theorem reverse_l1 {l : List Int} (hl : l.length < 1000000) : ∀ (m i : Nat), l.length < m + i → 2 * i ≤ l.length + 1 → slices_Reverse_l1 m (revI l i) (i : Int) ((l.length : Int) - 1 - i) = some l.reverse
  | 0, i, h, h2 => by omega
  | m + 1, i, h, h2 => by
    unfold slices_Reverse_l1
    by_cases hi : 2 * i + 1 < l.length
    · rw [if_pos (by simp; omega)]
      have e1 : ix (revI l i) ((l.length : Int) - 1 - i) = some (l.getD (l.length - 1 - i) 0) := by
        have : ((l.length : Int) - 1 - i) = ((l.length - 1 - i : Nat) : Int) := by omega
        unfold ix
        rw [if_pos (by omega), this, Int.toNat_natCast, revI_get (by omega), if_neg (by omega)]
      have e2 : ix (revI l i) (i : Int) = some (l.getD i 0) := by
        unfold ix
        rw [if_pos (by omega), Int.toNat_natCast, revI_get (by omega), if_neg (by omega)]
      rw [e1, e2]
      simp only [Option.bind_eq_bind, Option.bind_some]
      rw [revI_step hi, w64_in (by omega), w64_in (by omega)]
      have := reverse_l1 hl m (i + 1) (by omega) (by omega)
      have e3 : ((l.length : Int) - 1 - (i : Int) - 1) = (l.length : Int) - 1 - ((i + 1 : Nat) : Int) := by omega
      rw [e3]
      exact this
    · rw [if_neg (by simp; omega), revI_end (by omega)]
theorem reverse_eq {F : Nat} {l : List Int} (hF : l.length < F) (hl : l.length < 1000000) : slices_Reverse F l = some l.reverse := by
  unfold slices_Reverse
  rw [w64_in (by omega)]
  have := reverse_l1 hl F 0 (by omega) (by omega)
  rw [revI_zero] at this
  simpa using this

theorem gA_fill {v t : Int} (t0 : 0 ≤ t) (t1 : t ≤ 20) : gA (Ar.fill 21 v : Ar 21 Int) t = v := by
  unfold gA ix
  rw [if_pos t0]
  show ((List.replicate 21 v)[t.toNat]?).getD 0 = v
  rw [List.getElem?_replicate, if_pos (by omega)]
  rfl

/-! ### The rounds -/
def nn (x : Int × List (Int × Int × Int)) : Nat := x.1.toNat + 1
def Pn (x : Int × List (Int × Int × Int)) (K : Nat) : St := passes (Rs x) K
theorem Pn_inv {x : Int × List (Int × Int × Int)} (h : csheet x = 0) (K : Nat) : Inv (fun _ => True) K (Rs x) [] (Pn x K) := Inv.passes (Rs_ne h) K

theorem circle_l1 {x : Int × List (Int × Int × Int)} (h : csheet x = 0) : ∀ (m k : Nat) (X : Ar 21 Int) (l : List (Int × Int)) (more : Bool), k ≤ nn x → nn x - k < m → Rep X l (Pn x k) → Bd (10000000 * k) (Pn x k) →
    (1 ≤ k → (more = false ↔ ∀ t, 0 ≤ t → t ≤ 20 → (Pn x k).f t = (Pn x (k - 1)).f t)) →
    ∃ X' l' more', speed_net_circle_l1 (whole x) (nn x : Int) m (k : Int) X l more = some (X', l', more') ∧ Rep X' l' (Pn x (nn x)) ∧ Bd (10000000 * (nn x : Int)) (Pn x (nn x)) ∧
      (more' = false ↔ ∀ t, 0 ≤ t → t ≤ 20 → (Pn x (nn x)).f t = (Pn x (nn x - 1)).f t)
  | 0, k, _, _, _, _, hm, _, _, _ => by omega
  | m + 1, k, X, l, more, hk, hm, hr, hb, hmo => by
    obtain ⟨_, _, h3, _⟩ := csheet_ok h
    unfold speed_net_circle_l1
    by_cases hlt : k < nn x
    · rw [if_pos (by simpa using hlt)]
      have hn : nn x ≤ 21 := by unfold nn; omega
      obtain ⟨X', l', m', e, h1, h2, h4⟩ := step_rep (K := k + 1) h hr hb (by omega) (by omega)
      rw [e]
      simp only [Option.bind_eq_bind, Option.bind_some]
      rw [w64_in (by omega)]
      have h2' : Bd (10000000 * ((k + 1 : Nat) : Int)) (Pn x (k + 1)) := by
        have : 10000000 * (k : Int) + 10000000 = 10000000 * ((k + 1 : Nat) : Int) := by omega
        rw [← this]
        exact h2
      exact circle_l1 h m (k + 1) X' l' m' (by omega) (by omega) h1 h2' (fun _ => h4)
    · have : k = nn x := by omega
      subst this
      rw [if_neg (by simp)]
      exact ⟨X, l, more, rfl, hr, hb, hmo (by unfold nn; omega)⟩

theorem circle_l2 {X Y : Ar 21 Int} : ∀ (m k : Nat), k ≤ 21 → 21 - k < m → (∃ t : Int, (k : Int) ≤ t ∧ t ≤ 20 ∧ gA X t ≠ gA Y t) → ∃ t, speed_net_circle_l2 X Y m (k : Int) = some t ∧ 0 ≤ t ∧ t ≤ 20 ∧ gA X t ≠ gA Y t
  | 0, k, _, hm, _ => by omega
  | m + 1, k, hk, hm, ⟨t, t0, t1, ht⟩ => by
    unfold speed_net_circle_l2
    rw [if_pos (by simp; omega), ixA (X := X) (by omega) (by omega), ixA (X := Y) (by omega) (by omega)]
    simp only [Option.bind_eq_bind, Option.bind_some]
    by_cases e : gA X (k : Int) = gA Y (k : Int)
    · rw [if_neg (by simp [e]), w64_in (by omega)]
      have : t ≠ k := fun e2 => ht (by rw [e2]; exact e)
      exact circle_l2 m (k + 1) (by omega) (by omega) ⟨t, by omega, t1, ht⟩
    · rw [if_pos (by simp [e])]
      exact ⟨_, rfl, by omega, by omega, e⟩

theorem from_eq {x : Int × List (Int × Int × Int)} (h : csheet x = 0) {X : Ar 21 Int} {l : List (Int × Int)} {s : St} {K : Nat} {N : Int → Prop} (hI : Inv N K (Rs x) [] s) (hr : Rep X l s) {u : Int} {p : Rl} (hp : s.b u = some p) :
    speed_from (whole x) l u = some (p.1, p.2.1) ∧ p ∈ Rs x ∧ p.2.2.1 = u := by
  obtain ⟨h1, h2, _⟩ := hI.i2 u p hp
  have h1' : p ∈ Rs x := by simpa using h1
  have hok := Rs_ok h p h1'
  obtain ⟨_, _, h3, _⟩ := csheet_ok h
  refine ⟨?_, h1', h2⟩
  unfold speed_from
  rw [if_pos (key_ok (by have := hok.2.2.1; omega) (by have := hok.2.2.2.1; omega)), hr.b u p hp, (en_mem h1').2.1]
  rfl

theorem circle_l3 {x : Int × List (Int × Int × Int)} (h : csheet x = 0) {X : Ar 21 Int} {l : List (Int × Int)} {s : St} {K : Nat} {N : Int → Prop} (hI : Inv N K (Rs x) [] s) (hr : Rep X l s) : ∀ (m : Nat) (M : List Int) (seen : Ar 21 Int) (u : Int), M.Nodup → (∀ w ∈ M, 0 ≤ w ∧ w ≤ x.1) → 0 ≤ u → u ≤ x.1 →
    (∀ w ∈ M, ∃ c n, Back s.b w u c n ∧ n ≤ M.length) → x.1 + 1 ≤ s.r u + M.length → x.1 + 1 - M.length < m → (∀ t, 0 ≤ t → t ≤ 20 → gA seen t = if t ∈ M then 1 else 0) →
    ∃ e c n, speed_net_circle_l3 (whole x) l m seen u = some e ∧ Back s.b e e c n ∧ (n : Int) ≤ x.1 + 1 ∧ 0 ≤ e ∧ e ≤ x.1
  | 0, M, seen, u, hn, hM, u0, u1, _, _, hd, _ => by
    have := nodup_len (x.1 + 1).toNat M hn (fun w hw => by have := hM w hw; omega)
    omega
  | m + 1, M, seen, u, hn, hM, u0, u1, hB, hst, hd, hs => by
    obtain ⟨_, _, h3, _⟩ := csheet_ok h
    unfold speed_net_circle_l3
    rw [ixA (X := seen) u0 (by omega), hs u u0 (by omega)]
    simp only [Option.bind_eq_bind, Option.bind_some]
    by_cases hu : u ∈ M
    · rw [if_pos hu, if_neg (by decide)]
      obtain ⟨c, n, h1, h2⟩ := hB u hu
      have hl := nodup_len (x.1 + 1).toNat M hn (fun w hw => by have := hM w hw; omega)
      exact ⟨u, c, n, rfl, h1, by omega, u0, u1⟩
    · rw [if_neg hu, if_pos (by decide)]
      have hn' : (u :: M).Nodup := by simp [hn, hu]
      have hM' : ∀ w ∈ u :: M, 0 ≤ w ∧ w ≤ x.1 := fun w hw => by
        rcases List.mem_cons.1 hw with rfl | hw
        · exact ⟨u0, u1⟩
        · exact hM w hw
      have hl := nodup_len (x.1 + 1).toNat (u :: M) hn' (fun w hw => by have := hM' w hw; omega)
      simp only [List.length_cons] at hl
      have hb : s.b u ≠ none := fun e => by have := (hI.i1 u).1 e; omega
      obtain ⟨p, hp⟩ := Option.ne_none_iff_exists'.1 hb
      obtain ⟨e1, e2, e3⟩ := from_eq h hI hr hp
      have hok := Rs_ok h p e2
      have h4 := hI.i3 u p hp
      rw [e1]
      simp only [Option.bind_some]
      refine circle_l3 h hI hr m (u :: M) (aset seen u 1) p.2.1 hn' hM' hok.1 hok.2.1 (fun w hw => ?_) (by simp only [List.length_cons]; omega) (by simp only [List.length_cons]; omega) (fun t t0 t1 => ?_)
      · rcases List.mem_cons.1 hw with rfl | hw
        · exact ⟨_, 1, .one hp, by simp⟩
        · obtain ⟨c, n, h5, h6⟩ := hB w hw
          exact ⟨_, _, h5.snoc hp, by simp only [List.length_cons]; omega⟩
      · rw [gA_set u0 (by omega) t0 t1, hs t t0 t1]
        by_cases e : t = u
        · subst e; simp
        · simp [e]

/-! ### Rules that follow each other -/
def Lk : List Rl → Prop
  | [] => True
  | [_] => True
  | p :: q :: l => p.2.2.1 = q.2.1 ∧ Lk (q :: l)
def sumM (l : List Rl) : Int := (l.map fun p => p.2.2.2).sum
/-- A circle of rules: from the turn e to it. -/
structure Circ (x : Int × List (Int × Int × Int)) (e : Int) (a : List Rl) : Prop where
  lk : Lk a
  mem : ∀ p ∈ a, p ∈ Rs x
  hd : a.head?.map (fun p => p.2.1) = some e
  tl : a.getLast?.map (fun p => p.2.2.1) = some e
  neg : sumM a < 0
  len : a.length ≤ 21

theorem circle_l4 {x : Int × List (Int × Int × Int)} (h : csheet x = 0) {X : Ar 21 Int} {l : List (Int × Int)} {s : St} {K : Nat} {N : Int → Prop} (hI : Inv N K (Rs x) [] s) (hr : Rep X l s) {e : Int} : ∀ (m k : Nat) (u : Int) (a : List Rl) (c : Int),
    Back s.b u e c k → k ≤ m → a.length + k ≤ 21 →
    ((a = [] ∧ u = e) ∨ (Back s.b e u (sumM a) a.length ∧ Lk a ∧ (∀ p ∈ a, p ∈ Rs x) ∧ a.head?.map (fun p => p.2.1) = some u ∧ a.getLast?.map (fun p => p.2.2.1) = some e)) →
    ∃ a', speed_net_circle_l4 (whole x) l e m u ((a.map (·.1)).reverse) = some ((a'.map (·.1)).reverse) ∧ Circ x e a'
  | 0, k, u, a, c, hb, hk, _, _ => by have := hb.pos; omega
  | m + 1, k, u, a, c, hb, hk, hlen, ha => by
    obtain ⟨p, hp⟩ := hb.start
    obtain ⟨e1, e2, e3⟩ := from_eq h hI hr hp
    have acc : Back s.b e p.2.1 (sumM (p :: a)) (p :: a).length ∧ Lk (p :: a) ∧ (∀ q ∈ p :: a, q ∈ Rs x) ∧ (p :: a).head?.map (fun p => p.2.1) = some p.2.1 ∧ (p :: a).getLast?.map (fun p => p.2.2.1) = some e := by
      rcases ha with ⟨rfl, rfl⟩ | ⟨b1, b2, b3, b4, b5⟩
      · refine ⟨?_, trivial, by simpa using e2, rfl, by simpa using e3⟩
        have := Back.one hp
        simpa [sumM] using this
      · cases a with
        | nil => simp at b4
        | cons q a =>
          refine ⟨?_, ⟨?_, b2⟩, ?_, rfl, ?_⟩
          · have := b1.snoc hp
            have e : sumM (p :: q :: a) = sumM (q :: a) + p.2.2.2 := by simp only [sumM, List.map_cons, List.sum_cons]; omega
            rw [e]
            exact this
          · simp only [List.head?_cons, Option.map_some, Option.some.injEq] at b4
            rw [e3, b4]
          · intro r hr'
            rcases List.mem_cons.1 hr' with rfl | hr'
            · exact e2
            · exact b3 r hr'
          · rw [List.getLast?_cons_cons]; exact b5
    have hk1 := hb.pos
    unfold speed_net_circle_l4
    rw [e1]
    simp only [Option.bind_eq_bind, Option.bind_some]
    rw [app_some (by simp only [List.length_reverse, List.length_map, List.length_cons, List.length_nil]; omega)]
    simp only [Option.bind_some]
    have eo : (a.map (·.1)).reverse ++ [p.1] = ((p :: a).map (·.1)).reverse := by simp
    rw [eo]
    by_cases he : p.2.1 = e
    · rw [if_pos (by simpa using he)]
      refine ⟨p :: a, rfl, acc.2.1, acc.2.2.1, by rw [acc.2.2.2.1, he], acc.2.2.2.2, ?_, by simp only [List.length_cons]; omega⟩
      have := acc.1
      rw [he] at this
      exact hI.i5 _ _ _ this
    · rw [if_neg (by simpa using he)]
      cases hb with
      | one h' =>
        rw [hp] at h'
        cases h'
        exact (he rfl).elim
      | more h' k' =>
        rw [hp] at h'
        cases h'
        exact circle_l4 h hI hr m _ p.2.1 (p :: a) _ k' (by omega) (by simp only [List.length_cons]; omega) (.inr acc)

/-- What the search for a circle returns. -/
theorem circle_eq {x : Int × List (Int × Int × Int)} (h : csheet x = 0) {F : Nat} (hF : 200 < F) :
    (speed_net_circle F ((x.1, x.2), whole x) = some [] ∧ Pot x) ∨ (¬ Pot x ∧ ∃ e a, speed_net_circle F ((x.1, x.2), whole x) = some (a.map (·.1)) ∧ Circ x e a) := by
  obtain ⟨_, h2, h3, _⟩ := csheet_ok h
  have hn : ((nn x : Nat) : Int) = x.1 + 1 := by unfold nn; omega
  have h0 : Rep (Ar.fill 21 0 : Ar 21 Int) [] (Pn x 0) := by
    exact ⟨fun t t0 t1 => gA_fill t0 t1, fun t p hp => by simp [Pn, passes, BF.start] at hp⟩
  have hb0 : Bd (10000000 * ((0 : Nat) : Int)) (Pn x 0) := fun v => by simp [Pn, passes, BF.start, NEV]
  obtain ⟨X1, l1, more, e1, r1, b1, m1⟩ := circle_l1 h F 0 _ _ true (Nat.zero_le _) (by omega) h0 hb0 (fun h => by omega)
  unfold speed_net_circle
  simp only [w64_in (show -9223372036854775808 ≤ x.1 + 1 ∧ x.1 + 1 ≤ 9223372036854775807 by omega)]
  rw [hn] at e1
  rw [show ((0 : Nat) : Int) = 0 from rfl] at e1
  rw [e1]
  simp only [Option.bind_eq_bind, Option.bind_some]
  have hI1 := Pn_inv h (nn x)
  cases hmore : more with
  | false =>
    left
    refine ⟨rfl, ?_⟩
    have hfix := m1.1 hmore
    have hn1 : nn x = (nn x - 1) + 1 := by unfold nn; omega
    refine fix_pot (s := Pn x (nn x - 1)) (K := nn x) h (Pn_inv h (nn x - 1)).i7 (fun t t0 t1 => ?_)
    have := hfix t t0 t1
    rw [← this]
    conv => rhs; rw [hn1]
    show _ = (passes (Rs x) (nn x - 1 + 1)).f t
    rw [passes, ← hn1]
    rfl
  | true =>
    right
    rw [if_neg (by simp)]
    -- some turn became less in the last round
    have hch : ∃ v, 0 ≤ v ∧ v ≤ 20 ∧ (Pn x (nn x)).f v ≠ (Pn x (nn x - 1)).f v := by
      apply Classical.byContradiction
      intro hno
      have : more = false := m1.2 fun t t0 t1 => Classical.byContradiction fun hne => hno ⟨t, t0, t1, hne⟩
      rw [hmore] at this
      cases this
    have hstamp : ∀ K v, (Pn x (K + 1)).f v ≠ (Pn x K).f v → (Pn x (K + 1)).r v = K + 1 := fun K v hne =>
      Classical.byContradiction fun hr => hne (BF.pass_same (Rs x) (Pn x K) hr).1
    have hnode : ∀ K v, (Pn x K).r v ≠ 0 → 0 ≤ v ∧ v ≤ x.1 := fun K v hr => by
      have hI := Pn_inv h K
      have hb : (Pn x K).b v ≠ none := fun e => hr ((hI.i1 v).1 e)
      obtain ⟨p, hp⟩ := Option.ne_none_iff_exists'.1 hb
      obtain ⟨h1, h2, _⟩ := hI.i2 v p hp
      have hok := Rs_ok h p (by simpa using h1)
      rw [← h2]
      exact ⟨hok.2.2.1, hok.2.2.2.1⟩
    have hn1 : nn x = (nn x - 1) + 1 := by unfold nn; omega
    obtain ⟨v, v0, v1, hv⟩ := hch
    have hrv : (Pn x (nn x)).r v = nn x := by
      have := hstamp (nn x - 1) v (by rw [← hn1]; exact hv)
      rw [← hn1] at this
      exact this
    have hvn := hnode (nn x) v (by rw [hrv]; unfold nn; omega)
    have hnp : ¬ Pot x := stamp_no_pot h hI1 hvn.1 hvn.2 (by rw [hrv]; omega)
    obtain ⟨X2, l2, m2, e2, r2, b2, hm2⟩ := step_rep (K := nn x + 1) h r1 b1 (by omega) (by omega)
    rw [e2]
    simp only [Option.bind_some]
    have hI2 := Pn_inv h (nn x + 1)
    have r2' : Rep X2 l2 (Pn x (nn x + 1)) := r2
    -- the next round still changes something
    have hch2 : ∃ t, ((0 : Nat) : Int) ≤ t ∧ t ≤ 20 ∧ gA X2 t ≠ gA X1 t := by
      apply Classical.byContradiction
      intro hno
      refine hnp (fix_pot (s := Pn x (nn x)) (K := nn x + 1) h hI1.i7 fun t t0 t1 => ?_)
      apply Classical.byContradiction
      intro hne
      refine hno ⟨t, by omega, t1, ?_⟩
      rw [r2.f t t0 t1, r1.f t t0 t1]
      exact hne
    obtain ⟨t, e3, t0, t1, ht⟩ := circle_l2 (X := X2) (Y := X1) F 0 (by omega) (by omega) hch2
    rw [show ((0 : Nat) : Int) = 0 from rfl] at e3
    rw [e3]
    simp only [Option.bind_some]
    have hrt : (Pn x (nn x + 1)).r t = nn x + 1 := hstamp (nn x) t (by
      intro e
      apply ht
      rw [r2.f t t0 t1, r1.f t t0 t1]
      exact e)
    have htn := hnode (nn x + 1) t (by rw [hrt]; omega)
    obtain ⟨e, c, n, e4, hb, hbn, he0, he1⟩ := circle_l3 h hI2 r2' F [] (Ar.fill 21 0 : Ar 21 Int) t (by simp) (by simp) htn.1 htn.2 (by simp) (by rw [hrt]; simp; omega) (by simp; omega) (fun w w0 w1 => by
      rw [gA_fill w0 w1]
      simp)
    rw [e4]
    simp only [Option.bind_some]
    obtain ⟨a, e5, hc⟩ := circle_l4 h hI2 r2' F n e [] c hb (by omega) (by simp; omega) (.inl ⟨rfl, rfl⟩)
    simp only [List.map_nil, List.reverse_nil] at e5
    rw [e5]
    simp only [Option.bind_some]
    have hl := hc.len
    rw [reverse_eq (by simp; omega) (by simp; omega)]
    exact ⟨hnp, e, a, by simp, hc⟩
end Go.Proofs.Ythppacohnciinaa
