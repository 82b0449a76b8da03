/-
  A circle of rules is found just if no speeds are true, in plain words. Condition: there are enough rounds.
-/
import Derived.Test.YthppacohnciinaaSpecC
import Derived.Test.YthppacohnciinaaManD
namespace Go.Proofs.Ythppacohnciinaa
open Go Go.Md Go.RowKit
open BF (Rl St Back Inv rel pass passes NEV)

/-! ### Speeds of all turns, and the names by which they became so -/
def gA (X : Ar 21 Int) (t : Int) : Int := (ix X.l t).getD 0
theorem ixA {X : Ar 21 Int} {t : Int} (h0 : 0 ≤ t) (h1 : t ≤ 20) : ix X.l t = some (gA X t) := ix_ar h0 h1
theorem gA_set {X : Ar 21 Int} {i v t : Int} (i0 : 0 ≤ i) (i1 : i ≤ 20) (t0 : 0 ≤ t) (t1 : t ≤ 20) : gA (aset X i v) t = if t = i then v else gA X t := by
  have hX := X.h
  unfold gA ix aset
  simp only [if_pos t0, List.getElem?_set]
  by_cases h : t = i
  · subst h
    rw [if_pos rfl, if_pos (by omega), if_pos rfl]
    rfl
  · rw [if_neg (by omega), if_neg h]
theorem arExt {X Y : Ar 21 Int} (h : ∀ t, 0 ≤ t → t ≤ 20 → gA X t = gA Y t) : X = Y := by
  obtain ⟨a, ha⟩ := X
  obtain ⟨b, hb⟩ := Y
  congr 1
  apply List.ext_getElem (by omega)
  intro i h1 h2
  have := h i (by omega) (by omega)
  simpa [gA, ix, List.getElem?_eq_getElem h1, List.getElem?_eq_getElem h2] using this
theorem mget_put {l : List (Int × Int)} {k v t : Int} : mget 0 (mput l k v) t = if t = k then v else mget 0 l t := by
  induction l with
  | nil =>
    simp only [mput, mget]
    by_cases h : t = k
    · rw [if_pos h, if_pos h.symm]
    · rw [if_neg h, if_neg (Ne.symm h)]
  | cons p l ih =>
    obtain ⟨a, b⟩ := p
    simp only [mput]
    by_cases h : a = k
    · subst h
      simp only [if_true, mget]
      by_cases h2 : t = a
      · rw [if_pos h2, if_pos h2.symm]
      · rw [if_neg h2, if_neg (Ne.symm h2), if_neg (Ne.symm h2)]
    · simp only [if_neg h, mget, ih]
      by_cases h2 : a = t
      · subst h2; rw [if_pos rfl, if_pos rfl, if_neg h]
      · rw [if_neg h2, if_neg h2]

structure Rep (X : Ar 21 Int) (l : List (Int × Int)) (s : St) : Prop where
  f : ∀ t, 0 ≤ t → t ≤ 20 → gA X t = s.f t
  b : ∀ t p, s.b t = some p → mget 0 l t = p.1
def Bd (c : Int) (s : St) : Prop := ∀ v, -c ≤ s.f v ∧ s.f v ≤ NEV
/-- Rules between turns from 0 to 20, that allow at most so much. -/
def OKr (T : Int) (r : Int × Int × Int) : Prop := 0 ≤ r.1 ∧ r.1 ≤ T ∧ 0 ≤ r.2.1 ∧ r.2.1 ≤ T ∧ r.1 ≠ r.2.1 ∧ -100000 ≤ r.2.2 ∧ r.2.2 ≤ 100000

theorem Rep.step {X : Ar 21 Int} {l : List (Int × Int)} {s : St} {K : Nat} {c T : Int} {p : Rl} (h : Rep X l s) (hb : Bd c s) (hc : c ≤ 1152921504606846976) (hT : T ≤ 20) (hp : OKr T p.2) :
    Rep (stepB (X, l) p).1 (stepB (X, l) p).2 (rel K s p) := by
  obtain ⟨h1, h2, h3, h4, h5, h6, h7⟩ := hp
  have ea : (ix X.l p.2.1).getD 0 = s.f p.2.1 := h.f _ h1 (by omega)
  have eb : (ix X.l p.2.2.1).getD 0 = s.f p.2.2.1 := h.f _ h3 (by omega)
  have hf := hb p.2.1
  have hw : w64 (s.f p.2.1 + p.2.2.2) = s.f p.2.1 + p.2.2.2 := w64_in (by unfold NEV at hf; omega)
  unfold stepB rel
  simp only [ea, eb, hw]
  by_cases hcn : BF.cnd s.f p
  · have hcn' := hcn
    obtain ⟨c1, c2⟩ := hcn'
    rw [if_pos hcn, if_pos (by unfold NEV at c1; simp [c1]; omega)]
    refine ⟨fun t t0 t1 => ?_, fun t q hq => ?_⟩
    · rw [gA_set h3 (by omega) t0 t1]
      simp only [BF.up]
      split
      · rfl
      · exact h.f t t0 t1
    · simp only [BF.up] at hq
      rw [mget_put]
      split
      · rename_i e
        rw [if_pos e] at hq
        cases hq
        rfl
      · rename_i e
        rw [if_neg e] at hq
        exact h.b t q hq
  · rw [if_neg hcn, if_neg]
    · exact h
    · unfold BF.cnd NEV at hcn
      simp only [Bool.and_eq_true, Bool.not_eq_true', decide_eq_false_iff_not, not_and]
      intro a1 a2
      exact hcn ⟨a1, by omega⟩
theorem Bd.rel {c : Int} {s : St} {K : Nat} {p : Rl} (h : Bd c s) (hc : 0 ≤ c) (hm : -100000 ≤ p.2.2.2) : Bd (c + 100000) (rel K s p) := by
  intro v
  have h1 := h v
  have h2 := h p.2.1
  have h3 := h p.2.2.1
  unfold BF.rel
  by_cases hcn : BF.cnd s.f p
  · rw [if_pos hcn]
    simp only [BF.up]
    have := hcn.2
    split <;> omega
  · rw [if_neg hcn]
    omega
theorem Rep.fold {K : Nat} {T : Int} (hT : T ≤ 20) : ∀ (R : List Rl) (X : Ar 21 Int) (l : List (Int × Int)) (s : St) (c : Int), (∀ p ∈ R, OKr T p.2) → 0 ≤ c → c + 100000 * R.length ≤ 1152921504606846976 → Rep X l s → Bd c s →
    Rep (R.foldl stepB (X, l)).1 (R.foldl stepB (X, l)).2 (R.foldl (rel K) s) ∧ Bd (c + 100000 * R.length) (R.foldl (rel K) s)
  | [], X, l, s, c, _, _, _, h, hb => ⟨h, by simpa using hb⟩
  | p :: R, X, l, s, c, hR, hc, hlen, h, hb => by
    have hp := hR p (by simp)
    simp only [List.foldl_cons]
    have e : (p :: R).length = R.length + 1 := rfl
    have := Rep.fold (K := K) hT R (stepB (X, l) p).1 (stepB (X, l) p).2 (rel K s p) (c + 100000) (fun q hq => hR q (by simp [hq])) (by omega) (by rw [e] at hlen; omega) (h.step hb (by omega) hT hp) (hb.rel hc hp.2.2.2.2.2.1)
    rw [e]
    refine ⟨this.1, ?_⟩
    have h2 := this.2
    have : c + 100000 + 100000 * (R.length : Int) = c + 100000 * ((R.length + 1 : Nat) : Int) := by omega
    rwa [this] at h2

/-! ### The rules of a valid sheet -/
theorem whole_ok {x : Int × List (Int × Int × Int)} (h : csheet x = 0) : ∀ r ∈ whole x, OKr x.1 r := by
  obtain ⟨_, h2, h3, h4⟩ := csheet_ok h
  intro r hr
  rcases List.mem_append.1 hr with hr | hr
  · have := h4 r hr
    simp only [okRule, inR, Bool.and_eq_true, decide_eq_true_eq, Bool.not_eq_true', decide_eq_false_iff_not] at this
    obtain ⟨⟨⟨⟨a, b⟩, c, d⟩, e⟩, f, g⟩ := this
    exact ⟨a, b, c, d, e, f, g⟩
  · obtain ⟨t, ht, hr⟩ := List.mem_flatMap.1 hr
    have ht := List.mem_range.1 ht
    simp only [List.mem_cons, List.not_mem_nil, or_false] at hr
    rcases hr with rfl | rfl
    · unfold OKr; simp only; omega
    · unfold OKr; simp only; omega
theorem en_mem {l : List (Int × Int × Int)} {p : Rl} (h : p ∈ en l) : p.2 ∈ l ∧ ix l p.1 = some p.2 ∧ 0 ≤ p.1 ∧ p.1 < l.length := by
  obtain ⟨i, hi, e⟩ := List.getElem_of_mem h
  rw [en_len] at hi
  have h1 : (en l)[i]? = some p := by rw [← e]; exact List.getElem?_eq_getElem _
  rw [en_get, List.getElem?_eq_getElem hi] at h1
  simp only [Option.map_some, Option.some.injEq] at h1
  subst h1
  exact ⟨List.getElem_mem hi, ix_nat hi, by simp, by simpa using hi⟩
def Rs (x : Int × List (Int × Int × Int)) : List Rl := en (whole x)
theorem Rs_ok {x : Int × List (Int × Int × Int)} (h : csheet x = 0) : ∀ p ∈ Rs x, OKr x.1 p.2 := fun p hp => whole_ok h _ (en_mem hp).1
theorem Rs_len {x : Int × List (Int × Int × Int)} (h : csheet x = 0) : (Rs x).length ≤ 100 := by
  unfold Rs
  rw [en_len]
  exact whole_len h
theorem Rs_ne {x : Int × List (Int × Int × Int)} (h : csheet x = 0) : ∀ p ∈ Rs x, p.2.1 ≠ p.2.2.1 := fun p hp => (Rs_ok h p hp).2.2.2.2.1
/-- Some speeds keep all rules. -/
def Pot (x : Int × List (Int × Int × Int)) : Prop := ∃ p : Int → Int, ∀ r ∈ whole x, p r.2.1 ≤ p r.1 + r.2.2

/-! ### A step -/
theorem step_eq {x : Int × List (Int × Int × Int)} (h : csheet x = 0) (X : Ar 21 Int) (l : List (Int × Int)) :
    speed_net_step (whole x) X l = some (((Rs x).foldl stepB (X, l)).1, ((Rs x).foldl stepB (X, l)).2, !decide (((Rs x).foldl stepB (X, l)).1 = X)) := by
  unfold speed_net_step
  rw [if_pos]
  · rfl
  · obtain ⟨_, _, h3, _⟩ := csheet_ok h
    refine List.all_eq_true.2 fun r hr => ?_
    obtain ⟨a, b, c, d, _⟩ := whole_ok h r hr
    simp only [tR, Bool.and_eq_true, decide_eq_true_eq]
    omega
/-- What a step changes. -/
theorem step_rep {x : Int × List (Int × Int × Int)} (h : csheet x = 0) {X : Ar 21 Int} {l : List (Int × Int)} {s : St} {K : Nat} {c : Int} (hr : Rep X l s) (hb : Bd c s) (hc : 0 ≤ c) (hc2 : c ≤ 1000000000000) :
    ∃ X' l' m, speed_net_step (whole x) X l = some (X', l', m) ∧ Rep X' l' (pass (Rs x) K s) ∧ Bd (c + 10000000) (pass (Rs x) K s) ∧ (m = false ↔ ∀ t, 0 ≤ t → t ≤ 20 → (pass (Rs x) K s).f t = s.f t) := by
  obtain ⟨_, _, h3, _⟩ := csheet_ok h
  have hlen := Rs_len h
  have := Rep.fold (K := K) h3 (Rs x) X l s c (Rs_ok h) hc (by omega) hr hb
  refine ⟨_, _, _, step_eq h X l, this.1, fun v => ?_, ?_⟩
  · have := this.2 v
    unfold pass
    omega
  · simp only [Bool.not_eq_false', decide_eq_true_eq]
    constructor
    · intro e t t0 t1
      have h1 := this.1.f t t0 t1
      rw [e, hr.f t t0 t1] at h1
      exact h1.symm
    · intro e
      exact arExt fun t t0 t1 => by rw [this.1.f t t0 t1, hr.f t t0 t1]; exact e t t0 t1
theorem pass_fix {K : Nat} : ∀ (R : List Rl) (s : St), (∀ p ∈ R, 0 ≤ p.2.2.1 ∧ p.2.2.1 ≤ 20) → (∀ v, 0 ≤ v → v ≤ 20 → (R.foldl (rel K) s).f v = s.f v) → ∀ p ∈ R, ¬ BF.cnd s.f p
  | [], _, _, _, p, hp => by simp at hp
  | q :: R, s, hR, hf, p, hp => by
    simp only [List.foldl_cons] at hf
    by_cases hc : BF.cnd s.f q
    · exfalso
      obtain ⟨q0, q1⟩ := hR q (by simp)
      have h1 := hf _ q0 q1
      have h2 := (BF.pass_le (K := K) (v := q.2.2.1) R (rel K s q)).1
      have h3 : (rel K s q).f q.2.2.1 < s.f q.2.2.1 := by
        unfold rel
        rw [if_pos hc]
        simp only [BF.up_same]
        exact hc.2
      omega
    · have e : rel K s q = s := by unfold rel; rw [if_neg hc]
      rw [e] at hf
      rcases List.mem_cons.1 hp with rfl | hp
      · exact hc
      · exact pass_fix R s (fun r hr => hR r (by simp [hr])) hf p hp
theorem fix_pot {x : Int × List (Int × Int × Int)} (h : csheet x = 0) {s : St} {K : Nat} (hneg : ∀ v, s.f v ≤ 0) (hf : ∀ t, 0 ≤ t → t ≤ 20 → (pass (Rs x) K s).f t = s.f t) : Pot x := by
  obtain ⟨_, _, h3, _⟩ := csheet_ok h
  refine ⟨s.f, fun r hr => ?_⟩
  obtain ⟨i, hi, e⟩ := List.getElem_of_mem hr
  have hm : ((i : Int), r) ∈ Rs x := by
    have : (en (whole x))[i]? = some ((i : Int), r) := by rw [en_get, List.getElem?_eq_getElem hi, e]; rfl
    exact List.mem_of_getElem? this
  have := pass_fix (Rs x) s (fun p hp => by have := Rs_ok h p hp; exact ⟨this.2.2.1, by have := this.2.2.2.1; omega⟩) hf _ hm
  unfold BF.cnd at this
  have hn := hneg r.1
  simp only [not_and, Int.not_lt] at this
  exact this (by unfold NEV; omega)

/-! ### Back by the rules -/
theorem pot_back {x : Int × List (Int × Int × Int)} {s : St} {K : Nat} {N : Int → Prop} (hI : Inv N K (Rs x) [] s) {p : Int → Int} (hp : ∀ r ∈ whole x, p r.2.1 ≤ p r.1 + r.2.2) {v u c : Int} {n : Nat} (hb : Back s.b v u c n) : p v ≤ p u + c := by
  induction hb with
  | @one v q hq =>
    obtain ⟨h1, h2, _⟩ := hI.i2 v q hq
    have h1' : q ∈ Rs x := by simpa using h1
    have := hp _ (en_mem h1').1
    rw [h2] at this
    exact this
  | @more v u c n q hq _ ih =>
    obtain ⟨h1, h2, _⟩ := hI.i2 v q hq
    have h1' : q ∈ Rs x := by simpa using h1
    have := hp _ (en_mem h1').1
    rw [h2] at this
    omega
theorem no_pot {x : Int × List (Int × Int × Int)} {s : St} {K : Nat} {N : Int → Prop} (hI : Inv N K (Rs x) [] s) {v c : Int} {n : Nat} (hb : Back s.b v v c n) : ¬ Pot x := by
  rintro ⟨p, hp⟩
  have h1 := pot_back hI hp hb
  have h2 := hI.i5 v c n hb
  omega

theorem nodup_len : ∀ (N : Nat) (M : List Int), M.Nodup → (∀ w ∈ M, 0 ≤ w ∧ w < N) → M.length ≤ N
  | 0, M, _, h => by
    cases M with
    | nil => simp
    | cons a M => have := h a (by simp); omega
  | N + 1, M, hn, h => by
    have h1 := nodup_len N (M.filter fun w => !decide (w = (N : Int))) (hn.filter _) (fun w hw => by
      simp only [List.mem_filter, Bool.not_eq_true', decide_eq_false_iff_not] at hw
      have := h w hw.1
      omega)
    have h2 : M.length ≤ (M.filter fun w => !decide (w = (N : Int))).length + 1 := by
      clear h h1
      induction M with
      | nil => simp
      | cons a M ih =>
        simp only [List.nodup_cons] at hn
        by_cases ha : a = (N : Int)
        · have e : (M.filter fun w => !decide (w = (N : Int))) = M := by
            refine List.filter_eq_self.2 fun w hw => ?_
            simp only [Bool.not_eq_true', decide_eq_false_iff_not]
            rintro rfl
            exact hn.1 (ha ▸ hw)
          rw [List.filter_cons, ha, if_neg (by simp), e]
          exact Nat.le_refl _
        · rw [List.filter_cons, if_pos (by simp [ha]), List.length_cons, List.length_cons]
          have := ih hn.2
          omega
    omega

/-- Where the walk back comes twice. -/
theorem twice {x : Int × List (Int × Int × Int)} (hx : csheet x = 0) {s : St} {K : Nat} {N : Int → Prop} (hI : Inv N K (Rs x) [] s) : ∀ (d : Nat) (M : List Int) (u : Int), M.Nodup → (∀ w ∈ M, 0 ≤ w ∧ w ≤ x.1) → 0 ≤ u → u ≤ x.1 →
    (∀ w ∈ M, ∃ c n, Back s.b w u c n ∧ n ≤ M.length) → x.1 + 1 ≤ s.r u + M.length → x.1 + 1 - M.length < d → ∃ w c n, Back s.b w w c n
  | 0, M, u, hn, hM, u0, u1, _, _, hd => by
    have := nodup_len (x.1 + 1).toNat M hn (fun w hw => by have := hM w hw; omega)
    omega
  | d + 1, M, u, hn, hM, u0, u1, hB, hr, hd => by
    by_cases hu : u ∈ M
    · obtain ⟨c, n, h1, _⟩ := hB u hu
      exact ⟨u, c, n, h1⟩
    · have hn' : (u :: M).Nodup := by simp [hn, hu]
      have hM' : ∀ w ∈ u :: M, 0 ≤ w ∧ w ≤ x.1 := fun w hw => by
        rcases List.mem_cons.1 hw with rfl | hw
        · exact ⟨u0, u1⟩
        · exact hM w hw
      have hl := nodup_len (x.1 + 1).toNat (u :: M) hn' (fun w hw => by have := hM' w hw; omega)
      simp only [List.length_cons] at hl
      have hb : s.b u ≠ none := fun e => by have := (hI.i1 u).1 e; omega
      obtain ⟨p, hp⟩ := Option.ne_none_iff_exists'.1 hb
      obtain ⟨h1, h2, h3⟩ := hI.i2 u p hp
      have hok := Rs_ok hx p (by simpa using h1)
      have h4 := hI.i3 u p hp
      refine twice hx hI d (u :: M) p.2.1 hn' hM' hok.1 hok.2.1 (fun w hw => ?_) (by simp only [List.length_cons]; omega) (by simp only [List.length_cons]; omega)
      rcases List.mem_cons.1 hw with rfl | hw
      · exact ⟨_, 1, .one hp, by simp⟩
      · obtain ⟨c, n, h5, h6⟩ := hB w hw
        exact ⟨_, _, h5.snoc hp, by simp only [List.length_cons]; omega⟩
theorem stamp_no_pot {x : Int × List (Int × Int × Int)} (hx : csheet x = 0) {s : St} {K : Nat} {N : Int → Prop} (hI : Inv N K (Rs x) [] s) {v : Int} (v0 : 0 ≤ v) (v1 : v ≤ x.1) (hr : x.1 + 1 ≤ s.r v) : ¬ Pot x := by
  obtain ⟨w, c, n, h⟩ := twice hx hI ((x.1 + 1).toNat + 1) [] v (by simp) (by simp) v0 v1 (by simp) (by simpa using hr) (by simp; omega)
  exact no_pot hI h
end Go.Proofs.Ythppacohnciinaa
