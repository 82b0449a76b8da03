/-
  Rows of rows of the call's own, of any flat elements: written in place, two rows exchanged. No condition: lemmas about the model.
-/
import Derived.Test.YtboefnpnoojfpaaMat
namespace Go.Md
open Go Go.RowKit

/-- The slice v is the call's own, its elements are rows of the call's own, all in different blocks. -/
structure MatG {α : Type} [Enc α] [Flat α] (e0 e1 : TypeId) (base : Nat) (w : World) (v : Value) (S : List SV) (M : List (List α)) : Prop where
  own : Row (α := SV) e0 base w v S
  len : S.length = M.length
  row : ∀ (i : Nat) (s : SV) (r : List α), S[i]? = some s → M[i]? = some r → Row (α := α) e1 base w s.val r
  dif : ∀ (i j : Nat) (s t : SV), i ≠ j → S[i]? = some s → S[j]? = some t → ∀ g, s.val.ownBlock = some g → t.val.ownBlock ≠ some g
  out : ∀ (i : Nat) (s : SV), S[i]? = some s → ∀ g, s.val.ownBlock = some g → v.ownBlock ≠ some g
def MatX {α : Type} [Enc α] [Flat α] (e0 e1 : TypeId) (base : Nat) (w : World) (v : Value) (M : List (List α)) : Prop := ∃ S, MatG e0 e1 base w v S M

section
variable {α : Type} [Enc α] [Flat α] {e0 e1 : TypeId} {base : Nat} {w w' : World} {v : Value} {M : List (List α)}
theorem MatX.nil : MatX e0 e1 base w (.slice none 0 0) ([] : List (List α)) := ⟨[], Row.nil, rfl, by simp, by simp, by simp⟩
theorem MatX.ext (h : MatX e0 e1 base w v M) (k : Ext w w') : MatX e0 e1 base w' v M := by
  obtain ⟨S, h⟩ := h
  exact ⟨S, h.own.ext k, h.len, fun i s r h1 h2 => (h.row i s r h1 h2).ext k, h.dif, h.out⟩
theorem MatX.sl (h : MatX e0 e1 base w v M) : ∃ a cap, v = .slice a M.length cap := by
  obtain ⟨S, h⟩ := h
  obtain ⟨a, cap, e, _⟩ := RV.sl h.own.rv
  exact ⟨a, cap, by rw [e, h.len]⟩
theorem MatX.rv (h : MatX e0 e1 base w v M) : RV w v M := by
  obtain ⟨S, h⟩ := h
  obtain ⟨a, cap, rfl, h1, h2, h3⟩ := RV.sl h.own.rv
  rw [h.len]
  refine RV.of1 (by rw [← h.len]; exact h1) h2 ?_
  rcases h3 with rfl | ⟨b, off, e, hb, hlt, h3⟩
  · left
    have := h.len
    simp at this
    exact List.eq_nil_of_length_eq_zero this.symm
  · refine .inr ⟨b, off, e, hb, hlt, fun i r hr => ?_⟩
    have hi : i < S.length := by rw [h.len]; exact (List.getElem?_eq_some_iff.1 hr).1
    have hs : S[i]? = some S[i] := List.getElem?_eq_getElem hi
    obtain ⟨cs, h4, h5⟩ := h3 i _ hs
    have hrow := h.row i _ r hs hr
    refine ⟨[S[i].val], RV.rep1 hrow.rv, ?_⟩
    have h4' : cs = [S[i].val] := h4
    rw [← h4']
    exact h5

/-- A row behind the others. -/
theorem MatG.snoc {S : List SV} {v' : Value} {s : SV} {r : List α} {b2 : Nat} (h : MatG e0 e1 base w v S M) (hr : Row (α := α) e1 b2 w s.val r) (hb : base ≤ b2) (hnew : ∀ (i : Nat) (t : SV), S[i]? = some t → ∀ g, t.val.ownBlock = some g → g < b2) (hv : ∀ g, v.ownBlock = some g → g < b2)
    (g : w.grownBy w' v.ownBlock) (ho : Row (α := SV) e0 base w' v' (S ++ [s])) (how : v'.ownBlock = v.ownBlock ∨ ∃ g, v'.ownBlock = some g ∧ w.heap.size ≤ g) : MatG e0 e1 base w' v' (S ++ [s]) (M ++ [r]) := by
  have hsb : ∀ g, s.val.ownBlock = some g → b2 ≤ g ∧ g < w.heap.size := fun g hg => hr.lt g hg
  have hout : ∀ x : Value, (∀ g, x.ownBlock = some g → g < w.heap.size ∧ v.ownBlock ≠ some g) → ∀ g, x.ownBlock = some g → v'.ownBlock ≠ some g := fun x hx g hg => by
    obtain ⟨h1, h2⟩ := hx g hg
    rcases how with h3 | ⟨q, h3, h4⟩
    · rw [h3]; exact h2
    · rw [h3]
      intro e
      cases e
      omega
  refine ⟨ho, by simp [h.len], fun i t q h1 h2 => ?_, fun i j x y hij h1 h2 gg hg => ?_, fun i t h1 => ?_⟩
  · rw [List.getElem?_append] at h1 h2
    rw [← h.len] at h2
    split at h1
    · rename_i hi
      rw [if_pos hi] at h2
      have := h.row i t q h1 h2
      exact this.grn g fun p hp => h.out i t h1 p hp
    · rename_i hi
      rw [if_neg hi] at h2
      have hi0 : i - S.length = 0 := by
        rcases Nat.eq_zero_or_pos (i - S.length) with h' | h'
        · exact h'
        · rw [List.getElem?_eq_none (by simp only [List.length_cons, List.length_nil]; omega)] at h1; cases h1
      rw [hi0] at h1 h2
      simp only [List.getElem?_cons_zero, Option.some.injEq] at h1 h2
      subst h1 h2
      refine (hr.grn g fun p hp => ?_).bnd hb
      intro e
      have := hv p e
      have := (hsb p hp).1
      omega
  · have hS : ∀ k z, (S ++ [s])[k]? = some z → (S[k]? = some z ∧ k < S.length) ∨ (z = s ∧ k = S.length) := fun k z hz => by
      rw [List.getElem?_append] at hz
      split at hz
      · rename_i hk; exact .inl ⟨hz, hk⟩
      · rename_i hk
        have hk0 : k - S.length = 0 := by
          rcases Nat.eq_zero_or_pos (k - S.length) with h' | h'
          · exact h'
          · rw [List.getElem?_eq_none (by simp only [List.length_cons, List.length_nil]; omega)] at hz; cases hz
        rw [hk0] at hz
        simp only [List.getElem?_cons_zero, Option.some.injEq] at hz
        exact .inr ⟨hz.symm, by omega⟩
    rcases hS i x h1 with ⟨a1, a2⟩ | ⟨a1, a2⟩ <;> rcases hS j y h2 with ⟨c1, c2⟩ | ⟨c1, c2⟩
    · exact h.dif i j x y hij a1 c1 gg hg
    · subst c1
      intro e
      have := hnew i x a1 gg hg
      have := (hsb gg e).1
      omega
    · subst a1
      intro e
      have := hnew j y c1 gg e
      have := (hsb gg hg).1
      omega
    · omega
  · rw [List.getElem?_append] at h1
    split at h1
    · refine hout t.val fun q hq => ⟨?_, h.out i t h1 q hq⟩
      rename_i hi
      have hM : M[i]? = some (M[i]'(by rw [← h.len]; exact hi)) := List.getElem?_eq_getElem _
      exact ((h.row i t _ h1 hM).lt q hq).2
    · rename_i hi
      have hi0 : i - S.length = 0 := by
        rcases Nat.eq_zero_or_pos (i - S.length) with h' | h'
        · exact h'
        · rw [List.getElem?_eq_none (by simp only [List.length_cons, List.length_nil]; omega)] at h1; cases h1
      rw [hi0] at h1
      simp only [List.getElem?_cons_zero, Option.some.injEq] at h1
      subst h1
      refine hout s.val fun q hq => ⟨(hsb q hq).2, fun e => ?_⟩
      have := hv q e
      have := (hsb q hq).1
      omega

/-- A row's value, where it lies. -/
theorem MatG.at {S : List SV} {a : Option Addr} {len cap : Nat} {i : Int} {r : List α} (h : MatG e0 e1 base w (.slice a len cap) S M) (hi : ix M i = some r) :
    ∃ s b off, ix S i = some s ∧ a = some ⟨b, off, none⟩ ∧ 0 ≤ i ∧ i < len ∧ Cs w b (off + i.toNat * 1) [s.val] ∧ Row (α := α) e1 base w s.val r := by
  obtain ⟨i0, i1, i2⟩ := ix_spec hi
  have hl := (RV.cap h.own.rv).1
  have his : i.toNat < S.length := by rw [h.len]; omega
  have hs : S[i.toNat]? = some S[i.toNat] := List.getElem?_eq_getElem his
  have hix : ix S i = some S[i.toNat] := by unfold ix; rw [if_pos i0, hs]
  obtain ⟨b, off, cs, e, _, h1, h2, h3⟩ := (RV.els h.own.rv).ix hix
  have h2' : cs = [S[i.toNat].val] := h2
  subst h2'
  exact ⟨_, b, off, hix, e, i0, by omega, h3, h.row i.toNat _ r hs i2⟩

/-- An element of a row is written. -/
theorem MatG.set {S : List SV} {i : Int} {s : SV} {r r' : List α} {b : Nat} (h : MatG e0 e1 base w v S M) (hs : ix S i = some s) (hi : ix M i = some r) (c : Chg b w w') (hb : s.val.ownBlock = some b) (hr : Row (α := α) e1 base w' s.val r') :
    MatG e0 e1 base w' v S (rset M i r') := by
  obtain ⟨i0, _, is⟩ := ix_spec hs
  refine ⟨h.own.chgn c fun e => ?_, by rw [rset, List.length_set]; exact h.len, fun j t q h1 h2 => ?_, h.dif, h.out⟩
  · exact h.out i.toNat s is b hb e.symm
  · unfold rset at h2
    rw [List.getElem?_set] at h2
    by_cases hj : i.toNat = j
    · subst hj
      rw [is] at h1
      cases h1
      split at h2
      · split at h2
        · cases h2; exact hr
        · cases h2
      · contradiction
    · rw [if_neg hj] at h2
      exact (h.row j t q h1 h2).chgn c fun e => h.dif j i.toNat t s (Ne.symm hj) h1 is b e.symm hb
end

theorem MatG.ext {α : Type} [Enc α] [Flat α] {e0 e1 : TypeId} {base : Nat} {w w' : World} {v : Value} {S : List SV} {M : List (List α)} (h : MatG e0 e1 base w v S M) (k : Ext w w') : MatG e0 e1 base w' v S M :=
  ⟨h.own.ext k, h.len, fun i s r h1 h2 => (h.row i s r h1 h2).ext k, h.dif, h.out⟩
section
variable {α : Type} [Enc α] [Flat α] {e0 e1 : TypeId} {base : Nat} {w w1 w' : World} {v : Value} {S : List SV} {M : List (List α)}
/-- A change of a block that is none of the matrix'. -/
theorem MatG.chg {b : Nat} (h : MatG e0 e1 base w v S M) (c : Chg b w w') (h0 : v.ownBlock ≠ some b) (h1 : ∀ (i : Nat) (s : SV), S[i]? = some s → s.val.ownBlock ≠ some b) : MatG e0 e1 base w' v S M :=
  ⟨h.own.chgn c (Ne.symm h0), h.len, fun i s r h2 h3 => (h.row i s r h2 h3).chgn c (Ne.symm (h1 i s h2)), h.dif, h.out⟩
theorem MatG.lt (h : MatG e0 e1 base w v S M) : (∀ q, v.ownBlock = some q → base ≤ q ∧ q < w.heap.size) ∧ ∀ (i : Nat) (s : SV), S[i]? = some s → ∀ q, s.val.ownBlock = some q → base ≤ q ∧ q < w.heap.size :=
  ⟨fun q hq => h.own.lt q hq, fun i s hs q hq => by
    have hM : M[i]? = some (M[i]'(by rw [← h.len]; exact (List.getElem?_eq_some_iff.1 hs).1)) := List.getElem?_eq_getElem _
    exact (h.row i s _ hs hM).lt q hq⟩
/-- A change below the matrix, or of what is younger. -/
theorem MatG.chgo {b : Nat} (h : MatG e0 e1 base w v S M) (c : Chg b w w') (hb : b < base ∨ w.heap.size ≤ b) : MatG e0 e1 base w' v S M :=
  h.chg c (fun e => by have := h.lt.1 b e; omega) (fun i s hs e => by have := h.lt.2 i s hs b e; omega)
theorem MatG.ix (h : MatG e0 e1 base w v S M) {i : Int} {r : List α} (hi : Md.ix M i = some r) : ∃ s, Md.ix S i = some s ∧ s.val = .slice s.a r.length s.cap ∧ Row (α := α) e1 base w (.slice s.a r.length s.cap) r := by
  obtain ⟨i0, i1, i2⟩ := ix_spec hi
  have his : i.toNat < S.length := by rw [h.len]; exact (List.getElem?_eq_some_iff.1 i2).1
  have hs : S[i.toNat]? = some S[i.toNat] := List.getElem?_eq_getElem his
  have hrow := h.row i.toNat _ r hs i2
  have hsl := (RV.cap (a := S[i.toNat].a) (n := S[i.toNat].len) (cap := S[i.toNat].cap) hrow.rv).1
  have e : S[i.toNat].val = .slice S[i.toNat].a r.length S[i.toNat].cap := by unfold SV.val; rw [hsl]
  refine ⟨S[i.toNat], by unfold Md.ix; rw [if_pos i0, hs], e, ?_⟩
  rw [← e]
  exact hrow
/-- A row's value, where it lies. -/
theorem MatG.get {a : Option Addr} {len cap : Nat} {i : Int} {r : List α} (h : MatG e0 e1 base w (.slice a len cap) S M) (hi : Md.ix M i = some r) :
    ∃ s b off, Md.ix S i = some s ∧ a = some ⟨b, off, none⟩ ∧ 0 ≤ i ∧ i < len ∧ Cs w b (off + i.toNat * 1) [.slice s.a r.length s.cap] ∧ s.val = .slice s.a r.length s.cap ∧ Row (α := α) e1 base w (.slice s.a r.length s.cap) r := by
  obtain ⟨s, b, off, h1, h2, h3, h4, h5, _⟩ := h.at hi
  obtain ⟨s', h1', h7, h8⟩ := h.ix hi
  rw [h1] at h1'
  cases h1'
  exact ⟨s, b, off, h1, h2, h3, h4, by rw [← h7]; exact h5, h7, h8⟩
/-- An element, where it lies. -/
theorem MatG.get2 {a : Option Addr} {len cap : Nat} {i j : Int} {r : List α} {x : α} (h : MatG e0 e1 base w (.slice a len cap) S M) (hi : Md.ix M i = some r) (hj : Md.ix r j = some x) :
    ∃ s b off b1 f1, Md.ix S i = some s ∧ a = some ⟨b, off, none⟩ ∧ 0 ≤ i ∧ i < len ∧ Cs w b (off + i.toNat * 1) [.slice (some ⟨b1, f1, none⟩) r.length s.cap] ∧ s.val = .slice (some ⟨b1, f1, none⟩) r.length s.cap ∧ Row (α := α) e1 base w (.slice (some ⟨b1, f1, none⟩) r.length s.cap) r ∧
      0 ≤ j ∧ j < r.length ∧ Cs w b1 (f1 + j.toNat * Enc.n α) (Flat.enc x) := by
  obtain ⟨s, b, off, h1, h2, h3, h4, h5, h6, h7⟩ := h.get hi
  obtain ⟨b1, f1, cs, e, j1, j2, q, hc⟩ := (RV.els h7.rv).ix hj
  rw [e] at h5 h6 h7
  rw [Flat.iff.1 q] at hc
  exact ⟨s, b, off, b1, f1, h1, h2, h3, h4, h5, h6, h7, j1, j2, hc⟩

def swp (i j p : Nat) : Nat := if p = j then i else if p = i then j else p
theorem swp_inj {i j p q : Nat} (h : swp i j p = swp i j q) : p = q := by
  unfold swp at h
  split at h <;> split at h <;> (try split at h) <;> (try split at h) <;> omega
theorem rset2 {γ : Type} {l : List γ} {i j : Int} {x y : γ} (hi : Md.ix l i = some x) (hj : Md.ix l j = some y) (p : Nat) : (rset (rset l i y) j x)[p]? = l[swp i.toNat j.toNat p]? := by
  obtain ⟨i0, i1, i2⟩ := ix_spec hi
  obtain ⟨j0, j1, j2⟩ := ix_spec hj
  have hil := (List.getElem?_eq_some_iff.1 i2).1
  have hjl := (List.getElem?_eq_some_iff.1 j2).1
  unfold rset swp
  rw [List.getElem?_set, List.getElem?_set]
  by_cases h1 : j.toNat = p
  · subst h1
    simp [hjl, i2]
  · rw [if_neg h1, if_neg (Ne.symm h1)]
    by_cases h2 : i.toNat = p
    · subst h2
      simp [hil, j2]
    · rw [if_neg h2, if_neg (Ne.symm h2)]
/-- Two rows are exchanged. -/
theorem MatG.swap {i j : Int} {s t : SV} {r q : List α} {b : Nat} (h : MatG e0 e1 base w v S M) (hi : Md.ix S i = some s) (hj : Md.ix S j = some t) (hri : Md.ix M i = some r) (hrj : Md.ix M j = some q) (c1 : Chg b w w1) (c2 : Chg b w1 w') (hb : v.ownBlock = some b)
    (ho : Row (α := SV) e0 base w' v (rset (rset S i t) j s)) : MatG e0 e1 base w' v (rset (rset S i t) j s) (rset (rset M i q) j r) := by
  refine ⟨ho, by simp [rset, h.len], fun p x y h1 h2 => ?_, fun p p' x y hpp h1 h2 => ?_, fun p x h1 => ?_⟩
  · rw [rset2 hi hj] at h1
    rw [rset2 hri hrj] at h2
    have hne : some b ≠ x.val.ownBlock := fun e => h.out _ x h1 b e.symm hb
    exact ((h.row _ x y h1 h2).chgn c1 hne).chgn c2 hne
  · rw [rset2 hi hj] at h1 h2
    exact h.dif _ _ x y (fun e => hpp (swp_inj e)) h1 h2
  · rw [rset2 hi hj] at h1
    exact h.out _ x h1
end

/-! ### Between two bounds -/
def MatT {α : Type} [Enc α] [Flat α] (e0 e1 : TypeId) (base top : Nat) (w : World) (v : Value) (M : List (List α)) : Prop :=
  ∃ S, MatG e0 e1 base w v S M ∧ (∀ q, v.ownBlock = some q → q < top) ∧ ∀ (i : Nat) (s : SV), S[i]? = some s → ∀ q, s.val.ownBlock = some q → q < top
section
variable {α : Type} [Enc α] [Flat α] {e0 e1 : TypeId} {base top : Nat} {w w1 w' : World} {v : Value} {M : List (List α)}
theorem MatG.totop {S : List SV} (h : MatG e0 e1 base w v S M) : MatT e0 e1 base w.heap.size w v M := ⟨S, h, fun q hq => (h.lt.1 q hq).2, fun i s hs q hq => (h.lt.2 i s hs q hq).2⟩
theorem MatT.ext (h : MatT e0 e1 base top w v M) (k : Ext w w') : MatT e0 e1 base top w' v M := by
  obtain ⟨S, h, h1, h2⟩ := h
  exact ⟨S, h.ext k, h1, h2⟩
theorem MatT.sl (h : MatT e0 e1 base top w v M) : ∃ a cap, v = .slice a M.length cap := by
  obtain ⟨S, h, _⟩ := h
  exact MatX.sl ⟨S, h⟩
/-- A change of what is not the matrix'. -/
theorem MatT.chgo {b : Nat} (h : MatT e0 e1 base top w v M) (c : Chg b w w') (hb : b < base ∨ top ≤ b) : MatT e0 e1 base top w' v M := by
  obtain ⟨S, h, h1, h2⟩ := h
  refine ⟨S, h.chg c (fun e => ?_) (fun i s hs e => ?_), h1, h2⟩
  · have := h.lt.1 b e
    have := h1 b e
    omega
  · have := h.lt.2 i s hs b e
    have := h2 i s hs b e
    omega
theorem MatT.row {a : Option Addr} {len cap : Nat} {i : Int} {r : List α} (h : MatT e0 e1 base top w (.slice a len cap) M) (hi : Md.ix M i = some r) :
    ∃ b off a1 c1, a = some ⟨b, off, none⟩ ∧ 0 ≤ i ∧ i < len ∧ Cs w b (off + i.toNat * 1) [.slice a1 r.length c1] ∧ RV w (.slice a1 r.length c1) r := by
  obtain ⟨S, h, h1, h2⟩ := h
  obtain ⟨s, b, off, _, ea, i0, i1, hc, _, hr⟩ := h.get hi
  exact ⟨b, off, _, _, ea, i0, i1, hc, hr.rv⟩
/-- An element, where it lies, and what becomes of the matrix when its row is written. -/
theorem MatT.el {a : Option Addr} {len cap : Nat} {i j : Int} {r : List α} {x : α} (h : MatT e0 e1 base top w (.slice a len cap) M) (hi : Md.ix M i = some r) (hj : Md.ix r j = some x) :
    ∃ b off b1 f1 c1, a = some ⟨b, off, none⟩ ∧ 0 ≤ i ∧ i < len ∧ Cs w b (off + i.toNat * 1) [.slice (some ⟨b1, f1, none⟩) r.length c1] ∧ 0 ≤ j ∧ j < r.length ∧ Cs w b1 (f1 + j.toNat * Enc.n α) (Flat.enc x) ∧
      base ≤ b1 ∧ b1 < top ∧ Row (α := α) e1 base w (.slice (some ⟨b1, f1, none⟩) r.length c1) r ∧
      ∀ w1 w' r', Ext w w1 → Chg b1 w1 w' → Row (α := α) e1 base w' (.slice (some ⟨b1, f1, none⟩) r.length c1) r' → MatT e0 e1 base top w' (.slice a len cap) (rset M i r') := by
  obtain ⟨S, h, h1, h2⟩ := h
  obtain ⟨s, b, off, b1, f1, hs, ea, i0, i1, hc, esv, hrow, j0, j1, hce⟩ := h.get2 hi hj
  have hown : s.val.ownBlock = some b1 := by rw [esv]; rfl
  have hsi := (ix_spec hs).2.2
  refine ⟨b, off, b1, f1, s.cap, ea, i0, i1, hc, j0, j1, hce, (h.lt.2 _ _ hsi b1 hown).1, h2 _ _ hsi b1 hown, hrow, fun w1 w' r' k c hr => ?_⟩
  exact ⟨S, (h.ext k).set hs hi c hown (by rw [esv]; exact hr), h1, h2⟩
theorem ix_rset2 {γ : Type} {l : List γ} {i j : Int} {a b : γ} (h : Md.ix l j = some b) : ∃ c, Md.ix (rset l i a) j = some c := by
  obtain ⟨h0, h1, h2⟩ := ix_spec h
  unfold Md.ix rset
  rw [if_pos h0]
  have : j.toNat < (l.set i.toNat a).length := by rw [List.length_set]; omega
  exact ⟨_, List.getElem?_eq_getElem this⟩
/-- Two rows are exchanged. -/
theorem MatT.swap {a : Option Addr} {len cap : Nat} {i j : Int} {r q : List α} (h : MatT e0 e1 base top w (.slice a len cap) M) (hi : Md.ix M i = some r) (hj : Md.ix M j = some q) :
    ∃ b off S s t, a = some ⟨b, off, none⟩ ∧ 0 ≤ i ∧ i < len ∧ 0 ≤ j ∧ j < len ∧ Cs w b (off + i.toNat * 1) [.slice s.a r.length s.cap] ∧ Cs w b (off + j.toNat * 1) [.slice t.a q.length t.cap] ∧ s.val = .slice s.a r.length s.cap ∧ t.val = .slice t.a q.length t.cap ∧
      base ≤ b ∧ b < top ∧ Row (α := SV) e0 base w (.slice a len cap) S ∧ Md.ix S i = some s ∧ Md.ix S j = some t ∧
      ∀ w0 w1 w', Ext w w0 → Chg b w0 w1 → Chg b w1 w' → Row (α := SV) e0 base w' (.slice a len cap) (rset (rset S i t) j s) → MatT e0 e1 base top w' (.slice a len cap) (rset (rset M i q) j r) := by
  obtain ⟨S, h, h1, h2⟩ := h
  obtain ⟨s, b, off, hs, ea, i0, i1, hc, esv, hrow⟩ := h.get hi
  obtain ⟨t, b', off', ht, ea', j0, j1, hc', etv, hrow'⟩ := h.get hj
  rw [ea] at ea'
  cases ea'
  have hb : (Value.slice a len cap).ownBlock = some b := by rw [ea]; rfl
  refine ⟨b, off, S, s, t, ea, i0, i1, j0, j1, hc, hc', esv, etv, (h.lt.1 b hb).1, h1 b hb, h.own, hs, ht, fun w0 w1 w' k c1 c2 ho => ?_⟩
  refine ⟨_, (h.ext k).swap hs ht hi hj c1 c2 hb ho, h1, fun p x hx => ?_⟩
  rw [rset2 hs ht] at hx
  exact h2 _ x hx
end

section
variable {P : Program} {Q : Exit → Act → World → Prop} {n : Nat} {L : Fr} {D : List Deferred} {w : World} {ops : Array Oper} {rest : List Oper} {ty : TypeId} {pos : String} {af : Array Edge} {x y : Operand}
/-- A store into the first part of an element, a number, of a row of the call's own. -/
theorem sstr0 {β : Type} [Enc β] [Flat β] {l : List (Int × β)} {i : Int} {y0 : Int × β} {v : Int} {t e : TypeId} {b off len cap base bytes : Nat} {z : List Value} (hp : ev n L x = .pointer (some ⟨b, off + i.toNat * Enc.n (Int × β), none⟩)) (hy : ev n L y = .int .i64 v)
    (ht : TI P t false 1 bytes z) (hr : Row e base w (.slice (some ⟨b, off, none⟩) len cap) l) (hi : Md.ix l i = some y0)
    (k : ∀ w', Chg b w w' → Row e base w' (.slice (some ⟨b, off, none⟩) len cap) (rset l i (v, y0.2)) → wpList P ops Q rest (act n L D) w') :
    wpList P ops Q ({ dst := none, op := .store t x y, type := ty, pos := pos, after := af, guard := none } :: rest) (act n L D) w := by
  obtain ⟨h0, h1, h2⟩ := ix_spec hi
  have hil : i.toNat < l.length := (List.getElem?_eq_some_iff.1 h2).1
  have hlen := hr.1
  have hn : Enc.n (Int × β) = 1 + Enc.n β := rfl
  rcases hr.2 with ⟨hn, _⟩ | ⟨g, cap', cur, e1, hb, hg, hnc, hcm, hsz, hcur⟩
  · cases hn
  · cases e1
    have hle := Nat.mul_le_mul_right (Enc.n (Int × β)) (show i.toNat + 1 ≤ l.length from hil)
    have hle2 := Nat.mul_le_mul_right (Enc.n (Int × β)) hnc
    rw [Nat.add_mul, Nat.one_mul] at hle
    have hcl : cur.toList.length = cap * Enc.n (Int × β) := by simpa using hsz
    have hg' : Bx w b e cur.toList := by simpa [Bx] using hg
    have hxl : (l.flatMap Flat.enc).length = l.length * Enc.n (Int × β) := Flat.flen l
    refine sst (vs := [.int .i64 v]) hp hy rfl ht hg' rfl (by simp [Value.oneCell']) (by rw [hcl]; simp only [List.length_singleton]; omega) fun w' hc hb' => k w' hc ?_
    refine ⟨Flat.flen _, .inr ⟨b, cap, _, by rw [rset, List.length_set], hb, hb', by rw [rset, List.length_set]; exact hnc, hcm, ?_, ?_⟩⟩
    · simp only [splice, List.size_toArray, List.length_append, List.length_take, List.length_drop, List.length_singleton]
      omega
    · rw [rset, List.length_set, ← splice_set l i.toNat (v, y0.2) hil]
      apply List.ext_getElem?
      intro j
      have hfe : (Flat.enc (v, y0.2) : List Value) = .int .i64 v :: Flat.enc y0.2 := rfl
      have hfl : (Flat.enc (v, y0.2) : List Value).length = Enc.n (Int × β) := Flat.len _
      rw [show (splice cur.toList (0 + i.toNat * Enc.n (Int × β)) [.int .i64 v]).toArray.toList = splice cur.toList (0 + i.toNat * Enc.n (Int × β)) [.int .i64 v] from rfl, List.getElem?_take, splice_get (by rw [hcl]; simp only [List.length_singleton]; omega), splice_get (by rw [hfl, hxl]; omega)]
      rw [hfl]
      simp only [Nat.zero_add, List.length_singleton]
      by_cases hj : j < l.length * Enc.n (Int × β)
      · rw [if_pos hj]
        by_cases h1' : i.toNat * Enc.n (Int × β) ≤ j ∧ j < i.toNat * Enc.n (Int × β) + Enc.n (Int × β)
        · rw [if_pos h1', hfe]
          by_cases h3 : j < i.toNat * Enc.n (Int × β) + 1
          · rw [if_pos ⟨h1'.1, h3⟩]
            have : j - i.toNat * Enc.n (Int × β) = 0 := by omega
            rw [this]; rfl
          · rw [if_neg (by omega)]
            obtain ⟨d, hd⟩ : ∃ d, j - i.toNat * Enc.n (Int × β) = d + 1 := ⟨j - i.toNat * Enc.n (Int × β) - 1, by omega⟩
            have hy0 : (Flat.enc y0 : List Value) = .int .i64 y0.1 :: Flat.enc y0.2 := rfl
            have hc0 : (Flat.enc y0 : List Value)[d + 1]? = (Flat.enc y0.2 : List Value)[d]? := by rw [hy0]; rfl
            rw [hd]
            have hlt : d < (Flat.enc y0.2 : List Value).length := by rw [Flat.len]; omega
            have := flat_at l i.toNat y0 (d + 1) _ h2 (hc0.trans (List.getElem?_eq_getElem hlt))
            rw [show i.toNat * Enc.n (Int × β) + (d + 1) = j by omega, ← hcur, List.getElem?_take, if_pos hj] at this
            rw [this, List.getElem?_cons_succ, List.getElem?_eq_getElem hlt]
        · rw [if_neg h1', if_neg (by omega), ← hcur, List.getElem?_take, if_pos hj]
      · rw [if_neg hj, if_neg (by omega), ← hcur, List.getElem?_take, if_neg hj]
end
end Go.Md
