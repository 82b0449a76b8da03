/-
  Rows of rows of the call's own, written in place. No condition: lemmas about the model.
-/
import Derived.Test.YtboefnpnoojfpaaIter
namespace Go.Md
open Go Go.RowKit

/-- A region by a plan, where what lies below B is kept. -/
theorem wplB {P : Program} {Q : Exit → Act → World → Prop} {n : Nat} {L : Fr} {D : List Deferred} {w : World} {B : Nat} {id : Nat} {l : List Oper} (T : List Nat) (p : Plan) (hm : P.follows .mixedOrders = true)
    (hok : (Region.noSelect l.toArray && p.ok l.toArray T false l.length (Array.replicate l.length false)) = true)
    (h : ∀ wd, Ext w wd → p.wp P l.toArray (fun w' => Below B wd w') T (Q .normal) false (act n L D) wd) : (Code.region id l.toArray true).wp P Q (act n L D) w :=
  wp_plan _ T p hm hok (h w.drew (Ext.drew w))

/-- A slice's value, taken as an element. -/
structure SV where
  a : Option Addr
  len : Nat
  cap : Nat
def SV.val (s : SV) : Value := .slice s.a s.len s.cap
instance : Enc SV where
  agg := false
  n := 1
  rep _ _ cs x := cs = [.slice x.a x.len x.cap]
  len h := by subst h; rfl
  one h := by subst h; simp [Value.oneCell']
  sgl _ := rfl
  keep _ _ h := h
  mono _ h := h
instance : Flat SV := ⟨fun x => [.slice x.a x.len x.cap], Iff.rfl⟩

/-- The slice v is the call's own, its elements are rows of the call's own, all in different blocks. -/
structure MatS (e0 e1 : TypeId) (base : Nat) (w : World) (v : Value) (S : List SV) (M : List (List Int)) : Prop where
  own : Row (α := SV) e0 base w v S
  len : S.length = M.length
  row : ∀ (i : Nat) (s : SV) (r : List Int), S[i]? = some s → M[i]? = some r → Row (α := Int) e1 base w s.val r
  dif : ∀ (i j : Nat) (s t : SV), i ≠ j → S[i]? = some s → S[j]? = some t → ∀ g, s.val.ownBlock = some g → t.val.ownBlock ≠ some g
  out : ∀ (i : Nat) (s : SV), S[i]? = some s → ∀ g, s.val.ownBlock = some g → v.ownBlock ≠ some g
def Mat (e0 e1 : TypeId) (base : Nat) (w : World) (v : Value) (M : List (List Int)) : Prop := ∃ S, MatS e0 e1 base w v S M

theorem Row.grn {α : Type} [Enc α] [Flat α] {e : TypeId} {base : Nat} {w w' : World} {v : Value} {l : List α} {row : Option Nat} (h : Row e base w v l) (g : w.grownBy w' row) (hb : ∀ q, v.ownBlock = some q → row ≠ some q) : Row e base w' v l := by
  refine ⟨h.1, ?_⟩
  rcases h.2 with hn | ⟨q, cap, cur, e1, hq, hh, r⟩
  · exact .inl hn
  · exact .inr ⟨q, cap, cur, e1, hq, (g.block q (Array.getElem?_eq_some_iff.1 hh).1 fun e2 => hb q (by rw [e1]; rfl) e2.symm).trans hh, r⟩

section
variable {e0 e1 : TypeId} {base : Nat} {w w' : World} {v : Value} {M : List (List Int)}
theorem Mat.nil : Mat e0 e1 base w (.slice none 0 0) [] := ⟨[], Row.nil, rfl, by simp, by simp, by simp⟩
theorem Mat.ext (h : Mat e0 e1 base w v M) (k : Ext w w') : Mat e0 e1 base w' v M := by
  obtain ⟨S, h⟩ := h
  exact ⟨S, h.own.ext k, h.len, fun i s r h1 h2 => (h.row i s r h1 h2).ext k, h.dif, h.out⟩
theorem Mat.sl (h : Mat e0 e1 base w v M) : ∃ a cap, v = .slice a M.length cap := by
  obtain ⟨S, h⟩ := h
  obtain ⟨a, cap, e, _⟩ := RV.sl h.own.rv
  exact ⟨a, cap, by rw [e, h.len]⟩
theorem Mat.rv (h : Mat e0 e1 base w v M) : RV w v M := by
  obtain ⟨S, h⟩ := h
  obtain ⟨a, cap, rfl, h1, h2, h3⟩ := RV.sl h.own.rv
  rw [h.len]
  refine RV.of1 (by rw [← h.len]; exact h1) h2 ?_
  rcases h3 with rfl | ⟨b, off, e, hb, hlt, h3⟩
  · left
    have := h.len
    simp at this
    exact List.eq_nil_of_length_eq_zero this.symm
  · refine .inr ⟨b, off, e, hb, hlt, fun i r hr => ?_⟩
    have hi : i < S.length := by rw [h.len]; exact (List.getElem?_eq_some_iff.1 hr).1
    have hs : S[i]? = some S[i] := List.getElem?_eq_getElem hi
    obtain ⟨cs, h4, h5⟩ := h3 i _ hs
    have hrow := h.row i _ r hs hr
    refine ⟨[S[i].val], RV.rep1 hrow.rv, ?_⟩
    have h4' : cs = [S[i].val] := h4
    rw [← h4']
    exact h5

/-- A row behind the others. -/
theorem MatS.snoc {S : List SV} {v' : Value} {s : SV} {r : List Int} {b2 : Nat} (h : MatS e0 e1 base w v S M) (hr : Row (α := Int) e1 b2 w s.val r) (hb : base ≤ b2) (hnew : ∀ (i : Nat) (t : SV), S[i]? = some t → ∀ g, t.val.ownBlock = some g → g < b2) (hv : ∀ g, v.ownBlock = some g → g < b2)
    (g : w.grownBy w' v.ownBlock) (ho : Row (α := SV) e0 base w' v' (S ++ [s])) (how : v'.ownBlock = v.ownBlock ∨ ∃ g, v'.ownBlock = some g ∧ w.heap.size ≤ g) : MatS e0 e1 base w' v' (S ++ [s]) (M ++ [r]) := by
  have hsb : ∀ g, s.val.ownBlock = some g → b2 ≤ g ∧ g < w.heap.size := fun g hg => hr.lt g hg
  have hout : ∀ x : Value, (∀ g, x.ownBlock = some g → g < w.heap.size ∧ v.ownBlock ≠ some g) → ∀ g, x.ownBlock = some g → v'.ownBlock ≠ some g := fun x hx g hg => by
    obtain ⟨h1, h2⟩ := hx g hg
    rcases how with h3 | ⟨q, h3, h4⟩
    · rw [h3]; exact h2
    · rw [h3]
      intro e
      cases e
      omega
  refine ⟨ho, by simp [h.len], fun i t q h1 h2 => ?_, fun i j x y hij h1 h2 gg hg => ?_, fun i t h1 => ?_⟩
  · rw [List.getElem?_append] at h1 h2
    rw [← h.len] at h2
    split at h1
    · rename_i hi
      rw [if_pos hi] at h2
      have := h.row i t q h1 h2
      exact this.grn g fun p hp => h.out i t h1 p hp
    · rename_i hi
      rw [if_neg hi] at h2
      have hi0 : i - S.length = 0 := by
        rcases Nat.eq_zero_or_pos (i - S.length) with h' | h'
        · exact h'
        · rw [List.getElem?_eq_none (by simp only [List.length_cons, List.length_nil]; omega)] at h1; cases h1
      rw [hi0] at h1 h2
      simp only [List.getElem?_cons_zero, Option.some.injEq] at h1 h2
      subst h1 h2
      refine (hr.grn g fun p hp => ?_).bnd hb
      intro e
      have := hv p e
      have := (hsb p hp).1
      omega
  · have hS : ∀ k z, (S ++ [s])[k]? = some z → (S[k]? = some z ∧ k < S.length) ∨ (z = s ∧ k = S.length) := fun k z hz => by
      rw [List.getElem?_append] at hz
      split at hz
      · rename_i hk; exact .inl ⟨hz, hk⟩
      · rename_i hk
        have hk0 : k - S.length = 0 := by
          rcases Nat.eq_zero_or_pos (k - S.length) with h' | h'
          · exact h'
          · rw [List.getElem?_eq_none (by simp only [List.length_cons, List.length_nil]; omega)] at hz; cases hz
        rw [hk0] at hz
        simp only [List.getElem?_cons_zero, Option.some.injEq] at hz
        exact .inr ⟨hz.symm, by omega⟩
    rcases hS i x h1 with ⟨a1, a2⟩ | ⟨a1, a2⟩ <;> rcases hS j y h2 with ⟨c1, c2⟩ | ⟨c1, c2⟩
    · exact h.dif i j x y hij a1 c1 gg hg
    · subst c1
      intro e
      have := hnew i x a1 gg hg
      have := (hsb gg e).1
      omega
    · subst a1
      intro e
      have := hnew j y c1 gg e
      have := (hsb gg hg).1
      omega
    · omega
  · rw [List.getElem?_append] at h1
    split at h1
    · refine hout t.val fun q hq => ⟨?_, h.out i t h1 q hq⟩
      rename_i hi
      have hM : M[i]? = some (M[i]'(by rw [← h.len]; exact hi)) := List.getElem?_eq_getElem _
      exact ((h.row i t _ h1 hM).lt q hq).2
    · rename_i hi
      have hi0 : i - S.length = 0 := by
        rcases Nat.eq_zero_or_pos (i - S.length) with h' | h'
        · exact h'
        · rw [List.getElem?_eq_none (by simp only [List.length_cons, List.length_nil]; omega)] at h1; cases h1
      rw [hi0] at h1
      simp only [List.getElem?_cons_zero, Option.some.injEq] at h1
      subst h1
      refine hout s.val fun q hq => ⟨(hsb q hq).2, fun e => ?_⟩
      have := hv q e
      have := (hsb q hq).1
      omega

/-- A row's value, where it lies. -/
theorem MatS.at {S : List SV} {a : Option Addr} {len cap : Nat} {i : Int} {r : List Int} (h : MatS e0 e1 base w (.slice a len cap) S M) (hi : ix M i = some r) :
    ∃ s b off, ix S i = some s ∧ a = some ⟨b, off, none⟩ ∧ 0 ≤ i ∧ i < len ∧ Cs w b (off + i.toNat * 1) [s.val] ∧ Row (α := Int) e1 base w s.val r := by
  obtain ⟨i0, i1, i2⟩ := ix_spec hi
  have hl := (RV.cap h.own.rv).1
  have his : i.toNat < S.length := by rw [h.len]; omega
  have hs : S[i.toNat]? = some S[i.toNat] := List.getElem?_eq_getElem his
  have hix : ix S i = some S[i.toNat] := by unfold ix; rw [if_pos i0, hs]
  obtain ⟨b, off, cs, e, _, h1, h2, h3⟩ := (RV.els h.own.rv).ix hix
  have h2' : cs = [S[i.toNat].val] := h2
  subst h2'
  exact ⟨_, b, off, hix, e, i0, by omega, h3, h.row i.toNat _ r hs i2⟩

/-- An element of a row is written. -/
theorem MatS.set {S : List SV} {i : Int} {s : SV} {r r' : List Int} {b : Nat} (h : MatS e0 e1 base w v S M) (hs : ix S i = some s) (hi : ix M i = some r) (c : Chg b w w') (hb : s.val.ownBlock = some b) (hr : Row (α := Int) e1 base w' s.val r') :
    MatS e0 e1 base w' v S (rset M i r') := by
  obtain ⟨i0, _, is⟩ := ix_spec hs
  refine ⟨h.own.chgn c fun e => ?_, by rw [rset, List.length_set]; exact h.len, fun j t q h1 h2 => ?_, h.dif, h.out⟩
  · exact h.out i.toNat s is b hb e.symm
  · unfold rset at h2
    rw [List.getElem?_set] at h2
    by_cases hj : i.toNat = j
    · subst hj
      rw [is] at h1
      cases h1
      split at h2
      · split at h2
        · cases h2; exact hr
        · cases h2
      · contradiction
    · rw [if_neg hj] at h2
      exact (h.row j t q h1 h2).chgn c fun e => h.dif j i.toNat t s (Ne.symm hj) h1 is b e.symm hb
end
end Go.Md
