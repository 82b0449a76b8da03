/-
  What the definitions' cheapest costs are, in plain words. Condition: there are enough rounds.
-/
import Derived.Test.YthppacohnciinaaSpecJ
import Derived.Test.YthppacohnciinaaPureG
namespace Go.Proofs.Ythppacohnciinaa
open Go Go.Md Go.RowKit
open FW (Mx up1 rowF phF fwF nw Rg In Ok So)

/-- The numbers from k to n - 1. -/
def nums (k n : Nat) : List Int := (List.range' k (n - k)).map fun j : Nat => (j : Int)
theorem nums_cons {k n : Nat} (h : k < n) : nums k n = (k : Int) :: nums (k + 1) n := by
  unfold nums
  have e : n - k = (n - (k + 1)) + 1 := by omega
  rw [e, List.range'_succ]
  rfl
theorem nums_nil {n : Nat} : nums n n = [] := by simp [nums]
theorem nums_mem {n : Nat} {i : Int} : i ∈ nums 0 n ↔ In n i := by
  unfold nums In
  simp only [List.mem_map, Nat.sub_zero]
  constructor
  · rintro ⟨j, hj, rfl⟩
    have := List.mem_range'_1.1 hj
    omega
  · rintro ⟨h1, h2⟩
    exact ⟨i.toNat, List.mem_range'_1.2 ⟨by omega, by omega⟩, by omega⟩
theorem nums_nodup {n : Nat} : (nums 0 n).Nodup := by
  unfold nums
  exact (List.nodup_range').map _ (fun a b h e => h (by omega))

structure RepM (n : Nat) (M : List (List Int)) (g : Mx) : Prop where
  len : M.length = n
  row : ∀ i : Nat, i < n → ∃ r, M[i]? = some r ∧ r.length = n ∧ ∀ k : Nat, k < n → r[k]? = some (g i k)
theorem RepM.ext {n : Nat} {M : List (List Int)} {g g' : Mx} (h : RepM n M g) (e : ∀ i k : Nat, i < n → k < n → g i k = g' i k) : RepM n M g' :=
  ⟨h.len, fun i hi => by
    obtain ⟨r, h1, h2, h3⟩ := h.row i hi
    exact ⟨r, h1, h2, fun k hk => by rw [h3 k hk, e i k hi hk]⟩⟩
theorem RepM.at {n : Nat} {M : List (List Int)} {g : Mx} (h : RepM n M g) {i : Int} (i0 : 0 ≤ i) (i1 : i < n) : ∃ r, ix M i = some r ∧ r.length = n ∧ ∀ k : Int, 0 ≤ k → k < n → ix r k = some (g i k) := by
  obtain ⟨r, h1, h2, h3⟩ := h.row i.toNat (by omega)
  refine ⟨r, by unfold ix; rw [if_pos i0]; exact h1, h2, fun k k0 k1 => ?_⟩
  unfold ix
  rw [if_pos k0, h3 k.toNat (by omega)]
  have e1 : ((i.toNat : Nat) : Int) = i := by omega
  have e2 : ((k.toNat : Nat) : Int) = k := by omega
  rw [e1, e2]
theorem RepM.set {n : Nat} {M : List (List Int)} {g : Mx} (h : RepM n M g) {i k v : Int} (i0 : 0 ≤ i) (i1 : i < n) (k0 : 0 ≤ k) (k1 : k < n) {r : List Int} (hr : ix M i = some r) : RepM n (rset M i (rset r k v)) (fun a b => if a = i ∧ b = k then v else g a b) := by
  have e1 : ((i.toNat : Nat) : Int) = i := by omega
  have e2 : ((k.toNat : Nat) : Int) = k := by omega
  obtain ⟨r', h1, h2, h3⟩ := h.row i.toNat (by omega)
  have er : r' = r := by
    unfold ix at hr
    rw [if_pos i0, h1] at hr
    exact Option.some.inj hr
  subst er
  refine ⟨by unfold rset; rw [List.length_set]; exact h.len, fun a ha => ?_⟩
  have hl := h.len
  by_cases hai : i.toNat = a
  · subst hai
    refine ⟨rset r' k v, by unfold rset; rw [List.getElem?_set, if_pos rfl, if_pos (by omega)], by unfold rset; rw [List.length_set]; exact h2, fun b hb => ?_⟩
    unfold rset
    rw [List.getElem?_set]
    by_cases hbk : k.toNat = b
    · subst hbk
      rw [if_pos rfl, if_pos (by omega), if_pos ⟨e1, e2⟩]
    · rw [if_neg hbk, h3 b hb, if_neg (by omega)]
  · obtain ⟨q, q1, q2, q3⟩ := h.row a ha
    refine ⟨q, by unfold rset; rw [List.getElem?_set, if_neg hai]; exact q1, q2, fun b hb => ?_⟩
    rw [q3 b hb, if_neg (by omega)]

section
variable {n : Nat} {F : Nat}
theorem far_l2 (hn : n ≤ 21) : ∀ (m k : Nat), k ≤ n → n - k < m → ref01_Far_l2 n m (List.replicate k FW.NV) (k : Int) = some (List.replicate n FW.NV)
  | 0, k, _, h => by omega
  | m + 1, k, hk, h => by
    unfold ref01_Far_l2
    by_cases hlt : k < n
    · rw [if_pos (by simpa using hlt), app_some (by simp only [List.length_replicate, List.length_cons, List.length_nil]; omega)]
      simp only [Option.bind_eq_bind, Option.bind_some]
      have e : List.replicate k FW.NV ++ [1099511627776] = List.replicate (k + 1) FW.NV := by rw [List.replicate_succ']; rfl
      rw [e, w64_succ (by omega)]
      exact far_l2 hn m (k + 1) (by omega) (by omega)
    · have : k = n := by omega
      subst this
      rw [if_neg (by simp)]
def g0 : Mx := fun i k => if i = k then 0 else FW.NV
def row0 (n : Nat) (j : Nat) : List Int := rset (List.replicate n FW.NV) (j : Int) 0
theorem far_l1 (hn : n ≤ 21) (hF : 100 ≤ F) : ∀ (m k : Nat), k ≤ n → n - k < m → ref01_Far_l1 F n m ((List.range k).map (row0 n)) (k : Int) = some ((List.range n).map (row0 n))
  | 0, k, _, h => by omega
  | m + 1, k, hk, h => by
    unfold ref01_Far_l1
    by_cases hlt : k < n
    · have e2 := far_l2 hn F 0 (Nat.zero_le _) (by omega)
      simp only [List.replicate_zero, Int.natCast_zero] at e2
      rw [if_pos (by simpa using hlt), e2]
      simp only [Option.bind_eq_bind, Option.bind_some]
      rw [ix_nat (by simpa using hlt)]
      simp only [Option.bind_some]
      rw [app_some (by simp only [List.length_map, List.length_range, List.length_cons, List.length_nil]; omega)]
      simp only [Option.bind_some]
      have e : (List.range k).map (row0 n) ++ [rset (List.replicate n FW.NV) (k : Int) 0] = (List.range (k + 1)).map (row0 n) := by simp [List.range_succ, row0]
      rw [e, w64_succ (by omega)]
      exact far_l1 hn hF m (k + 1) (by omega) (by omega)
    · have : k = n := by omega
      subst this
      rw [if_neg (by simp)]
theorem rep0 : RepM n ((List.range n).map (row0 n)) g0 := by
  refine ⟨by simp, fun i hi => ⟨row0 n i, by simp [List.getElem?_range, hi], by simp [row0, rset], fun k hk => ?_⟩⟩
  unfold row0 rset g0
  rw [List.getElem?_set, Int.toNat_natCast]
  by_cases e : i = k
  · subst e
    rw [if_pos rfl, if_pos (by simpa using hi), if_pos rfl]
  · rw [if_neg e, if_neg (by omega), List.getElem?_replicate, if_pos hk]

/-- The rules are laid in. -/
def setR (g : Mx) (r : RR) : Mx := fun a b => if a = r.1 ∧ b = r.2.1 then (if r.2.2 < g r.1 r.2.1 then r.2.2 else g r.1 r.2.1) else g a b
theorem far_l3 {all : List RR} {T : Int} (hT : T + 1 = n) (hall : ∀ r ∈ all, OKr T r) (hlen : all.length ≤ 100) : ∀ (m k : Nat) (M : List (List Int)) (g : Mx), k ≤ all.length → all.length - k < m → RepM n M g →
    ∃ M', ref01_Far_l3 all m M (k : Int) = some M' ∧ RepM n M' ((all.drop k).foldl setR g)
  | 0, k, _, _, _, h, _ => by omega
  | m + 1, k, M, g, hk, h, hr => by
    unfold ref01_Far_l3
    by_cases hlt : k < all.length
    · have hd : all.drop k = all[k] :: all.drop (k + 1) := List.drop_eq_getElem_cons hlt
      obtain ⟨o1, o2, o3, o4, _⟩ := hall _ (List.getElem_mem hlt)
      obtain ⟨row, r1, r2, r3⟩ := hr.at o1 (show all[k].1 < (n : Int) by omega)
      rw [if_pos (by simpa using hlt), ix_nat hlt]
      simp only [Option.bind_eq_bind, Option.bind_some]
      rw [r1]
      simp only [Option.bind_some]
      rw [r3 all[k].2.1 o3 (by omega)]
      simp only [Option.bind_some]
      rw [w64_succ (by omega), hd, List.foldl_cons]
      exact far_l3 hT hall hlen m (k + 1) _ _ (by omega) (by omega) (hr.set o1 (by omega) o3 (by omega) r1)
    · rw [if_neg (by simpa using hlt), List.drop_of_length_le (by omega)]
      exact ⟨M, rfl, hr⟩

/-! ### The phases -/
theorem far_l6 {h i : Int} (h0 : 0 ≤ h) (h1 : h < n) (i0 : 0 ≤ i) (i1 : i < n) (hn : n ≤ 21) : ∀ (m k : Nat) (M : List (List Int)) (g : Mx), k ≤ n → n - k < m → RepM n M g → Rg g →
    ∃ M', ref01_Far_l6 n h i m M (k : Int) = some M' ∧ RepM n M' (rowF h i (nums k n) g)
  | 0, k, _, _, _, hm, _, _ => by omega
  | m + 1, k, M, g, hk, hm, hr, hg => by
    unfold ref01_Far_l6
    by_cases hlt : k < n
    · obtain ⟨ri, a1, _, a3⟩ := hr.at i0 i1
      obtain ⟨rh, b1, _, b3⟩ := hr.at h0 h1
      have hg' := (FW.up1_le hg h i (k : Int)).1
      have nx := fun (M' : List (List Int)) (hr' : RepM n M' (up1 h i (k : Int) g)) => far_l6 h0 h1 i0 i1 hn m (k + 1) M' _ (by omega) (by omega) hr' hg'
      have same : ∀ (e : nw g h i (k : Int) = g i (k : Int)), RepM n M (up1 h i (k : Int) g) := fun e => hr.ext fun a b ha hb => by
        unfold up1
        split
        · rename_i hab; rw [e, hab.1, hab.2]
        · rfl
      rw [if_pos (by simpa using hlt), a1]
      simp only [Option.bind_eq_bind, Option.bind_some]
      rw [a3 h h0 h1, nums_cons hlt]
      simp only [Option.bind_some]
      show ∃ M', _ ∧ RepM n M' (rowF h i (nums (k + 1) n) (up1 h i (k : Int) g))
      by_cases c1 : g i h < FW.NV
      · rw [if_pos (by simpa [FW.NV] using c1), b1]
        simp only [Option.bind_some]
        rw [b3 (k : Int) (by omega) (by omega)]
        simp only [Option.bind_some]
        by_cases c2 : g h (k : Int) < FW.NV
        · rw [if_pos (by simpa [FW.NV] using c2), a3 (k : Int) (by omega) (by omega)]
          simp only [Option.bind_some]
          have e1 := hg i h
          have e2 := hg h (k : Int)
          rw [w64_succ (by omega), w64_in (by unfold FW.NV at e1 e2; omega)]
          refine nx _ ?_
          have hs := hr.set (v := ref01_Far_mm (g i (k : Int)) (g i h + g h (k : Int))) i0 i1 (show (0 : Int) ≤ (k : Int) by omega) (by omega) a1
          refine hs.ext fun a b ha hb => ?_
          unfold up1 nw
          split
          · rw [if_pos ⟨c1, c2⟩]; rfl
          · rfl
        · rw [if_neg (by simpa [FW.NV] using c2), w64_succ (by omega)]
          exact nx _ (same (by unfold nw; rw [if_neg (fun hc => c2 hc.2)]))
      · rw [if_neg (by simpa [FW.NV] using c1), w64_succ (by omega)]
        exact nx _ (same (by unfold nw; rw [if_neg (fun hc => c1 hc.1)]))
    · have : k = n := by omega
      subst this
      rw [if_neg (by simp), nums_nil]
      exact ⟨M, rfl, hr⟩
theorem far_l5 {h : Int} (h0 : 0 ≤ h) (h1 : h < n) (hn : n ≤ 21) (hF : 100 ≤ F) : ∀ (m k : Nat) (M : List (List Int)) (g : Mx), k ≤ n → n - k < m → RepM n M g → Rg g →
    ∃ M', ref01_Far_l5 F n h m M (k : Int) = some M' ∧ RepM n M' (phF h (nums 0 n) (nums k n) g)
  | 0, k, _, _, _, hm, _, _ => by omega
  | m + 1, k, M, g, hk, hm, hr, hg => by
    unfold ref01_Far_l5
    by_cases hlt : k < n
    · obtain ⟨M1, e1, r1⟩ := far_l6 h0 h1 (i := (k : Int)) (by omega) (by omega) hn F 0 M g (Nat.zero_le _) (by omega) hr hg
      rw [if_pos (by simpa using hlt), show (0 : Int) = ((0 : Nat) : Int) from rfl, e1]
      simp only [Option.bind_eq_bind, Option.bind_some]
      rw [w64_succ (by omega), nums_cons hlt]
      exact far_l5 h0 h1 hn hF m (k + 1) M1 _ (by omega) (by omega) r1 (FW.rowF_le _ hg).1
    · have : k = n := by omega
      subst this
      rw [if_neg (by simp), nums_nil]
      exact ⟨M, rfl, hr⟩
theorem far_l4 (hn : n ≤ 21) (hF : 100 ≤ F) : ∀ (m k : Nat) (M : List (List Int)) (g : Mx), k ≤ n → n - k < m → RepM n M g → Rg g →
    ∃ M', ref01_Far_l4 F n m M (k : Int) = some M' ∧ RepM n M' (fwF (nums 0 n) (nums k n) g)
  | 0, k, _, _, _, hm, _, _ => by omega
  | m + 1, k, M, g, hk, hm, hr, hg => by
    unfold ref01_Far_l4
    by_cases hlt : k < n
    · obtain ⟨M1, e1, r1⟩ := far_l5 (h := (k : Int)) (by omega) (by omega) hn hF F 0 M g (Nat.zero_le _) (by omega) hr hg
      rw [if_pos (by simpa using hlt), show (0 : Int) = ((0 : Nat) : Int) from rfl, e1]
      simp only [Option.bind_eq_bind, Option.bind_some]
      rw [w64_succ (by omega), nums_cons hlt]
      exact far_l4 hn hF m (k + 1) M1 _ (by omega) (by omega) r1 (FW.phF_le _ _ hg).1
    · have : k = n := by omega
      subst this
      rw [if_neg (by simp), nums_nil]
      exact ⟨M, rfl, hr⟩
end

/-! ### What stands at the end -/
section
variable {x : Int × List RR} {F : Nat}
theorem setR_all {T : Int} {all : List RR} (hall : ∀ r ∈ all, OKr T r) : ∀ (l : List RR) (g : Mx), (∀ r ∈ l, r ∈ all) → (Rg g ∧ (∀ i, g i i = 0) ∧ (∀ i k, g i k = FW.NV ∨ (-100000 ≤ g i k ∧ g i k ≤ 100000)) ∧ ∀ i k, g i k = FW.NV ∨ PC all i k (g i k)) →
    (Rg (l.foldl setR g) ∧ (∀ i, l.foldl setR g i i = 0) ∧ (∀ i k, l.foldl setR g i k = FW.NV ∨ (-100000 ≤ l.foldl setR g i k ∧ l.foldl setR g i k ≤ 100000)) ∧ ∀ i k, l.foldl setR g i k = FW.NV ∨ PC all i k (l.foldl setR g i k)) ∧
      (∀ i k, l.foldl setR g i k ≤ g i k) ∧ ∀ r ∈ l, l.foldl setR g r.1 r.2.1 ≤ r.2.2
  | [], g, _, h => ⟨h, fun _ _ => Int.le_refl _, by simp⟩
  | r :: l, g, hl, ⟨h1, h2, h3, h4⟩ => by
    obtain ⟨o1, o2, o3, o4, o5, o6, o7⟩ := hall r (hl r (by simp))
    have hb := h3 r.1 r.2.1
    have hle : ∀ i k, setR g r i k ≤ g i k := fun i k => by
      unfold setR
      split
      · rename_i e
        rw [e.1, e.2]
        split <;> omega
      · exact Int.le_refl _
    have hn : Rg (setR g r) ∧ (∀ i, setR g r i i = 0) ∧ (∀ i k, setR g r i k = FW.NV ∨ (-100000 ≤ setR g r i k ∧ setR g r i k ≤ 100000)) ∧ ∀ i k, setR g r i k = FW.NV ∨ PC all i k (setR g r i k) := by
      refine ⟨fun i k => ?_, fun i => ?_, fun i k => ?_, fun i k => ?_⟩
      · have := h1 r.1 r.2.1
        have := h1 i k
        unfold setR
        split
        · split
          · unfold FW.NV; omega
          · assumption
        · assumption
      · unfold setR
        rw [if_neg (by omega)]
        exact h2 i
      · unfold setR
        split
        · split
          · exact .inr ⟨o6, o7⟩
          · exact hb
        · exact h3 i k
      · unfold setR
        split
        · rename_i e
          rw [e.1, e.2]
          split
          · exact .inr (PC.one (hl r (by simp)))
          · exact h4 r.1 r.2.1
        · exact h4 i k
    obtain ⟨q1, q2, q3⟩ := setR_all hall l (setR g r) (fun q hq => hl q (by simp [hq])) hn
    refine ⟨q1, fun i k => Int.le_trans (q2 i k) (hle i k), fun q hq => ?_⟩
    rcases List.mem_cons.1 hq with rfl | hq
    · refine Int.le_trans (q2 _ _) ?_
      unfold setR
      rw [if_pos ⟨rfl, rfl⟩]
      split <;> omega
    · exact q3 q hq

/-- The definitions' matrix. -/
theorem far_eq (hx : csheet x = 0) (hF : 1000 ≤ F) : ∃ M g, ref01_Far F x = some M ∧ RepM (nn x) M g ∧ ((Pot x ∧ ∀ i k, 0 ≤ i → i ≤ x.1 → 0 ≤ k → k ≤ x.1 → g i k = D x i k) ∨ (¬ Pot x ∧ ∃ i, 0 ≤ i ∧ i ≤ x.1 ∧ g i i < 0)) := by
  obtain ⟨h1, h2, h3, _⟩ := csheet_ok hx
  have hn : ((nn x : Nat) : Int) = x.1 + 1 := by unfold nn; omega
  have hn21 : nn x ≤ 21 := by omega
  have e1 := far_l1 (n := nn x) (F := F) hn21 (by omega) F 0 (Nat.zero_le _) (by omega)
  simp only [List.range_zero, List.map_nil, Int.natCast_zero] at e1
  have hlen := whole_len hx
  obtain ⟨M2, e2, r2⟩ := far_l3 (n := nn x) (all := whole x) (T := x.1) (by omega) (whole_ok hx) hlen F 0 _ _ (Nat.zero_le _) (by omega) (rep0 (n := nn x))
  rw [List.drop_zero] at r2
  generalize hg1 : (whole x).foldl setR g0 = g1 at r2
  have hinit : Rg g0 ∧ (∀ i, g0 i i = 0) ∧ (∀ i k, g0 i k = FW.NV ∨ (-100000 ≤ g0 i k ∧ g0 i k ≤ 100000)) ∧ ∀ i k, g0 i k = FW.NV ∨ PC (whole x) i k (g0 i k) := by
    refine ⟨fun i k => ?_, fun i => by simp [g0], fun i k => ?_, fun i k => ?_⟩
    · unfold g0
      split <;> unfold FW.NV <;> omega
    · unfold g0
      split
      · exact .inr ⟨by omega, by omega⟩
      · exact .inl rfl
    · unfold g0
      split
      · rename_i e; subst e; exact .inr .nil
      · exact .inl rfl
  obtain ⟨⟨a1, a2, a3, a4⟩, _, a5⟩ := setR_all (whole_ok hx) (whole x) g0 (fun r hr => hr) hinit
  rw [hg1] at a1 a2 a3 a4 a5
  obtain ⟨M3, e3, r3⟩ := far_l4 (n := nn x) (F := F) hn21 (by omega) F 0 M2 g1 (Nat.zero_le _) (by omega) r2 a1
  refine ⟨M3, _, ?_, r3, ?_⟩
  · unfold ref01_Far
    rw [w64_in (by omega), ← hn, e1]
    simp only [Option.bind_eq_bind, Option.bind_some]
    rw [all_eq (x := (x.1, x.2)) (by omega) (by simp; omega) h3 h1]
    simp only [Option.bind_some]
    have ew : whole (x.1, x.2) = whole x := rfl
    rw [ew, show (0 : Int) = ((0 : Nat) : Int) from rfl, e2]
    simp only [Option.bind_some]
    exact e3
  · generalize hG : fwF (nums 0 (nn x)) (nums 0 (nn x)) g1 = G
    have hIn : ∀ i, In (nn x) i ↔ (0 ≤ i ∧ i ≤ x.1) := fun i => by unfold In; omega
    have sound : Pot x → So x G := fun hP => by
      rw [← hG]
      exact So.all hx hP (fun i hi => (hIn i).1 (nums_mem.1 hi)) fun i k _ _ => a4 i k
    by_cases hd : ∀ i, 0 ≤ i → i ≤ x.1 → 0 ≤ G i i
    · left
      have hok : Ok (whole x) (nn x) 0 (100000 * 2 ^ 0) g1 := by
        refine ⟨a1, fun i _ => a2 i, fun i k _ _ => by simpa using a3 i k, fun a t c ha ht hp => ?_, fun i k _ _ => a4 i k⟩
        have key : ∀ {t c}, FW.PI (whole x) 0 a t c → ∃ r ∈ whole x, r.1 = a ∧ r.2.1 = t ∧ r.2.2 = c := by
          intro t c hp
          cases hp with
          | one hr ha => exact ⟨_, hr, ha, rfl, rfl⟩
          | snoc h hu hr he =>
            exfalso
            rename_i u c' r'
            have : 0 ≤ u := by rw [← he]; exact (whole_ok hx _ hr).1
            omega
        obtain ⟨r, hr, rfl, rfl, rfl⟩ := key hp
        have := a5 r hr
        have := (whole_ok hx r hr).2.2.2.2.2.2
        unfold FW.NV
        omega
      have hl : (nums 0 (nn x)).length = nn x := by simp [nums]
      have hfin := Ok.go (R := whole x) (n := (nn x : Int)) (ns := nums 0 (nn x)) nums_nodup (fun i => nums_mem) (by omega) (nums 0 (nn x)) 0 g1 (by rw [hl]; rfl) (by rw [hl]; simp) hok (fun i hi => by
        rw [hG]
        have := (hIn i).1 hi
        exact hd i this.1 this.2)
      rw [hG] at hfin
      have least : ∀ i k c, 0 ≤ i → i ≤ x.1 → 0 ≤ k → k ≤ x.1 → PC (whole x) i k c → G i k ≤ c ∧ G i k < FW.NV := fun i k c i0 i1 k0 k1 hp => by
        rcases FW.PI.of_pc (n := (nn x : Int)) (fun r hr => by have := (whole_ok hx r hr).2.2.2.1; omega) hp with ⟨rfl, rfl⟩ | hp
        · have := hfin.dg k ((hIn k).2 ⟨k0, k1⟩)
          rw [this]
          unfold FW.NV
          omega
        · exact hfin.un i k c ((hIn i).2 ⟨i0, i1⟩) ((hIn k).2 ⟨k0, k1⟩) hp
      have some_ : ∀ i k, 0 ≤ i → i ≤ x.1 → 0 ≤ k → k ≤ x.1 → PC (whole x) i k (G i k) := fun i k i0 i1 k0 k1 => by
        obtain ⟨c, hc, _⟩ := PC.any (x := x) i0 i1 k0 k1
        have := (least i k c i0 i1 k0 k1 hc).2
        rcases hfin.so i k ((hIn i).2 ⟨i0, i1⟩) ((hIn k).2 ⟨k0, k1⟩) with s | s
        · omega
        · exact s
      refine ⟨⟨fun t => G 0 t, fun r hr => ?_⟩, fun i k i0 i1 k0 k1 => ?_⟩
      · have hokr := whole_ok hx r hr
        exact (least 0 r.2.1 _ (by omega) (by omega) hokr.2.2.1 hokr.2.2.2.1 (.snoc (some_ 0 r.1 (by omega) (by omega) hokr.1 hokr.2.1) hr rfl)).1
      · exact (D_of ⟨some_ i k i0 i1 k0 k1, fun c hc => (least i k c i0 i1 k0 k1 hc).1⟩).symm
    · right
      have hex : ∃ i, 0 ≤ i ∧ i ≤ x.1 ∧ G i i < 0 := by
        apply Classical.byContradiction
        intro hno
        exact hd fun i i0 i1 => by
          apply Classical.byContradiction
          intro hlt
          exact hno ⟨i, i0, i1, by omega⟩
      refine ⟨fun hP => ?_, hex⟩
      obtain ⟨i, i0, i1, hlt⟩ := hex
      rcases sound hP i i ⟨i0, i1⟩ ⟨i0, i1⟩ with s | s
      · rw [s] at hlt; unfold FW.NV at hlt; omega
      · have := s.loop hP
        omega
end
end Go.Proofs.Ythppacohnciinaa
