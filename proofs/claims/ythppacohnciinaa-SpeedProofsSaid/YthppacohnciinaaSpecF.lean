/-
  What a way of rules costs, and whether rules are a circle, in plain words. Condition: there are enough rounds.
-/
import Derived.Test.YthppacohnciinaaSpecE
namespace Go.Proofs.Ythppacohnciinaa
open Go Go.Md Go.RowKit

abbrev RR := Int × Int × Int
def linkE : Int → Option Int → List RR → Int × Int
  | c, _, [] => (c, 0)
  | c, p, r :: rs => if p = none ∨ p = some r.1 then linkE (w64 (c + r.2.2)) (some r.2.1) rs else (0, 16)
theorem linkE_err : ∀ (rs : List RR) (c : Int) (p : Option Int), (linkE c p rs).2 ≠ 0 → linkE c p rs = (0, 16)
  | [], c, p, h => by simp [linkE] at h
  | r :: rs, c, p, h => by
    unfold linkE at h ⊢
    split
    · rename_i hp
      rw [if_pos hp] at h
      exact linkE_err rs _ _ h
    · rfl
theorem linkE_go {c : Int} {r : RR} {rs : List RR} : linkE c none (r :: rs) = linkE (w64 (c + r.2.2)) (some r.2.1) rs := by
  rw [linkE, if_pos (.inl rfl)]
theorem linkE_ok {c t : Int} {r : RR} {rs : List RR} (h : r.1 = t) : linkE c (some t) (r :: rs) = linkE (w64 (c + r.2.2)) (some r.2.1) rs := by
  rw [linkE, if_pos (.inr (by rw [h]))]
theorem linkE_no {c t : Int} {r : RR} {rs : List RR} (h : r.1 ≠ t) : linkE c (some t) (r :: rs) = (0, 16) := by
  rw [linkE, if_neg]
  simp only [reduceCtorEq, Option.some.injEq, false_or]
  exact fun e => h e.symm
theorem w64_succ {k : Nat} (h : k < 1000000) : w64 ((k : Int) + 1) = ((k + 1 : Nat) : Int) := by
  rw [w64_in (by omega)]
  rfl
def inAll (all : List RR) (way : List Int) : Bool := way.all fun i => decide (0 ≤ i) && decide (i < all.length)
def rsOf (all : List RR) (way : List Int) : List RR := way.map fun i => (ix all i).getD (0, 0, 0)
def chainS (all : List RR) (way : List Int) : Int × Int := if inAll all way = true then linkE 0 none (rsOf all way) else (0, 3)
def firstF (rs : List RR) : Int := match rs with | [] => 0 | r :: _ => r.1
def lastT (rs : List RR) : Int := match rs.getLast? with | none => 0 | some r => r.2.1

theorem firstF_get : ∀ {rs : List RR} (h : 0 < rs.length), firstF rs = (rs[0]).1
  | r :: rs, _ => rfl
theorem ix_in {all : List RR} {i : Int} (h0 : 0 ≤ i) (h1 : i < all.length) : ix all i = some ((ix all i).getD (0, 0, 0)) := by
  have e : i = (i.toNat : Int) := by omega
  rw [e, ix_nat (by omega)]
  rfl
theorem ix_rs {all : List RR} {way : List Int} (h : inAll all way = true) {k : Nat} (hk : k < way.length) : ix all way[k] = some ((rsOf all way)[k]'(by simpa [rsOf] using hk)) := by
  have := List.all_eq_true.1 h _ (List.getElem_mem hk)
  simp only [Bool.and_eq_true, decide_eq_true_eq] at this
  rw [ix_in this.1 this.2]
  simp [rsOf]

section
variable {F : Nat} {all : List RR} {way : List Int}
theorem chain_l1 (hl : way.length < 1000000) : ∀ (m k : Nat), k ≤ way.length → way.length - k < m →
    ref01_chain_l1 F way all m (k : Int) = some (if inAll all (way.drop k) = true then .inr () else .inl (0, 3))
  | 0, k, _, h => by omega
  | m + 1, k, hk, h => by
    unfold ref01_chain_l1
    by_cases hlt : k < way.length
    · rw [if_pos (by simpa using hlt), ix_nat hlt]
      have hd : way.drop k = way[k] :: way.drop (k + 1) := List.drop_eq_getElem_cons hlt
      have ih := chain_l1 hl m (k + 1) (by omega) (by omega)
      simp only [Option.bind_eq_bind, Option.bind_some]
      unfold inAll at ih ⊢
      rw [hd, List.all_cons]
      by_cases a1 : way[k] < 0
      · simp only [a1, decide_true, if_true, Option.bind_some]
        rw [if_neg]
        simp only [Bool.and_eq_true, decide_eq_true_eq, not_and]
        omega
      · simp only [a1, decide_false, Bool.false_eq_true, if_false, Option.bind_some]
        by_cases a2 : (all.length : Int) ≤ way[k]
        · simp only [a2, decide_true, if_true]
          rw [if_neg]
          simp only [Bool.and_eq_true, decide_eq_true_eq, not_and]
          omega
        · simp only [a2, decide_false, Bool.false_eq_true, if_false]
          rw [w64_in (by omega)]
          have : (decide (0 ≤ way[k]) && decide (way[k] < (all.length : Int))) = true := by simp; omega
          rw [this, Bool.true_and]
          exact ih
    · rw [if_neg (by simpa using hlt), List.drop_of_length_le (by omega)]
      rfl
def prevT (rs : List RR) (k : Nat) : Option Int := if k = 0 then none else rs[k - 1]?.map fun r => r.2.1
theorem chain_l2 (hin : inAll all way = true) (hl : way.length < 1000000) : ∀ (m k : Nat) (c : Int), k ≤ way.length → way.length - k < m →
    ref01_chain_l2 F way all m c (k : Int) = some (if (linkE c (prevT (rsOf all way) k) ((rsOf all way).drop k)).2 = 0 then .inr (linkE c (prevT (rsOf all way) k) ((rsOf all way).drop k)).1 else .inl (0, 16))
  | 0, k, _, _, h => by omega
  | m + 1, k, c, hk, h => by
    have hrl : (rsOf all way).length = way.length := by simp [rsOf]
    unfold ref01_chain_l2
    by_cases hlt : k < way.length
    · rw [if_pos (by simpa using hlt), ix_nat hlt]
      have hd : (rsOf all way).drop k = (rsOf all way)[k]'(by omega) :: (rsOf all way).drop (k + 1) := List.drop_eq_getElem_cons (by omega)
      have ih := chain_l2 hin hl m (k + 1) (w64 (c + ((rsOf all way)[k]'(by omega)).2.2)) (by omega) (by omega)
      have hp : prevT (rsOf all way) (k + 1) = some ((rsOf all way)[k]'(by omega)).2.1 := by
        unfold prevT
        rw [if_neg (by omega), Nat.add_sub_cancel, List.getElem?_eq_getElem (by omega)]
        rfl
      rw [hp] at ih
      simp only [Option.bind_eq_bind, Option.bind_some, ix_rs hin hlt]
      rw [hd, w64_succ (show k < 1000000 by omega)]
      by_cases h0 : k = 0
      · subst h0
        have ep : prevT (rsOf all way) 0 = none := rfl
        rw [if_neg (by simp), ep, linkE_go]
        simp only [Option.bind_some, Bool.false_eq_true, if_false]
        exact ih
      · rw [if_pos (by simp; omega), w64_in (by omega)]
        have e1 : ((k : Int) - 1) = ((k - 1 : Nat) : Int) := by omega
        rw [e1, ix_nat (show k - 1 < way.length by omega)]
        simp only [Option.bind_some, ix_rs hin (show k - 1 < way.length by omega)]
        have hp0 : prevT (rsOf all way) k = some ((rsOf all way)[k - 1]'(by omega)).2.1 := by
          unfold prevT
          rw [if_neg h0, List.getElem?_eq_getElem (by omega)]
          rfl
        rw [hp0]
        by_cases he : ((rsOf all way)[k]'(by omega)).1 = ((rsOf all way)[k - 1]'(by omega)).2.1
        · rw [if_neg (by simp [he]), linkE_ok he]
          exact ih
        · rw [if_pos (by simp [he]), linkE_no he]
          rfl
    · rw [if_neg (by simpa using hlt), List.drop_of_length_le (by omega)]
      simp [linkE]
theorem chain_eq {x : Int × List RR} (hx : csheet x = 0) (hF : 1000 ≤ F) (hl : way.length ≤ 100) : ref01_chain F x way = some (chainS (whole x) way) := by
  obtain ⟨h1, h2, h3, _⟩ := csheet_ok hx
  unfold ref01_chain chainS
  rw [all_eq (x := (x.1, x.2)) (by omega) (by simp; omega) h3 h1]
  simp only [Option.bind_eq_bind, Option.bind_some]
  have t1 := chain_l1 (F := F) (all := whole (x.1, x.2)) (way := way) (by omega) F 0 (Nat.zero_le _) (by omega)
  simp only [Int.natCast_zero, List.drop_zero] at t1
  rw [t1]
  have ew : whole (x.1, x.2) = whole x := rfl
  rw [ew]
  cases hin : inAll (whole x) way with
  | false => rfl
  | true =>
    rw [if_pos rfl, if_pos rfl]
    simp only [Option.bind_some]
    have t2 := chain_l2 (F := F) hin (by omega) F 0 0 (Nat.zero_le _) (by omega)
    simp only [Int.natCast_zero, List.drop_zero] at t2
    rw [t2]
    have e : prevT (rsOf (whole x) way) 0 = none := rfl
    rw [e]
    by_cases h0 : (linkE 0 none (rsOf (whole x) way)).2 = 0
    · rw [if_pos h0]
      show some ((linkE 0 none (rsOf (whole x) way)).1, (0 : Int)) = some (linkE 0 none (rsOf (whole x) way))
      conv => rhs; rw [← Prod.eta (linkE 0 none (rsOf (whole x) way))]
      rw [h0]
    · rw [if_neg h0, linkE_err _ _ _ h0]
      rfl

/-! ### The program's own -/
def lastR (rs : List RR) (k : Nat) : RR := if k = 0 then (0, 0, 0) else (rs[k - 1]?).getD (0, 0, 0)
def firstR (rs : List RR) (k : Nat) : RR := if k = 0 then (0, 0, 0) else (rs[0]?).getD (0, 0, 0)
theorem follow_l1 {x0 : (Int × List RR) × List RR} (hall : x0.2 = all) (hne : ∀ r ∈ all, r.1 ≠ r.2.1) (hin : inAll all way = true) (hl : way.length < 1000000) : ∀ (m k : Nat) (c : Int), k ≤ way.length → way.length - k < m →
    speed_net_follow_l1 F x0 way m c (k : Int) (firstR (rsOf all way) k) (lastR (rsOf all way) k) = some (if (linkE c (prevT (rsOf all way) k) ((rsOf all way).drop k)).2 = 0 then .inr ((linkE c (prevT (rsOf all way) k) ((rsOf all way).drop k)).1, firstR (rsOf all way) way.length, lastR (rsOf all way) way.length) else .inl (0, 0, 0, 16))
  | 0, k, _, _, h => by omega
  | m + 1, k, c, hk, h => by
    have hrl : (rsOf all way).length = way.length := by simp [rsOf]
    unfold speed_net_follow_l1
    by_cases hlt : k < way.length
    · rw [if_pos (by simpa using hlt), ix_nat hlt]
      have hd : (rsOf all way).drop k = (rsOf all way)[k]'(by omega) :: (rsOf all way).drop (k + 1) := List.drop_eq_getElem_cons (by omega)
      have ih := follow_l1 hall hne hin hl m (k + 1) (w64 (c + ((rsOf all way)[k]'(by omega)).2.2)) (by omega) (by omega)
      have hp : prevT (rsOf all way) (k + 1) = some ((rsOf all way)[k]'(by omega)).2.1 := by
        unfold prevT
        rw [if_neg (by omega), Nat.add_sub_cancel, List.getElem?_eq_getElem (by omega)]
        rfl
      have hlr : lastR (rsOf all way) (k + 1) = (rsOf all way)[k]'(by omega) := by
        unfold lastR
        rw [if_neg (by omega), Nat.add_sub_cancel, List.getElem?_eq_getElem (by omega)]
        rfl
      rw [hp, hlr] at ih
      simp only [Option.bind_eq_bind, Option.bind_some, hall, ix_rs hin hlt]
      rw [hd, w64_succ (show k < 1000000 by omega)]
      have hz : ∀ (j : Nat) (hj : j < way.length), (rsOf all way)[j]'(by omega) ≠ (0, 0, 0) := fun j hj e => by
        have h1 := ix_rs hin hj
        rw [e] at h1
        obtain ⟨_, _, h2⟩ := ix_spec h1
        exact hne _ (List.mem_of_getElem? h2) rfl
      by_cases h0 : k = 0
      · subst h0
        have e1 : firstR (rsOf all way) 0 = (0, 0, 0) := rfl
        have e2 : lastR (rsOf all way) 0 = (0, 0, 0) := rfl
        have e3 : firstR (rsOf all way) (0 + 1) = (rsOf all way)[0]'(by omega) := by
          unfold firstR
          rw [if_neg (by omega), List.getElem?_eq_getElem (by omega)]
          rfl
        rw [e3] at ih
        have ep : prevT (rsOf all way) 0 = none := rfl
        rw [e1, e2, ep, linkE_go, if_neg (by simp), if_pos (by simp)]
        simp only [Option.bind_some]
        exact ih
      · have hp0 : prevT (rsOf all way) k = some ((rsOf all way)[k - 1]'(by omega)).2.1 := by
          unfold prevT
          rw [if_neg h0, List.getElem?_eq_getElem (by omega)]
          rfl
        have e2 : lastR (rsOf all way) k = (rsOf all way)[k - 1]'(by omega) := by
          unfold lastR
          rw [if_neg h0, List.getElem?_eq_getElem (by omega)]
          rfl
        have e1 : firstR (rsOf all way) k = (rsOf all way)[0]'(by omega) := by
          unfold firstR
          rw [if_neg h0, List.getElem?_eq_getElem (by omega)]
          rfl
        have e3 : firstR (rsOf all way) (k + 1) = (rsOf all way)[0]'(by omega) := by
          unfold firstR
          rw [if_neg (by omega), List.getElem?_eq_getElem (by omega)]
          rfl
        rw [e3] at ih
        rw [hp0, e1, e2]
        have z1 := hz (k - 1) (by omega)
        have z0 := hz 0 (by omega)
        by_cases he : ((rsOf all way)[k]'(by omega)).1 = ((rsOf all way)[k - 1]'(by omega)).2.1
        · rw [if_neg (by simp [he]), linkE_ok he, if_neg (by rw [decide_eq_true_eq]; exact z0)]
          simp only [Option.bind_some]
          exact ih
        · rw [if_pos (by simp only [Bool.and_eq_true, Bool.not_eq_true', decide_eq_false_iff_not]; exact ⟨z1, he⟩), linkE_no he]
          rfl
    · have : k = way.length := by omega
      subst this
      rw [if_neg (by simp), List.drop_of_length_le (by omega)]
      simp [linkE]
/-- Where a way comes from, where it leads, what it costs, and the error. -/
def followS (all : List RR) (way : List Int) : Int × Int × Int × Int :=
  if inAll all way = true then (if (linkE 0 none (rsOf all way)).2 = 0 then (firstF (rsOf all way), lastT (rsOf all way), (linkE 0 none (rsOf all way)).1, 0) else (0, 0, 0, 16)) else (0, 0, 0, 3)
theorem follow_eq {x : Int × List RR} (hx : csheet x = 0) (hF : 1000 ≤ F) (hl : way.length ≤ 100) : speed_net_follow F ((x.1, x.2), whole x) way = some (followS (whole x) way) := by
  unfold speed_net_follow followS
  rw [con_int (f := fun y => speed_net_follow_1 y ⟨some ((x.1, x.2), whole x)⟩) (p := fun y => !(decide (0 ≤ y) && decide (y < (whole x).length))) (fun y _ => by
    unfold speed_net_follow_1
    simp only [Option.bind_eq_bind, Option.bind_some]
    by_cases h1 : y < 0 <;> by_cases h2 : ((whole x).length : Int) ≤ y <;> simp [h1, h2] <;> omega) (by omega) (by omega), any_not]
  simp only [Option.bind_eq_bind, Option.bind_some]
  show (if (!inAll (whole x) way) = true then _ else _) = _
  cases hin : inAll (whole x) way with
  | false => rfl
  | true =>
    rw [if_neg (by simp), if_pos rfl]
    have hne : ∀ r ∈ whole x, r.1 ≠ r.2.1 := fun r hr => (whole_ok hx r hr).2.2.2.2.1
    have t := follow_l1 (F := F) (x0 := ((x.1, x.2), whole x)) rfl hne hin (by omega) F 0 0 (Nat.zero_le _) (by omega)
    simp only [Int.natCast_zero, List.drop_zero] at t
    have e : prevT (rsOf (whole x) way) 0 = none := rfl
    rw [e] at t
    have e1 : firstR (rsOf (whole x) way) 0 = (0, 0, 0) := rfl
    have e2 : lastR (rsOf (whole x) way) 0 = (0, 0, 0) := rfl
    rw [e1, e2] at t
    rw [t]
    have hrl : (rsOf (whole x) way).length = way.length := by simp [rsOf]
    by_cases h0 : (linkE 0 none (rsOf (whole x) way)).2 = 0
    · rw [if_pos h0, if_pos h0]
      simp only [Option.bind_some, Option.some.injEq]
      congr 1
      · unfold firstR firstF
        cases hw : rsOf (whole x) way with
        | nil => rw [hw] at hrl; simp at hrl; simp [← hrl]
        | cons r rs => rw [hw] at hrl; simp at hrl; simp [← hrl]
      · congr 1
        unfold lastR lastT
        rw [List.getLast?_eq_getElem?]
        rw [hrl]
        by_cases h1 : way.length = 0
        · rw [if_pos h1]
          have : rsOf (whole x) way = [] := List.eq_nil_of_length_eq_zero (by omega)
          simp [this]
        · rw [if_neg h1, List.getElem?_eq_getElem (by omega)]
          rfl
    · rw [if_neg h0, if_neg h0]
      rfl

def ccircle (x : Int × List RR) (way : List Int) : Int :=
  if csheet x ≠ 0 then csheet x else if inR 1 60 way.length = true then
    (if (chainS (whole x) way).2 ≠ 0 then (chainS (whole x) way).2 else if firstF (rsOf (whole x) way) ≠ lastT (rsOf (whole x) way) then 16 else if 0 ≤ (chainS (whole x) way).1 then 14 else 0)
  else 6
theorem followS_err : (followS all way).2.2.2 = (chainS all way).2 ∧ ((chainS all way).2 = 0 → (followS all way).1 = firstF (rsOf all way) ∧ (followS all way).2.1 = lastT (rsOf all way) ∧ (followS all way).2.2.1 = (chainS all way).1) := by
  unfold followS chainS
  by_cases hin : inAll all way = true
  · rw [if_pos hin, if_pos hin]
    by_cases h0 : (linkE 0 none (rsOf all way)).2 = 0
    · rw [if_pos h0]
      exact ⟨h0.symm, fun _ => ⟨rfl, rfl, rfl⟩⟩
    · rw [if_neg h0]
      refine ⟨?_, fun h => (h0 h).elim⟩
      rw [linkE_err _ _ _ h0]
  · rw [if_neg hin, if_neg hin]
    exact ⟨rfl, fun h => by cases h⟩
section
variable {x : Int × List RR}
theorem cc1 (h : csheet x ≠ 0) : ccircle x way = csheet x := by unfold ccircle; rw [if_pos h]
theorem cc2 (h : csheet x = 0) (h4 : inR 1 60 way.length = false) : ccircle x way = 6 := by unfold ccircle; rw [if_neg (fun e => e h), if_neg (by rw [h4]; simp)]
theorem cc3 (h : csheet x = 0) (h4 : inR 1 60 way.length = true) (h5 : (chainS (whole x) way).2 ≠ 0) : ccircle x way = (chainS (whole x) way).2 := by
  unfold ccircle; rw [if_neg (fun e => e h), if_pos h4, if_pos h5]
theorem cc4 (h : csheet x = 0) (h4 : inR 1 60 way.length = true) (h5 : (chainS (whole x) way).2 = 0) (h6 : firstF (rsOf (whole x) way) ≠ lastT (rsOf (whole x) way)) : ccircle x way = 16 := by
  unfold ccircle; rw [if_neg (fun e => e h), if_pos h4, if_neg (fun e => e h5), if_pos h6]
theorem cc5 (h : csheet x = 0) (h4 : inR 1 60 way.length = true) (h5 : (chainS (whole x) way).2 = 0) (h6 : firstF (rsOf (whole x) way) = lastT (rsOf (whole x) way)) : ccircle x way = if 0 ≤ (chainS (whole x) way).1 then 14 else 0 := by
  unfold ccircle; rw [if_neg (fun e => e h), if_pos h4, if_neg (fun e => e h5), if_neg (fun e => e h6)]
theorem checkCircle_eq (hF : 1000 ≤ F) (hl : way.length < 1000000) : speed_CheckCircle F x way = some (ccircle x way) := by
  unfold speed_CheckCircle
  simp only [checkSheet_eq (show 100 < F by omega), Option.bind_eq_bind, Option.bind_some]
  by_cases h : csheet x = 0
  · obtain ⟨h1, h2, h3, _⟩ := csheet_ok h
    rw [if_neg (by simp [h]), turns_eq (by simp; omega) (by simp)]
    simp only [Option.bind_some, List.all_cons, List.all_nil, Bool.and_true]
    cases h4 : inR 1 60 way.length with
    | false => rw [cc2 h h4]; rfl
    | true =>
      have h4' := h4
      simp only [inR, Bool.and_eq_true, decide_eq_true_eq] at h4'
      have ew : whole (x.1, x.2) = whole x := rfl
      rw [if_neg (by simp), newNet_eq (x := (x.1, x.2)) (by omega) (by simp; omega) h3 h1, ew]
      simp only [Option.bind_some, follow_eq h hF (show way.length ≤ 100 by omega)]
      obtain ⟨e1, e2⟩ := followS_err (all := whole x) (way := way)
      rw [e1]
      by_cases h5 : (chainS (whole x) way).2 = 0
      · obtain ⟨a1, a2, a3⟩ := e2 h5
        rw [if_neg (by simp [h5]), a1, a2, a3]
        by_cases h6 : firstF (rsOf (whole x) way) = lastT (rsOf (whole x) way)
        · rw [if_neg (by simp [h6]), cc5 h h4 h5 h6]
          by_cases h7 : 0 ≤ (chainS (whole x) way).1
          · rw [if_pos (by simpa using h7), if_pos h7]
          · rw [if_neg (by simpa using h7), if_neg h7]
        · rw [if_pos (by simp [h6]), cc4 h h4 h5 h6]
      · rw [if_pos (by simp [h5]), cc3 h h4 h5]
  · rw [if_pos (by simp [h]), cc1 h]
theorem refCircle_eq (hF : 1000 ≤ F) (hl : way.length < 1000000) : ref01_CheckCircle F x way = some (ccircle x way) := by
  unfold ref01_CheckCircle
  simp only [refSheet_eq (show 100 < F by omega), Option.bind_eq_bind, Option.bind_some]
  by_cases h : csheet x = 0
  · obtain ⟨h1, h2, h3, _⟩ := csheet_ok h
    have e0 : ((decide ((way.length : Int) < 1)) || (decide (60 < (way.length : Int)))) = !inR 1 60 way.length := by
      unfold inR
      by_cases a1 : (way.length : Int) < 1 <;> by_cases a2 : 60 < (way.length : Int) <;> simp [a1, a2] <;> omega
    rw [if_neg (by simp [h]), e0]
    cases h4 : inR 1 60 way.length with
    | false => rw [cc2 h h4]; rfl
    | true =>
      have h4' := h4
      simp only [inR, Bool.and_eq_true, decide_eq_true_eq] at h4'
      have ew : whole (x.1, x.2) = whole x := rfl
      rw [if_neg (by simp), chain_eq (x := (x.1, x.2)) h hF (by omega), ew]
      simp only [Option.bind_some]
      by_cases h5 : (chainS (whole x) way).2 = 0
      · rw [if_neg (by simp [h5]), all_eq (x := (x.1, x.2)) (by omega) (by simp; omega) h3 h1, ew]
        have hin : inAll (whole x) way = true := by
          unfold chainS at h5
          split at h5
          · assumption
          · cases h5
        have hrl : (rsOf (whole x) way).length = way.length := by simp [rsOf]
        have e1 : w64 ((way.length : Int) - 1) = ((way.length - 1 : Nat) : Int) := by rw [w64_in (by omega)]; omega
        have z0 : ix way 0 = some (way[0]'(by omega)) := ix_nat (k := 0) (by omega)
        rw [z0, e1, ix_nat (show way.length - 1 < way.length by omega)]
        simp only [Option.bind_some, ix_rs hin (show 0 < way.length by omega), ix_rs hin (show way.length - 1 < way.length by omega)]
        have f1 : firstF (rsOf (whole x) way) = ((rsOf (whole x) way)[0]'(by omega)).1 := by
          exact firstF_get _
        have f2 : lastT (rsOf (whole x) way) = ((rsOf (whole x) way)[way.length - 1]'(by omega)).2.1 := by
          unfold lastT
          rw [List.getLast?_eq_getElem?, List.getElem?_eq_getElem (by omega)]
          simp [hrl]
        rw [← f1, ← f2]
        by_cases h6 : firstF (rsOf (whole x) way) = lastT (rsOf (whole x) way)
        · rw [if_neg (by simp [h6]), cc5 h h4 h5 h6]
          by_cases h7 : 0 ≤ (chainS (whole x) way).1
          · rw [if_pos (by simpa using h7), if_pos (by simpa using h7)]
          · rw [if_neg (by simpa using h7), if_neg (by simpa using h7)]
        · rw [if_pos (by simp [h6]), cc4 h h4 h5 h6]
      · rw [if_pos (by simp [h5]), cc3 h h4 h5]
  · rw [if_pos (by simp [h]), cc1 h]
end
end
end Go.Proofs.Ythppacohnciinaa
