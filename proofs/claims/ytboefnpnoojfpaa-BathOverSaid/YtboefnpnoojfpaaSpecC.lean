/-
  A shop, opened; ways; what Make returns. Condition: there are enough rounds.
-/
import Derived.Test.YtboefnpnoojfpaaSpecB
namespace Go.Proofs.Ytboefnpnoojfpaa
open Go Go.Md Go.RowKit

theorem inC_cons {c s : Int} {cs ss : List Int} : inC (c :: cs) (s :: ss) = ((decide (0 ≤ s) && decide (s ≤ c)) && inC cs ss) := rfl
theorem open_l2_eq {F : Nat} {x : Spec} {l : List Int} (hF : 1000000 < F) (hx : V x) (hl : l.length = x.1.length) : bath_open_l2 F x l F 0 (Ar.fill 5 0 : St) = some (if inC x.1 l = true then .inr (pad l) else .inl (⟨none⟩, [], 3)) := by
  have k5 := hx.k5
  have loop : ∀ m k, k ≤ l.length → l.length - k < m → bath_open_l2 F x l m (k : Int) (pad (l.take k)) = some (if inC (x.1.drop k) (l.drop k) = true then .inr (pad l) else .inl (⟨none⟩, [], 3)) := by
    intro m
    induction m with
    | zero => intro k _ h; omega
    | succ m ih =>
      intro k hk h
      simp only [bath_open_l2]
      by_cases hlt : k < l.length
      · have hlt' : k < x.1.length := by omega
        obtain ⟨v, hv⟩ := pad_ix0 (l := l.take k) (k := k) (by omega)
        have hp : aset (pad (l.take k)) (k : Int) l[k] = pad (l.take (k + 1)) := by
          have h1 : (l.take k).length = k := by rw [List.length_take]; omega
          have := pad_push (pre := l.take k) (v := l[k]) (by omega)
          rw [h1] at this
          rw [this, List.take_add_one, List.getElem?_eq_getElem hlt]
          rfl
        have hw : bath_within F 0 x.1[k] [l[k]] = some (decide (0 ≤ l[k]) && decide (l[k] ≤ x.1[k])) := by
          rw [within_eq hF (by simp)]
          simp [inr]
        rw [if_pos (ltd hlt), ix_nat hlt, ix_nat hlt', w64_succ (by omega), List.drop_eq_getElem_cons hlt, List.drop_eq_getElem_cons hlt', inC_cons]
        simp only [Option.bind_eq_bind, Option.bind_some, hw, hv, hp, ih (k + 1) (by omega) (by omega)]
        by_cases e : (decide (0 ≤ l[k]) && decide (l[k] ≤ x.1[k])) = true
        · rw [e]; simp
        · have e : (decide (0 ≤ l[k]) && decide (l[k] ≤ x.1[k])) = false := by simpa using e
          rw [e]; simp
      · have : k = l.length := by omega
        subst this
        rw [if_neg nltd, List.drop_length, List.take_length]
        cases x.1.drop l.length <;> rfl
  have := loop F 0 (by omega) (by omega)
  simp only [Int.natCast_zero, List.drop_zero, List.take_zero, pad_nil] at this
  exact this
def opl (x : Spec) : List (List Int) → List St → Sum Int (List St)
  | [], acc => .inr acc
  | l :: ls, acc => if sval x l ≠ 0 then .inl (sval x l) else opl x ls (acc ++ [pad l])
abbrev Sh := Ob (Spec × Opq)
def opr : Sum Int (List St) → Sum (Sh × List St × Int) (List St)
  | .inl e => .inl (⟨none⟩, [], e)
  | .inr r => .inr r
theorem open_l1_eq {F : Nat} {x : Spec} {ls : List (List Int)} (hF : 1000000 < F) (hx : V x) (hls : ls.length ≤ 10) : bath_open_l1 F x ls F [] 0 = some (opr (opl x ls [])) := by
  have loop : ∀ m k acc, k ≤ ls.length → ls.length - k < m → acc.length ≤ k → bath_open_l1 F x ls m acc (k : Int) = some (opr (opl x (ls.drop k) acc)) := by
    intro m
    induction m with
    | zero => intro k _ _ h; omega
    | succ m ih =>
      intro k acc hk h ha
      simp only [bath_open_l1]
      by_cases hlt : k < ls.length
      · rw [if_pos (ltd hlt), ix_nat hlt, w64_succ (by omega), List.drop_eq_getElem_cons hlt]
        simp only [Option.bind_eq_bind, Option.bind_some, opl]
        by_cases e : ls[k].length = x.1.length
        · rw [if_neg (by simp [e]), open_l2_eq hF hx e]
          simp only [Option.bind_some]
          cases e2 : inC x.1 ls[k] with
          | false =>
            have : sval x ls[k] = 3 := by unfold sval; rw [if_neg (by simpa using e), if_pos e2]
            simp [this, opr]
          | true =>
            have : sval x ls[k] = 0 := sval_ok.2 ⟨e, e2⟩
            rw [if_pos rfl, this]
            simp only [ne_eq, not_true, if_false]
            rw [app_some (by simp; omega)]
            simp only [Option.bind_some]
            exact ih (k + 1) _ (by omega) (by omega) (by simp; omega)
        · have : sval x ls[k] = 15 := by unfold sval; rw [if_pos e]
          rw [if_pos (by simp [nc, e]), this]
          rfl
      · have : k = ls.length := by omega
        subst this
        rw [if_neg nltd, List.drop_length]
        rfl
  have := loop F 0 [] (by omega) (by omega) (by simp)
  simp only [Int.natCast_zero, List.drop_zero] at this
  exact this
theorem open1 {F : Nat} {x : Spec} {s : List Int} (hF : 1000000 < F) : bath_open F x [s] = some (if one x s = 0 then (⟨some (x, Opq.mk)⟩, [pad s], 0) else (⟨none⟩, [], one x s)) := by
  unfold bath_open one
  have hc : bath_CheckBath F (x.1, x.2) = some (cval x) := check_eq hF
  simp only [hc, Option.bind_eq_bind, Option.bind_some]
  by_cases h : cval x = 0
  · rw [if_neg (by simp [h]), open_l1_eq hF (cval_ok.1 h) (by simp)]
    simp only [opl, Option.bind_some, h, ne_eq, not_true, if_false]
    by_cases h1 : sval x s = 0
    · simp [h1, opr]
    · simp [h1, opr]
  · rw [if_pos (by simp [h])]
    simp [h]
theorem open2 {F : Nat} {x : Spec} {s t : List Int} (hF : 1000000 < F) : bath_open F x [s, t] = some (if two x s t = 0 then (⟨some (x, Opq.mk)⟩, [pad s, pad t], 0) else (⟨none⟩, [], two x s t)) := by
  unfold bath_open two one
  have hc : bath_CheckBath F (x.1, x.2) = some (cval x) := check_eq hF
  simp only [hc, Option.bind_eq_bind, Option.bind_some]
  by_cases h : cval x = 0
  · rw [if_neg (by simp [h]), open_l1_eq hF (cval_ok.1 h) (by simp)]
    simp only [opl, Option.bind_some, h, ne_eq, not_true, if_false]
    by_cases h1 : sval x s = 0
    · by_cases h2 : sval x t = 0
      · simp [h1, h2, opr]
      · simp [h1, h2, opr]
    · simp [h1, opr]
  · rw [if_pos (by simp [h])]
    simp [h]

/-! ### Ways -/
def run (x : Spec) : List Int → List Int → Option (List Int)
  | [], a => some a
  | i :: w, a => (stp x i a) >>= run x w
theorem run_nil {x : Spec} {a : List Int} : run x [] a = some a := rfl
theorem run_cons {x : Spec} {i : Int} {w a : List Int} : run x (i :: w) a = (stp x i a) >>= run x w := rfl
theorem run_app {x : Spec} : ∀ {w v a : List Int}, run x (w ++ v) a = (run x w a) >>= run x v
  | [], v, a => rfl
  | i :: w, v, a => by
    simp only [List.cons_append, run_cons, Option.bind_eq_bind]
    cases h : stp x i a with
    | none => rfl
    | some b => simpa using run_app (w := w) (v := v) (a := b)
theorem Stk.run {x : Spec} (hx : V x) : ∀ {w a b : List Int}, Stk x a → run x w a = some b → Stk x b
  | [], a, b, ha, h => by cases h; exact ha
  | i :: w, a, b, ha, h => by
    rw [run_cons] at h
    obtain ⟨c, h1, h2⟩ := bs h
    exact Stk.run hx (ha.stp hx h1) h2
theorem stp_ix {x : Spec} {i : Int} {a b : List Int} (h : stp x i a = some b) : 0 ≤ i ∧ i < x.2.length := by
  obtain ⟨m, h1, _⟩ := stp_some h
  have := ix_spec h1
  exact ⟨this.1, this.2.1⟩
theorem run_ix {x : Spec} : ∀ {w a b : List Int}, run x w a = some b → ∀ i ∈ w, 0 ≤ i ∧ i < x.2.length
  | [], _, _, _, i, hi => by cases hi
  | j :: w, a, b, h, i, hi => by
    rw [run_cons] at h
    obtain ⟨c, h1, h2⟩ := bs h
    rcases List.mem_cons.1 hi with rfl | hi
    · exact stp_ix h1
    · exact run_ix h2 i hi
def badI (x : Spec) (i : Int) : Bool := decide (i < 0) || decide ((x.2.length : Int) ≤ i)
def mk (x : Spec) (s w : List Int) : List Int × Int :=
  if one x s ≠ 0 then ([], one x s) else if 4096 < w.length then ([], 6) else if w.any (badI x) = true then ([], 3) else match run x w s with
  | some v => (v, 0)
  | none => ([], 9)
theorem good_ix {x : Spec} {i : Int} (h : badI x i = false) : ∃ m, ix x.2 i = some m := by
  simp only [badI, Bool.or_eq_false_iff, decide_eq_false_iff_not] at h
  obtain ⟨k, rfl⟩ : ∃ k : Nat, i = (k : Int) := ⟨i.toNat, by omega⟩
  exact ⟨_, ix_nat (show k < x.2.length by omega)⟩
theorem drop_any {α : Type} {l : List α} {p : α → Bool} (h : ¬ l.any p = true) {k : Nat} (hk : k < l.length) : p l[k] = false := not_any h _ (List.getElem_mem hk)

theorem make_eq {F : Nat} {x : Spec} {s w : List Int} (hF : 1000000 < F) : bath_Make F x s w = some (mk x s w) := by
  unfold bath_Make mk
  have ho : bath_open F (x.1, x.2) [s] = _ := open1 (x := x) (s := s) hF
  rw [ho]
  simp only [Option.bind_eq_bind, Option.bind_some]
  by_cases h : one x s = 0
  · obtain ⟨hx, hs⟩ := one_ok.1 h
    have k5 := hx.k5
    simp only [h, if_true, ne_eq, not_true, if_false, decide_true, Bool.not_true, Bool.false_eq_true]
    by_cases h1 : 4096 < w.length
    · rw [if_pos (by simp; omega), if_pos h1]
    have hb : slices_ContainsFunc_int F w (fun y => bath_Make_1 y (x.1, x.2)) = some (w.any (badI x)) := contI hF (by omega) (fun i _ => rfl)
    rw [if_neg (by simp; omega), if_neg h1, hb]
    simp only [Option.bind_some]
    by_cases h2 : w.any (badI x) = true
    · rw [if_pos h2, if_pos h2]
    rw [if_neg h2, if_neg h2]
    have e0 : ix [pad s] (0 : Int) = some (pad s) := rfl
    rw [e0]
    simp only [Option.bind_some]
    have loop : ∀ m k a, k ≤ w.length → w.length - k < m → Stk x a → bath_Make_l1 F w (⟨some (x, Opq.mk)⟩, [pad s], 0) m (k : Int) (pad a) = some (match run x (w.drop k) a with | some v => .inr (pad v) | none => .inl ([], 9)) := by
      intro m
      induction m with
      | zero => intro k a _ h; omega
      | succ m ih =>
        intro k a hk h ha
        simp only [bath_Make_l1]
        by_cases hlt : k < w.length
        · obtain ⟨mv, hm⟩ := good_ix (drop_any h2 hlt)
          rw [if_pos (ltd hlt), ix_nat hlt, w64_succ (by omega), List.drop_eq_getElem_cons hlt, run_cons]
          have ha' : bath_shop_after F ((x.1, x.2), Opq.mk) (pad a) w[k] = _ := after_eq hF hx ha hm
          simp only [Option.bind_eq_bind, Option.bind_some, ha', stp, hm]
          cases e : okm x.1 a mv.1 mv.2 with
          | false => rfl
          | true =>
            have hst : stp x w[k] a = some (nx a mv.1 mv.2) := by unfold stp; rw [hm]; simp [e]
            simp only [Bool.not_true, Bool.false_eq_true, if_false, if_true, Option.bind_some]
            exact ih (k + 1) _ (by omega) (by omega) (ha.stp hx hst)
        · have : k = w.length := by omega
          subst this
          rw [if_neg nltd, List.drop_length]
          rfl
    have := loop F 0 s (by omega) (by omega) hs
    simp only [Int.natCast_zero, List.drop_zero] at this
    rw [this]
    cases e : run x w s with
    | none => rfl
    | some v =>
      have hv := hs.run hx e
      have hl := hv.len
      have hsl := hs.len
      simp only [Option.bind_some]
      have e1 : mks 8 (s.length : Int) (0 : Int) = some (List.replicate s.length 0) := by
        unfold mks
        rw [if_pos (by simp; omega)]
        simp
      rw [e1]
      simp only [Option.bind_some]
      congr 2
      unfold rcopy
      rw [List.length_replicate, show s.length = v.length by omega, pad_take (by omega), (pad v).h, List.drop_of_length_le (by simp; omega), List.append_nil]
  · simp [h]
theorem rmake_eq {F : Nat} {x : Spec} {s w : List Int} (hF : 1000000 < F) : ref11_Make F x s w = some (mk x s w) := by
  unfold ref11_Make mk
  have ho : ref11_One F (x.1, x.2) s = some (one x s) := one_eq hF
  simp only [ho, Option.bind_eq_bind, Option.bind_some]
  by_cases h : one x s = 0
  · obtain ⟨hx, hs⟩ := one_ok.1 h
    have k5 := hx.k5
    have hsl := hs.len
    simp only [h, ne_eq, not_true, if_false, decide_true, Bool.not_true, Bool.false_eq_true]
    by_cases h1 : 4096 < w.length
    · rw [if_pos (by simp; omega), if_pos h1]
    rw [if_neg (by simp; omega), if_neg h1]
    have := any_loop0 (l := w) (L := fun m k => ref11_Make_l1 F x w m (k : Int)) (p := badI x) (c := (([], 3) : List Int × Int)) (fun m => by
      simp only [ref11_Make_l1]; rw [if_neg nltd]) (fun m k hk => by
      simp only [ref11_Make_l1]
      rw [if_pos (ltd hk), ix_nat hk, w64_succ (by omega)]
      simp only [Option.bind_eq_bind, Option.bind_some, badI]
      by_cases e1 : w[k] < 0 <;> simp [e1]) (m := F) (by omega)
    simp only [Int.natCast_zero] at this
    rw [this]
    by_cases h2 : w.any (badI x) = true
    · rw [if_pos h2, if_pos h2]; rfl
    rw [if_neg h2, if_neg h2]
    simp only [Option.bind_some]
    rw [app_some (by simp; omega)]
    simp only [Option.bind_some, List.nil_append]
    have loop : ∀ m k a, k ≤ w.length → w.length - k < m → Stk x a → ref11_Make_l2 F x w m a (k : Int) = some (match run x (w.drop k) a with | some v => .inr v | none => .inl ([], 9)) := by
      intro m
      induction m with
      | zero => intro k a _ h; omega
      | succ m ih =>
        intro k a hk h ha
        simp only [ref11_Make_l2]
        by_cases hlt : k < w.length
        · obtain ⟨mv, hm⟩ := good_ix (drop_any h2 hlt)
          rw [if_pos (ltd hlt), ix_nat hlt, w64_succ (by omega), List.drop_eq_getElem_cons hlt, run_cons]
          have ha' : ref11_after F (x.1, x.2) a w[k] = _ := rafter_eq hF hx ha hm
          simp only [Option.bind_eq_bind, Option.bind_some, ha', stp, hm]
          by_cases e : okm x.1 a mv.1 mv.2 = true
          · have hst : stp x w[k] a = some (nx a mv.1 mv.2) := by unfold stp; rw [hm]; simp [e]
            rw [if_pos e, if_pos e]
            simp only [Bool.not_true, Bool.false_eq_true, if_false, Option.bind_some]
            exact ih (k + 1) _ (by omega) (by omega) (ha.stp hx hst)
          · rw [if_neg e, if_neg e]
            rfl
        · have : k = w.length := by omega
          subst this
          rw [if_neg nltd, List.drop_length]
          rfl
    have := loop F 0 s (by omega) (by omega) hs
    simp only [Int.natCast_zero, List.drop_zero] at this
    rw [this]
    cases e : run x w s <;> rfl
  · simp [h]
theorem longs_same {F : Nat} {l : List Int} (hF : 1000000 < F) (hl : l.length ≤ 1000000) : law11_longs F l l = some true := by
  unfold law11_longs
  rw [if_neg (by simp)]
  have := any_loop0 (l := l) (L := fun m k => law11_longs_l1 F l l m (k : Int)) (p := fun _ => false) (c := false) (fun m => by
    simp only [law11_longs_l1]; rw [if_neg nltd]) (fun m k h => by
    simp only [law11_longs_l1]
    rw [if_pos (ltd h), ix_nat h, w64_succ (by omega)]
    simp) (m := F) (by omega)
  simp only [Int.natCast_zero] at this
  rw [this]
  simp
theorem mk_len {x : Spec} {s w : List Int} : (mk x s w).1.length ≤ 5 := by
  unfold mk
  split
  · simp
  split
  · simp
  split
  · simp
  · rename_i h _ _
    obtain ⟨hx, hs⟩ := one_ok.1 (show one x s = 0 by simpa using h)
    cases e : run x w s with
    | none => simp
    | some v =>
      have := (hs.run hx e).len
      have := hx.k5
      simp only
      omega
/-- Rounds enough for each law. -/
abbrev FF : Nat := 4000000000
theorem works : law11_Works FF = some true := by kernel_rfl
theorem ffok : 2000000000 < FF := by decide
theorem baths_law {F : Nat} (hF : 2000000000 < F) (hW : law11_Works F = some true) {x : Spec} {s w : List Int} : law11_BathBaths F x s w = some true := by
  unfold law11_BathBaths
  have hg : law11_great F (x.1, x.2) = some (gr x) := great_eq (by omega)
  have h1 : bath_Make F (x.1, x.2) s w = some (mk x s w) := make_eq (by omega)
  have h2 : ref11_Make F (x.1, x.2) s w = some (mk x s w) := rmake_eq (by omega)
  have h3 : bath_CheckBath F (x.1, x.2) = some (cval x) := check_eq (by omega)
  have h4 : ref11_CheckBath F (x.1, x.2) = some (cval x) := rcheck_eq (by omega)
  have h5 := longs_same (F := F) (l := (mk x s w).1) (by omega) (by have := mk_len (x := x) (s := s) (w := w); omega)
  simp only [hg, h1, h2, h3, h4, Option.bind_eq_bind, Option.bind_some, h5, hW, gd]
  split <;> simp
theorem known : law11_BathKnown FF = some true := by kernel_rfl
end Go.Proofs.Ytboefnpnoojfpaa
