/-
  Weights that are checked; BathBack and BathOver. Condition: there are enough rounds.
-/
import Derived.Test.YtboefnpnoojfpaaSpecH
namespace Go.Proofs.Ytboefnpnoojfpaa
open Go Go.Md Go.RowKit

/-! ### Sums -/
def dot : List Int → List Int → Int
  | w :: ws, l :: ls => w * l + dot ws ls
  | _, _ => 0
abbrev WB (w : List Int) : Prop := ∀ n ∈ w, -1048576 ≤ n ∧ n ≤ 1048576
abbrev LB (l : List Int) : Prop := ∀ n ∈ l, 0 ≤ n ∧ n ≤ 9
theorem mul_bd {a b : Int} (ha : -1048576 ≤ a ∧ a ≤ 1048576) (hb : 0 ≤ b ∧ b ≤ 9) : -9437184 ≤ a * b ∧ a * b ≤ 9437184 := by
  have h1 : a * b ≤ 1048576 * b := Int.mul_le_mul_of_nonneg_right ha.2 hb.1
  have h2 : -1048576 * b ≤ a * b := Int.mul_le_mul_of_nonneg_right ha.1 hb.1
  omega
theorem sum_eq {F : Nat} {w l : List Int} (hF : 1000000 < F) (hl : w.length ≤ 10) (he : l.length = w.length) (hw : WB w) (hb : LB l) : bath_sum F w l = some (dot w l) := by
  have loop : ∀ (m k : Nat) (y : Int), k ≤ w.length → w.length - k < m → -9437184 * (k : Int) ≤ y ∧ y ≤ 9437184 * (k : Int) → bath_sum_l1 F w l m y (k : Int) = some (y + dot (w.drop k) (l.drop k)) := by
    intro m
    induction m with
    | zero => intro k _ _ h; omega
    | succ m ih =>
      intro k y hk h hy
      simp only [bath_sum_l1]
      by_cases hlt : k < w.length
      · have c1 : k < l.length := by omega
        have hm := mul_bd (hw _ (List.getElem_mem hlt)) (hb _ (List.getElem_mem c1))
        rw [if_pos (ltd hlt), ix_nat hlt, ix_nat c1, w64_succ (by omega), List.drop_eq_getElem_cons hlt, List.drop_eq_getElem_cons c1]
        simp only [Option.bind_eq_bind, Option.bind_some, dot]
        have e1 : w64 (w[k] * l[k]) = w[k] * l[k] := w64_in (by omega)
        rw [e1]
        have e2 : w64 (y + w[k] * l[k]) = y + w[k] * l[k] := w64_in (by omega)
        rw [e2, ih (k + 1) _ (by omega) (by omega) (by omega)]
        congr 1
        omega
      · have : k = w.length := by omega
        subst this
        rw [if_neg nltd, List.drop_length]
        simp [dot]
  unfold bath_sum
  have := loop F 0 0 (by omega) (by omega) (by omega)
  simp only [Int.natCast_zero, List.drop_zero, Int.zero_add] at this
  rw [this]
  rfl
theorem rsum_eq {F : Nat} {w l : List Int} (hF : 1000000 < F) (hl : w.length ≤ 10) (he : l.length = w.length) (hw : WB w) (hb : LB l) : ref11_Sum F w l = some (dot w l) := by
  rw [← sum_eq hF hl he hw hb]
  unfold ref11_Sum bath_sum
  have : ∀ m (y k : Int), ref11_Sum_l1 F w l m y k = bath_sum_l1 F w l m y k := fun m => by
    induction m with
    | zero => intro y k; rfl
    | succ m ih => intro y k; simp only [ref11_Sum_l1, bath_sum_l1, ih]
  rw [this]
theorem small_eq {F : Nat} {l : List Int} (hF : 1000000 < F) (hl : l.length ≤ 1000000) : ref11_small F l = some (inr (-1048576) 1048576 l) := by
  unfold ref11_small
  have := any_loop0 (l := l) (L := fun m k => ref11_small_l1 F l m (k : Int)) (p := fun n => decide (n < -1048576) || decide (1048576 < n)) (c := false) (fun m => by
    simp only [ref11_small_l1]; rw [if_neg nltd]) (fun m k hk => by
    simp only [ref11_small_l1]
    rw [if_pos (ltd hk), ix_nat hk, w64_succ (by omega)]
    simp only [Option.bind_eq_bind, Option.bind_some]
    by_cases h1 : l[k] < -1048576 <;> by_cases h2 : 1048576 < l[k] <;> simp [h1, h2]) (m := F) (by omega)
  simp only [Int.natCast_zero] at this
  rw [this, any_inr]
  cases inr (-1048576) 1048576 l <;> rfl
def unb (w : List Int) (m : Mv) : Bool := !decide (dot w m.1 = dot w m.2)
def cw (x : Spec) (w : List Int) : Int :=
  if cval x ≠ 0 then cval x else if w.length ≠ x.1.length then 15 else if inr (-1048576) 1048576 w = false then 3 else if x.2.any (unb w) = true then 14 else 0
theorem V.lb {x : Spec} (hx : V x) {m : Mv} (hm : m ∈ x.2) : LB m.1 ∧ LB m.2 := by
  obtain ⟨_, _, h1, h2⟩ := hx.mv m hm
  exact ⟨fun n hn => by have := h1 n hn; omega, fun n hn => by have := h2 n hn; omega⟩
theorem checkw_eq {F : Nat} {x : Spec} {w : List Int} (hF : 1000000 < F) : bath_CheckWeights F x w = some (cw x w) := by
  unfold bath_CheckWeights cw
  have hc : bath_CheckBath F (x.1, x.2) = some (cval x) := check_eq hF
  simp only [hc, Option.bind_eq_bind, Option.bind_some]
  by_cases h : cval x = 0
  · have hx := cval_ok.1 h
    have k5 := hx.k5
    have m8 := hx.m8
    rw [if_neg (show ¬ (!decide (cval x = 0)) = true by simp [h]), if_neg (show ¬ cval x ≠ 0 by simp [h])]
    by_cases h1 : w.length = x.1.length
    · rw [if_neg (show ¬ (!decide ((w.length : Int) = (x.1.length : Int))) = true by simp [h1]), if_neg (show ¬ w.length ≠ x.1.length by simpa using h1), within_eq hF (by omega)]
      simp only [Option.bind_some]
      cases h2 : inr (-1048576) 1048576 w with
      | false => simp
      | true =>
        have hw := inr_iff.1 h2
        have h3 : slices_ContainsFunc_api_BathMove F x.2 (fun y => bath_CheckWeights_1 F y w) = some (x.2.any (unb w)) := contM hF (by omega) fun m hm => by
          obtain ⟨l1, l2, _⟩ := hx.mv m hm
          unfold bath_CheckWeights_1 unb
          rw [sum_eq hF (by omega) (by omega) hw (hx.lb hm).1, sum_eq hF (by omega) (by omega) hw (hx.lb hm).2]
          rfl
        rw [h3]
        simp only [Bool.not_true, Bool.false_eq_true, if_false, Option.bind_some, Bool.true_eq_false]
        by_cases h4 : x.2.any (unb w) = true
        · rw [if_pos h4, if_pos h4]
        · rw [if_neg h4, if_neg h4]
    · rw [if_pos (show (!decide ((w.length : Int) = (x.1.length : Int))) = true by simp [nc, h1]), if_pos (show w.length ≠ x.1.length from h1)]
  · rw [if_pos (show (!decide (cval x = 0)) = true by simp [h]), if_pos (show cval x ≠ 0 from h)]
theorem rcheckw_eq {F : Nat} {x : Spec} {w : List Int} (hF : 1000000 < F) : ref11_CheckWeights F x w = some (cw x w) := by
  unfold ref11_CheckWeights cw
  have hc : ref11_CheckBath F (x.1, x.2) = some (cval x) := rcheck_eq hF
  simp only [hc, Option.bind_eq_bind, Option.bind_some]
  by_cases h : cval x = 0
  · have hx := cval_ok.1 h
    have k5 := hx.k5
    have m8 := hx.m8
    rw [if_neg (show ¬ (!decide (cval x = 0)) = true by simp [h]), if_neg (show ¬ cval x ≠ 0 by simp [h])]
    by_cases h1 : w.length = x.1.length
    · rw [if_neg (show ¬ (!decide ((w.length : Int) = (x.1.length : Int))) = true by simp [h1]), if_neg (show ¬ w.length ≠ x.1.length by simpa using h1), small_eq hF (by omega)]
      simp only [Option.bind_some]
      cases h2 : inr (-1048576) 1048576 w with
      | false => simp
      | true =>
        have hw := inr_iff.1 h2
        have h3 := any_loop0 (l := x.2) (L := fun m k => ref11_CheckWeights_l1 F x w m (k : Int)) (p := unb w) (c := 14) (fun m => by
          simp only [ref11_CheckWeights_l1]; rw [if_neg nltd]) (fun m k hk => by
          have hm := List.getElem_mem hk
          obtain ⟨l1, l2, _⟩ := hx.mv _ hm
          simp only [ref11_CheckWeights_l1]
          rw [if_pos (ltd hk), ix_nat hk, w64_succ (by omega)]
          simp only [Option.bind_eq_bind, Option.bind_some]
          rw [rsum_eq hF (by omega) (by omega) hw (hx.lb hm).1, rsum_eq hF (by omega) (by omega) hw (hx.lb hm).2]
          rfl) (m := F) (by omega)
        simp only [Int.natCast_zero] at h3
        rw [h3]
        simp only [Bool.not_true, Bool.false_eq_true, if_false, Bool.true_eq_false]
        by_cases h4 : x.2.any (unb w) = true
        · rw [if_pos h4, if_pos h4]; rfl
        · rw [if_neg h4, if_neg h4]; rfl
    · rw [if_pos (show (!decide ((w.length : Int) = (x.1.length : Int))) = true by simp [nc, h1]), if_pos (show w.length ≠ x.1.length from h1)]
  · rw [if_pos (show (!decide (cval x = 0)) = true by simp [h]), if_pos (show cval x ≠ 0 from h)]

/-! ### Moves turned round -/
def back (x : Spec) : Spec := (x.1, x.2.map fun m => (m.2, m.1))
theorem back_back {x : Spec} : back (back x) = x := by
  obtain ⟨a, b⟩ := x
  simp [back, Function.comp_def]
theorem V.back {x : Spec} (hx : V x) : V (back x) := by
  refine ⟨hx.k1, hx.k5, by simp [Ytboefnpnoojfpaa.back, hx.m8], hx.cap, hx.prd, fun m hm => ?_⟩
  obtain ⟨m', h1, rfl⟩ := List.mem_map.1 hm
  obtain ⟨a, b, c, d⟩ := hx.mv m' h1
  exact ⟨b, a, d, c⟩
theorem Stk.back {x : Spec} {s : List Int} (h : Stk x s) : Stk (back x) s := ⟨h.len, h.inc⟩
theorem lback_eq {F : Nat} {x : Spec} (hF : 1000000 < F) (hx : V x) : law11_back F x = some (back x) := by
  have m8 := hx.m8
  have loop : ∀ (m k : Nat) (acc : List Mv), k ≤ x.2.length → x.2.length - k < m → acc.length ≤ k → law11_back_l1 F x m (k : Int) (x.1, acc) = some (x.1, acc ++ (x.2.drop k).map fun m => (m.2, m.1)) := by
    intro m
    induction m with
    | zero => intro k _ _ h; omega
    | succ m ih =>
      intro k acc hk h ha
      simp only [law11_back_l1]
      by_cases hlt : k < x.2.length
      · rw [if_pos (ltd hlt), ix_nat hlt, w64_succ (by omega), List.drop_eq_getElem_cons hlt]
        simp only [Option.bind_eq_bind, Option.bind_some]
        rw [app_some (by simp; omega)]
        simp only [Option.bind_some]
        rw [ih (k + 1) _ (by omega) (by omega) (by simp; omega), List.map_cons, List.append_assoc]
        rfl
      · have : k = x.2.length := by omega
        subst this
        rw [if_neg nltd, List.drop_length]
        simp
  unfold law11_back
  have := loop F 0 [] (by omega) (by omega) (by simp)
  simp only [Int.natCast_zero, List.drop_zero, List.nil_append] at this
  rw [this]
  rfl
theorem nx_back : ∀ {c a t g : List Int}, a.length = c.length → t.length = c.length → g.length = c.length → inC c a = true → okm c a t g = true → okm c (nx a t g) g t = true ∧ nx (nx a t g) g t = a
  | [], [], [], [], _, _, _, _, _ => ⟨rfl, rfl⟩
  | c :: cs, a :: az, t :: ts, g :: gs, h1, h2, h3, h4, h5 => by
    simp only [okm, Bool.and_eq_true, decide_eq_true_eq] at h5
    rw [inC_cons] at h4
    simp only [Bool.and_eq_true, decide_eq_true_eq] at h4
    obtain ⟨h6, h7⟩ := nx_back (c := cs) (a := az) (t := ts) (g := gs) (by simpa using h1) (by simpa using h2) (by simpa using h3) h4.2 h5.2
    simp only [nx, okm, Bool.and_eq_true, decide_eq_true_eq]
    refine ⟨⟨⟨by omega, by omega⟩, h6⟩, ?_⟩
    rw [h7, show a - t + g - g + t = a by omega]
  | [], _ :: _, _, _, h, _, _, _, _ => by simp at h
  | [], [], _ :: _, _, _, h, _, _, _ => by simp at h
  | [], [], [], _ :: _, _, _, h, _, _ => by simp at h
  | _ :: _, [], _, _, h, _, _, _, _ => by simp at h
  | _ :: _, _ :: _, [], _, _, h, _, _, _ => by simp at h
  | _ :: _, _ :: _, _ :: _, [], _, _, h, _, _ => by simp at h
theorem stp_back {x : Spec} (hx : V x) {i : Int} {a b : List Int} (ha : Stk x a) (h : stp x i a = some b) : stp (back x) i b = some a := by
  obtain ⟨m, h1, h2, h3, rfl⟩ := stp_some h
  obtain ⟨l1, l2, _⟩ := hx.mv m h2
  obtain ⟨h4, h5⟩ := nx_back ha.len l1 l2 ha.inc h3
  have h6 : ix (back x).2 i = some (m.2, m.1) := by
    unfold back ix at *
    split at h1
    · rename_i h0
      rw [if_pos h0, List.getElem?_map, h1]
      rfl
    · cases h1
  rw [stp_eq h6]
  show (if okm x.1 (nx a m.1 m.2) m.2 m.1 = true then some (nx (nx a m.1 m.2) m.2 m.1) else none) = some a
  rw [if_pos h4, h5]
theorem run_back {x : Spec} (hx : V x) : ∀ {w s v : List Int}, Stk x s → run x w s = some v → run (back x) w.reverse v = some s
  | [], s, v, _, h => by cases h; rfl
  | i :: w, s, v, hs, h => by
    rw [run_cons] at h
    obtain ⟨u, h1, h2⟩ := bs h
    rw [List.reverse_cons, run_app, run_back hx (hs.stp hx h1) h2]
    simp [run_cons, stp_back hx hs h1, run_nil]
theorem Rn.back {x : Spec} {n : Nat} {s v : List Int} (hx : V x) (hs : Stk x s) (h : Rn x n s v) : Rn (back x) n v s := by
  obtain ⟨w, h1, h2⟩ := h
  exact ⟨w.reverse, by simp [h1], run_back hx hs h2⟩
theorem D.back {x : Spec} {n : Nat} {s v : List Int} (hx : V x) (hs : Stk x s) (h : D x s v n) : D (back x) v s n := by
  refine ⟨h.1.back hx hs, fun m hm hr => h.2 m hm ?_⟩
  have := hr.back hx.back (h.1.stk hx hs).back
  rwa [back_back] at this
theorem cw_back {x : Spec} {w : List Int} (hx : V x) : cw (back x) w = cw x w := by
  unfold cw
  rw [cval_ok.2 hx, cval_ok.2 hx.back]
  have e : (back x).2.any (unb w) = x.2.any (unb w) := by
    unfold back
    rw [List.any_map]
    congr 1
    funext m
    simp only [unb, Function.comp]
    congr 1
    exact decide_eq_decide.2 ⟨Eq.symm, Eq.symm⟩
  rw [e]
  rfl
theorem turned_eq {F : Nat} {w : List Int} (hF : 1000000 < F) (hw : w.length ≤ 1000) : law11_BathBack_l1 F w F [] (w64 ((w.length : Int) - 1)) = some w.reverse := by
  have loop : ∀ (k m : Nat) (acc : List Int), k ≤ w.length → k < m → acc.length + k ≤ 1000 → law11_BathBack_l1 F w m acc ((k : Int) - 1) = some (acc ++ (w.take k).reverse) := by
    intro k
    induction k with
    | zero =>
      intro m acc _ hm _
      obtain ⟨m, rfl⟩ : ∃ q, m = q + 1 := ⟨m - 1, by omega⟩
      simp only [law11_BathBack_l1]
      rw [if_neg (by simp)]
      simp
    | succ k ih =>
      intro m acc hk hm ha
      obtain ⟨m, rfl⟩ : ∃ q, m = q + 1 := ⟨m - 1, by omega⟩
      have c : k < w.length := by omega
      simp only [law11_BathBack_l1]
      rw [show ((k + 1 : Nat) : Int) - 1 = (k : Int) by omega, if_pos (by simp), ix_nat c]
      simp only [Option.bind_eq_bind, Option.bind_some]
      rw [app_some (by simp; omega)]
      simp only [Option.bind_some]
      have e : w.take (k + 1) = w.take k ++ [w[k]] := by
        rw [List.take_add_one, List.getElem?_eq_getElem c]
        rfl
      rw [w64_in (by omega), ih m _ (by omega) (by omega) (by simp; omega), e, List.reverse_append, List.append_assoc]
      rfl
  have := loop w.length F [] (Nat.le_refl _) (by omega) (by simp; omega)
  rw [List.take_length, List.nil_append] at this
  rw [w64_in (by omega), this]
theorem back_law {F : Nat} (hF : 2000000000 < F) (hW : law11_Works F = some true) {x : Spec} {s t : List Int} {by_ : List (KI .u8)} {w : List Int} (hB : ∀ b ∈ by_, OkB b) : law11_BathBack F x s t by_ w = some true := by
  have hF' : 1000000 < F := by omega
  unfold law11_BathBack
  have hf : law11_fine F (x.1, x.2) s = some (fine x s) := fine_eq hF'
  have ho : ref11_One F (x.1, x.2) t = some (one x t) := one_eq hF'
  simp only [hf, ho, Option.bind_eq_bind, Option.bind_some, hW]
  by_cases hfi : fine x s = true
  case neg => simp [gd, hfi]
  by_cases ht10 : t.length ≤ 10
  case neg =>
    have : ¬ (t.length : Int) ≤ 10 := by omega
    have h2 : (10 : Int) < (t.length : Int) := by omega
    simp [gd, h2]
  have ht10' : ¬ (10 : Int) < (t.length : Int) := by omega
  simp only [hfi, ht10', decide_false, Bool.not_true, Bool.or_self, Bool.not_false, gd, cond_true, Option.bind_some, Bool.false_or]
  split
  · rfl
  rename_i hc
  simp only [Bool.or_eq_true, Bool.not_eq_true', decide_eq_false_iff_not, decide_eq_true_eq, not_or, Decidable.not_not] at hc
  obtain ⟨⟨hc1, hc2⟩, hc3⟩ := hc
  obtain ⟨hx, hs⟩ := fine_ok hfi
  obtain ⟨_, ht⟩ := one_ok.1 hc1
  have one1 : ∀ u, Stk x u → ref11_One F (x.1, x.2) u = some 0 := fun u hu => by
    rw [show ref11_One F (x.1, x.2) u = some (one x u) from one_eq hF', one_ok.2 ⟨hx, hu⟩]
  obtain ⟨w2, e, w3, w4, w5⟩ := walk_eq (F := F) hF' hx hs (by omega : by_.length ≤ 100) hB
  have he := hs.run hx w4
  have mk3 : bath_Make F (x.1, x.2) s w2 = some (e, 0) := by
    rw [show bath_Make F (x.1, x.2) s w2 = some (mk x s w2) from make_eq hF', mk_run hx hs w4 (by omega)]
  have mk4 : bath_Make F (back x) e w2.reverse = some (s, 0) := by
    rw [make_eq hF', mk_run hx.back he.back (run_back hx hs w4) (by simp; omega)]
  obtain ⟨r, r1, r2⟩ := reach_ok (F := F) hF' hx hs ht
  obtain ⟨q, q1, q2⟩ := reach_ok (F := F) hF' hx.back ht.back hs.back
  have hrq : r.2 = q.2 ∧ r.1.length = q.1.length := by
    rcases r2 with ⟨k, a1, a2, a3, _⟩ | ⟨a1, rfl⟩ <;> rcases q2 with ⟨k', b1, b2, b3, _⟩ | ⟨b1, rfl⟩
    · have := (a1.back hx hs).uniq b1
      exact ⟨by rw [a2, b2], by rw [a3, b3, this]⟩
    · exact (b1 k (a1.back hx hs)).elim
    · have := b1.back hx.back ht.back
      rw [back_back] at this
      exact (a1 k' this).elim
    · exact ⟨rfl, rfl⟩
  have c1 : bath_CheckWeights F (x.1, x.2) w = some (cw x w) := checkw_eq hF'
  have c2 : bath_CheckWeights F (back x) w = some (cw x w) := by rw [checkw_eq hF', cw_back hx]
  have hsl := longs_same (F := F) (l := s) hF' (by have := hs.len; have := hx.k5; omega)
  simp only [show law11_back F (x.1, x.2) = some (back x) from lback_eq hF' hx, show law11_Walk F (x.1, x.2) s by_ = _ from w3, mk3, one1 e he, Option.bind_some, turned_eq (F := F) (w := w2) hF' (by omega)]
  simp only [show bath_Make F ((back x).1, (back x).2) e w2.reverse = _ from mk4, show bath_Reach F (x.1, x.2) s t = _ from r1, show bath_Reach F ((back x).1, (back x).2) t s = _ from q1, Option.bind_some, hsl, c1, show bath_CheckWeights F ((back x).1, (back x).2) w = _ from c2, hrq.1, hrq.2, decide_true, cond_true, Bool.and_self, Bool.not_true, Bool.or_self, Bool.not_false, Bool.false_eq_true, if_false]

/-! ### One move more, or greater caps -/
structure Sup (x y : Spec) : Prop where
  stk : ∀ a, Stk x a → Stk y a
  stp : ∀ i a b, Stk x a → stp x i a = some b → stp y i a = some b
theorem Sup.run {x y : Spec} (hx : V x) (h : Sup x y) : ∀ {w s v : List Int}, Stk x s → run x w s = some v → run y w s = some v
  | [], _, _, _, e => e
  | i :: w, s, v, hs, e => by
    rw [run_cons] at e ⊢
    obtain ⟨u, h1, h2⟩ := bs e
    rw [h.stp i s u hs h1]
    exact Sup.run hx h (hs.stp hx h1) h2
theorem Sup.rn {x y : Spec} (hx : V x) (h : Sup x y) {n : Nat} {s v : List Int} (hs : Stk x s) (e : Rn x n s v) : Rn y n s v := by
  obtain ⟨w, h1, h2⟩ := e
  exact ⟨w, h1, h.run hx hs h2⟩
theorem sup_more {x : Spec} {m : Mv} : Sup x (x.1, x.2 ++ [m]) := by
  refine ⟨fun a h => ⟨h.len, h.inc⟩, fun i a b _ h => ?_⟩
  unfold stp at h ⊢
  obtain ⟨mv, h1, h2⟩ := bs h
  have h3 : ix (x.2 ++ [m]) i = some mv := by
    obtain ⟨i0, i1, i2⟩ := ix_spec h1
    unfold ix
    rw [if_pos i0, List.getElem?_append_left (by omega), i2]
  rw [show ix (x.1, x.2 ++ [m]).2 i = some mv from h3]
  exact h2
theorem inC_set : ∀ {c a : List Int} {k : Nat} {v : Int}, inC c a = true → (∀ h : k < c.length, c[k] ≤ v) → inC (c.set k v) a = true
  | [], _, _, _, _, _ => rfl
  | _ :: _, [], 0, _, _, _ => rfl
  | _ :: _, [], _ + 1, _, _, _ => rfl
  | c :: cs, a :: az, 0, v, h, hv => by
    rw [inC_cons] at h
    rw [List.set_cons_zero, inC_cons]
    simp only [Bool.and_eq_true, decide_eq_true_eq] at h ⊢
    have := hv (by simp)
    simp only [List.getElem_cons_zero] at this
    exact ⟨⟨h.1.1, by omega⟩, h.2⟩
  | c :: cs, a :: az, k + 1, v, h, hv => by
    rw [inC_cons] at h
    rw [List.set_cons_succ, inC_cons]
    simp only [Bool.and_eq_true] at h ⊢
    exact ⟨h.1, inC_set h.2 fun hk => by have := hv (by simpa using hk); exact this⟩
theorem okm_set : ∀ {c a t g : List Int} {k : Nat} {v : Int}, okm c a t g = true → (∀ h : k < c.length, c[k] ≤ v) → okm (c.set k v) a t g = true
  | [], _, _, _, _, _, _, _ => rfl
  | c :: cs, [], _, _, k, v, _, _ => by cases k <;> rfl
  | c :: cs, _ :: _, [], _, k, v, _, _ => by cases k <;> rfl
  | c :: cs, _ :: _, _ :: _, [], k, v, _, _ => by cases k <;> rfl
  | c :: cs, a :: az, t :: ts, g :: gs, 0, v, h, hv => by
    simp only [List.set_cons_zero, okm, Bool.and_eq_true, decide_eq_true_eq] at h ⊢
    have := hv (by simp)
    simp only [List.getElem_cons_zero] at this
    exact ⟨⟨h.1.1, by omega⟩, h.2⟩
  | c :: cs, a :: az, t :: ts, g :: gs, k + 1, v, h, hv => by
    simp only [List.set_cons_succ, okm, Bool.and_eq_true] at h ⊢
    exact ⟨h.1, okm_set h.2 fun hk => by have := hv (by simpa using hk); exact this⟩
theorem sup_cap {x : Spec} {k : Nat} {v : Int} (hv : ∀ h : k < x.1.length, x.1[k] ≤ v) : Sup x (x.1.set k v, x.2) := by
  refine ⟨fun a h => ⟨by rw [List.length_set]; exact h.len, inC_set h.inc hv⟩, fun i a b _ h => ?_⟩
  unfold stp at h ⊢
  obtain ⟨mv, h1, h2⟩ := bs h
  rw [show ix (x.1.set k v, x.2).2 i = some mv from h1]
  simp only [Option.bind_eq_bind, Option.bind_some]
  split at h2
  · rename_i h3
    rw [if_pos (okm_set h3 hv)]
    exact h2
  · cases h2
theorem nodup_sub {α : Type} [DecidableEq α] : ∀ (R Q : List α), R.Nodup → (∀ v ∈ R, v ∈ Q) → R.length ≤ Q.length
  | [], _, _, _ => by simp
  | a :: R, Q, hn, hs => by
    rw [List.nodup_cons] at hn
    have ha := hs a (by simp)
    have := nodup_sub R (Q.erase a) hn.2 fun v hv => (List.mem_erase_of_ne (by rintro rfl; exact hn.1 hv)).2 (hs v (by simp [hv]))
    rw [List.length_erase_of_mem ha] at this
    have := List.length_pos_of_mem ha
    simp only [List.length_cons]
    omega
/-- What is asked of one shop. -/
theorem shop_body {F : Nat} (hF : 1000000 < F) {x y : Spec} {s t : List Int} (hx : V x) (hs : Stk x s) (ht : Stk x t) (h : Sup x y) {r : List Int × Int} {n : Int}
    (hr : (∃ k, D x s t k ∧ r.2 = 0 ∧ r.1.length = k ∧ run x r.1 s = some t) ∨ ((∀ k, ¬ D x s t k) ∧ r = ([], 13))) {Q : List (List Int)} (hQ : All x s Q) (hn : n = (Q.length : Int)) :
    ∃ b, law11_fine F y s = some b ∧ (b = true → ∃ r' q, bath_Reach F y s t = some r' ∧ bath_Stocks F y s = some q ∧ (((!decide (q.2 = 0)) || (decide (q.1 < n))) || ((decide (r.2 = 0)) && ((!decide (r'.2 = 0)) || (decide ((r.1.length : Int) < (r'.1.length : Int)))))) = false) := by
  refine ⟨fine y s, fine_eq hF, fun hb => ?_⟩
  obtain ⟨hy, hys⟩ := fine_ok hb
  obtain ⟨r', r1, r2⟩ := reach_ok (F := F) hF hy hys (h.stk t ht)
  obtain ⟨R, hR, q1⟩ := stocks_ok (F := F) hF hy hys
  refine ⟨r', _, r1, q1, ?_⟩
  have hle : Q.length ≤ R.length := nodup_sub Q R hQ.nd fun v hv => by
    obtain ⟨k, hk⟩ := hQ.dd v hv
    exact hR.all v k (h.rn hx hs hk.1)
  have h1 : ¬ (R.length : Int) < n := by omega
  simp only [h1, decide_true, Bool.not_true, decide_false, Bool.or_self, Bool.false_or]
  rcases hr with ⟨k, a1, a2, a3, _⟩ | ⟨_, rfl⟩
  · rcases r2 with ⟨k', b1, b2, b3, _⟩ | ⟨b1, _⟩
    · have := b1.le (h.rn hx hs a1.1)
      have h2 : ¬ (r.1.length : Int) < (r'.1.length : Int) := by omega
      simp [a2, b2, h2]
    · obtain ⟨k2, _, h3⟩ := D.ex (h.rn hx hs a1.1)
      exact (b1 k2 h3).elim
  · simp
theorem over_law {F : Nat} (hF : 2000000000 < F) (hW : law11_Works F = some true) {x : Spec} {s t : List Int} {by_ : List (KI .u8)} {more : Mv} {which : Int} (hB : ∀ b ∈ by_, OkB b) (hk : (Lit.int .u8 which).wf = true) : law11_BathOver F x s t by_ more which = some true := by
  have hF' : 1000000 < F := by omega
  unfold law11_BathOver
  have hf : law11_fine F (x.1, x.2) s = some (fine x s) := fine_eq hF'
  have ho : ref11_One F (x.1, x.2) t = some (one x t) := one_eq hF'
  simp only [hf, ho, Option.bind_eq_bind, Option.bind_some, hW]
  by_cases hfi : fine x s = true
  case neg => simp [gd, hfi]
  by_cases ht10 : t.length ≤ 10
  case neg =>
    have h2 : (10 : Int) < (t.length : Int) := by omega
    simp [gd, h2]
  have ht10' : ¬ (10 : Int) < (t.length : Int) := by omega
  simp only [hfi, ht10', decide_false, Bool.not_true, Bool.or_self, Bool.not_false, gd, cond_true, Option.bind_some, Bool.false_or]
  split
  · rfl
  rename_i hc
  simp only [Bool.or_eq_true, Bool.not_eq_true', decide_eq_false_iff_not, decide_eq_true_eq, not_or, Decidable.not_not] at hc
  obtain ⟨hc1, hc2⟩ := hc
  obtain ⟨hx, hs⟩ := fine_ok hfi
  obtain ⟨_, ht⟩ := one_ok.1 hc1
  have k1 := hx.k1
  have k5 := hx.k5
  have m8 := hx.m8
  have one1 : ∀ u, Stk x u → ref11_One F (x.1, x.2) u = some 0 := fun u hu => by
    rw [show ref11_One F (x.1, x.2) u = some (one x u) from one_eq hF', one_ok.2 ⟨hx, hu⟩]
  obtain ⟨w2, e, w3, w4, w5⟩ := walk_eq (F := F) hF' hx hs (by omega : by_.length ≤ 100) hB
  have he := hs.run hx w4
  have mk3 : bath_Make F (x.1, x.2) s w2 = some (e, 0) := by
    rw [show bath_Make F (x.1, x.2) s w2 = some (mk x s w2) from make_eq hF', mk_run hx hs w4 (by omega)]
  obtain ⟨r, r1, r2⟩ := reach_ok (F := F) hF' hx hs ht
  obtain ⟨p, p1, p2⟩ := reach_ok (F := F) hF' hx hs he
  obtain ⟨q, q1, q2⟩ := reach_ok (F := F) hF' hx he ht
  obtain ⟨Q, hQ, s1⟩ := stocks_ok (F := F) hF' hx hs
  simp only [show law11_Walk F (x.1, x.2) s by_ = _ from w3, mk3, one1 e he, Option.bind_some, show bath_Reach F (x.1, x.2) s t = _ from r1, show bath_Reach F (x.1, x.2) s e = _ from p1, show bath_Reach F (x.1, x.2) e t = _ from q1, show bath_Stocks F (x.1, x.2) s = _ from s1, decide_true, Bool.not_true, cond_true, Bool.not_false, Bool.or_self, Bool.false_eq_true, if_false, Bool.or_false]
  obtain ⟨kp, d1, d2, d3⟩ : ∃ k, D x s e k ∧ p.2 = 0 ∧ p.1.length = k := by
    rcases p2 with ⟨k, a1, a2, a3, _⟩ | ⟨a1, _⟩
    · exact ⟨k, a1, a2, a3⟩
    · obtain ⟨k2, _, h3⟩ := D.ex (⟨w2, rfl, w4⟩ : Rn x w2.length s e)
      exact (a1 k2 h3).elim
  have hcond : ((((!decide (p.2 = 0))) || ((decide (q.2 = 0)) && ((!decide (r.2 = 0)) || (decide ((w64 ((p.1.length : Int) + (q.1.length : Int))) < (r.1.length : Int)))))) || ((!decide (r.2 = 0)) && (!decide (r.2 = 13)))) = false := by
    rw [d2]
    have hpl := d1.small hx hs
    rcases q2 with ⟨k, a1, a2, a3, _⟩ | ⟨a1, rfl⟩
    · have hql := a1.small hx he
      obtain ⟨k2, h2, h3⟩ := D.ex (d1.1.trans a1.1)
      rcases r2 with ⟨k3, b1, b2, b3, _⟩ | ⟨b1, _⟩
      · have := b1.uniq h3
        rw [w64_in (by omega)]
        have h4 : ¬ (p.1.length : Int) + (q.1.length : Int) < (r.1.length : Int) := by omega
        simp [b2, h4]
      · exact (b1 k2 h3).elim
    · rcases r2 with ⟨k3, b1, b2, b3, _⟩ | ⟨b1, rfl⟩
      · simp [b2]
      · simp
  rw [hcond]
  simp only [Bool.false_eq_true, if_false]
  rw [app_some (by simp; omega)]
  simp only [Option.bind_some, List.nil_append]
  rw [app_some (by simp; omega), app_some (by simp; omega)]
  simp only [Option.bind_some, List.nil_append]
  obtain ⟨k, e1, e2⟩ := rem_nat (okb_rng hk) (n := (x.1.length : Int)) (by omega) (by omega)
  have hk' : k < x.1.length := by omega
  have hcap := hx.cap _ (List.getElem_mem hk')
  simp only [e1, Option.bind_some, ix_nat hk']
  have step : ∀ y : Spec, Sup x y → ((law11_fine F (y.1, y.2) s).bind fun x24 => if (!x24) = true then some (Sum.inr ()) else (bath_Reach F (y.1, y.2) s t).bind fun x26 => (bath_Stocks F (y.1, y.2) s).bind fun x28 =>
      if (((!decide (x28.2 = 0)) || (decide (x28.1 < (Q.length : Int)))) || ((decide (r.2 = 0)) && ((!decide (x26.2 = 0)) || (decide ((r.1.length : Int) < (x26.1.length : Int)))))) = true then some (Sum.inl false) else some (Sum.inr ()) : Option (Sum Bool Unit)) = some (.inr ()) := by
    intro y hy
    obtain ⟨b, b1, b2⟩ := shop_body (F := F) hF' hx hs ht hy r2 hQ rfl
    rw [show law11_fine F (y.1, y.2) s = some b from b1]
    cases b with
    | false => rfl
    | true =>
      obtain ⟨r', q', b3, b4, b5⟩ := b2 rfl
      rw [show bath_Reach F (y.1, y.2) s t = some r' from b3, show bath_Stocks F (y.1, y.2) s = some q' from b4]
      simp only [Option.bind_some, Bool.not_true, Bool.false_eq_true, if_false]
      rw [b5]
      rfl
  have hv : w64 (x.1[k] + 1) = x.1[k] + 1 := w64_in (by omega)
  have s1' := step (x.1, x.2 ++ [more]) sup_more
  have s2' := step (x.1.set k (x.1[k] + 1), x.2) (sup_cap fun _ => by omega)
  have loop : ∀ m, 3 ≤ m → law11_BathOver_l1 F x s t r ((Q.length : Int), 0) (k : Int) x.1[k] (x.1, x.2 ++ [(more.1, more.2)]) (x.1, x.2) m 0 = some (.inr ()) := by
    intro m hm
    obtain ⟨m, rfl⟩ : ∃ q, m = q + 3 := ⟨m - 3, by omega⟩
    have i0 : ∀ a b : Spec, ix [a, b] (0 : Int) = some a := fun _ _ => rfl
    have i1 : ∀ a b : Spec, ix [a, b] (1 : Int) = some b := fun _ _ => rfl
    have w0 : w64 (0 + 1) = 1 := by decide
    have w1 : w64 (1 + 1) = 2 := by decide
    unfold law11_BathOver_l1
    rw [if_pos (by decide)]
    simp only [Option.bind_eq_bind, i0, Option.bind_some, hv]
    rw [s1']
    simp only [Option.bind_some, w0]
    unfold law11_BathOver_l1
    rw [if_pos (by decide)]
    simp only [Option.bind_eq_bind, i1, Option.bind_some, hv]
    rw [show rset x.1 (k : Int) (x.1[k] + 1) = x.1.set k (x.1[k] + 1) from rfl, s2']
    simp only [Option.bind_some, w1]
    unfold law11_BathOver_l1
    rw [if_neg (by decide)]
  rw [loop F (by omega)]
  rfl
end Go.Proofs.Ytboefnpnoojfpaa
