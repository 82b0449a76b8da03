/-
  Laws in plain Lean, with no program in sight. Condition: each section says its own.
-/
import Derived.Test.YthppacohnciinaaLawO
import Derived.Test.YthppacohnciinaaArgs2
import Derived.Test.YthppacohnciinaaPureM
set_option linter.unusedVariables false
set_option linter.unusedSimpArgs false
/-! SpeedMirrored, in plain words. Condition: the lists are as the arguments' form has them. -/
namespace Go.Proofs.Ythppacohnciinaa
open Go Go.Md Go.RowKit
section
variable {x : Int × List RR} {F : Nat} {t : Int}
/-- A rule whose ends are exchanged. -/
def swp (r : RR) : RR := (r.2.1, r.1, r.2.2)
theorem swp_swp (r : RR) : swp (swp r) = r := rfl
/-- The rules between turns alone. -/
def inner (l : List RR) : List RR := l.filter fun r => decide (0 < r.1) && decide (0 < r.2.1)
def mirS (x : Int × List RR) : Int × List RR := (x.1, x.2.map swp)
theorem mir_mir : mirS (mirS x) = x := by
  unfold mirS
  simp only [List.map_map]
  have : swp ∘ swp = id := by funext r; rfl
  rw [this, List.map_id]
def Between (x : Int × List RR) : Prop := ∀ r ∈ x.2, 0 < r.1 ∧ 0 < r.2.1
theorem Between.mir (h : Between x) : Between (mirS x) := fun r hr => by
  obtain ⟨q, hq, rfl⟩ := List.mem_map.1 hr
  exact ⟨(h q hq).2, (h q hq).1⟩
theorem csheet_mk (h1 : x.2.length ≤ 60) (h2 : 1 ≤ x.1) (h3 : x.1 ≤ 20) (h4 : ∀ r ∈ x.2, okRule x.1 r = true) : csheet x = 0 := by
  unfold csheet
  rw [if_neg (by omega), if_pos (by simp [inR]; omega), if_pos (List.all_eq_true.2 h4)]
theorem csheet_mir (h : csheet x = 0) : csheet (mirS x) = 0 := by
  obtain ⟨h1, h2, h3, h4⟩ := csheet_ok h
  refine csheet_mk (by simp [mirS]; exact h1) h2 h3 fun r hr => ?_
  obtain ⟨q, hq, rfl⟩ := List.mem_map.1 hr
  have := h4 q hq
  simp only [okRule, swp, mirS, Bool.and_eq_true, Bool.not_eq_true'] at this ⊢
  exact ⟨⟨⟨this.1.1.2, this.1.1.1⟩, decide_eq_false fun e => of_decide_eq_false this.1.2 e.symm⟩, this.2⟩
theorem csheet_inner (h : csheet x = 0) : csheet (x.1, inner x.2) = 0 := by
  obtain ⟨h1, h2, h3, h4⟩ := csheet_ok h
  exact csheet_mk (Nat.le_trans (List.length_filter_le _ _) h1) h2 h3 fun r hr => h4 r (List.mem_filter.1 hr).1
theorem between_inner : Between (x.1, inner x.2) := fun r hr => by
  have := (List.mem_filter.1 hr).2
  simpa using this
def mir (s : List Int) : List Int := s.map fun v => 100000 - v
theorem ofS_mir {s : List Int} (t0 : 1 ≤ t) (t1 : t ≤ s.length) : ofS (mir s) t = 100000 - ofS s t := by
  unfold ofS mir
  rw [if_neg (by omega), if_neg (by omega), show t - 1 = ((t - 1).toNat : Int) by omega, ix_nat (show (t - 1).toNat < (s.map fun v => 100000 - v).length by simp; omega), ix_nat (show (t - 1).toNat < s.length by omega)]
  simp
/-- True speeds, mirrored, are true for the sheet whose rules are turned round. -/
theorem mir_true (hb : Between x) {s : List Int} (hs : cspeeds x s = 0) : cspeeds (mirS x) (mir s) = 0 := by
  obtain ⟨h, hl, hv, hr⟩ := true_pot hs
  obtain ⟨h1, h2, h3, _⟩ := csheet_ok h
  refine pot_true (csheet_mir h) (by simpa [mir, mirS] using hl) fun r hr' => ?_
  rcases List.mem_append.1 hr' with hm | hm
  · obtain ⟨q, hq, rfl⟩ := List.mem_map.1 hm
    have hqw : q ∈ whole x := List.mem_append.2 (.inl hq)
    have hok := whole_ok h q hqw
    have e := hr q hqw
    have := hb q hq
    show ofS (mir s) q.1 ≤ ofS (mir s) q.2.1 + q.2.2
    rw [ofS_mir (by omega) (by rw [hl]; exact hok.2.1), ofS_mir (by omega) (by rw [hl]; exact hok.2.2.2.1)]
    omega
  · obtain ⟨k, hk, hm⟩ := List.mem_flatMap.1 hm
    have hk := List.mem_range.1 hk
    have hk2 : (k : Int) + 1 ≤ x.1 := by
      have : k < x.1.toNat := hk
      omega
    obtain ⟨m1, m2⟩ := turn_mem (x := x) (t := (k : Int) + 1) (by omega) hk2
    have e1 := hr _ m1
    have e2 := hr _ m2
    have z : ofS s 0 = 0 := rfl
    have z2 : ofS (mir s) 0 = 0 := rfl
    simp only [z] at e1 e2
    simp only [List.mem_cons, List.not_mem_nil, or_false] at hm
    rcases hm with rfl | rfl
    · show ofS (mir s) ((k : Int) + 1) ≤ ofS (mir s) 0 + 100000
      rw [z2, ofS_mir (by omega) (by omega)]
      omega
    · show ofS (mir s) 0 ≤ ofS (mir s) ((k : Int) + 1) + 0
      rw [z2, ofS_mir (by omega) (by omega)]
      omega
theorem mir_pot (h : csheet x = 0) (hb : Between x) (hP : Pot x) : Pot (mirS x) :=
  ⟨_, (true_pot (mir_true hb (ends_true h hP true))).2.2.2⟩
theorem mir_pot' (h : csheet x = 0) (hb : Between x) (hP : Pot (mirS x)) : Pot x := by
  have := mir_pot (csheet_mir h) hb.mir hP
  rwa [mir_mir] at this
theorem mir_le (h : csheet x = 0) (hb : Between x) (hP : Pot x) (t0 : 1 ≤ t) (t1 : t ≤ x.1) : 100000 + D x t 0 ≤ D (mirS x) 0 t := by
  have hl : ((endsL x false).length : Int) = x.1 := by rw [endsL_len]; omega
  have e := true_dist (csheet_mir h) (mir_pot h hb hP) (mir_true hb (ends_true h hP false)) (a := 0) (b := t) (by omega) (show 0 ≤ x.1 by omega) (by omega) t1
  rw [ofS_mir t0 (by omega), ofS_ends h hP (by omega) t1, if_neg (by simp)] at e
  have z2 : ofS (mir (endsL x false)) 0 = 0 := rfl
  rw [z2] at e
  omega
theorem mir_ge (h : csheet x = 0) (hb : Between x) (hP : Pot x) (t0 : 1 ≤ t) (t1 : t ≤ x.1) : D (mirS x) 0 t ≤ 100000 + D x t 0 := by
  have hP2 := mir_pot h hb hP
  have h2 := csheet_mir h
  have hs := mir_true hb.mir (ends_true h2 hP2 true)
  rw [mir_mir] at hs
  have hl : ((endsL (mirS x) true).length : Int) = x.1 := by rw [endsL_len]; show ((x.1.toNat : Nat) : Int) = x.1; omega
  have e := true_dist h hP hs (a := t) (b := 0) (by omega) t1 (by omega) (by omega)
  rw [ofS_mir t0 (by omega), ofS_ends h2 hP2 (by omega) t1, if_pos rfl] at e
  have z2 : ofS (mir (endsL (mirS x) true)) 0 = 0 := rfl
  rw [z2] at e
  omega
theorem mir_D (h : csheet x = 0) (hb : Between x) (hP : Pot x) (t0 : 1 ≤ t) (t1 : t ≤ x.1) : D (mirS x) 0 t = 100000 + D x t 0 ∧ D x 0 t = 100000 + D (mirS x) t 0 := by
  have a1 := mir_le h hb hP t0 t1
  have a2 := mir_ge h hb hP t0 t1
  have hP2 := mir_pot h hb hP
  have a3 := mir_le (csheet_mir h) hb.mir hP2 t0 t1
  have a4 := mir_ge (csheet_mir h) hb.mir hP2 t0 t1
  rw [mir_mir] at a3 a4
  omega
theorem mirrored_l1 (hl : x.2.length ≤ 60) : ∀ (m k : Nat) (A B : List RR), A.length ≤ k → B.length ≤ k → k ≤ x.2.length → x.2.length - k < m →
    law01_SpeedMirrored_l1 F x m (k : Int) (x.1, A) (x.1, B) = some ((x.1, A ++ inner (x.2.drop k)), (x.1, B ++ (inner (x.2.drop k)).map swp))
  | 0, k, _, _, _, _, _, hm => by omega
  | m + 1, k, A, B, hA, hB, hk, hm => by
    unfold law01_SpeedMirrored_l1
    by_cases hlt : k < x.2.length
    · rw [if_pos (by rw [decide_eq_true_eq]; omega), ix_nat hlt, List.drop_eq_getElem_cons hlt]
      simp only [Option.bind_eq_bind, Option.bind_some, law01_Rule]
      generalize x.2[k] = r
      rw [w64_in (n := (k : Int) + 1) (by omega)]
      by_cases hr : (decide (0 < r.1) && decide (0 < r.2.1)) = true
      · rw [if_pos hr, app_some (by simp only [List.length_cons, List.length_nil]; omega), app_some (by simp only [List.length_cons, List.length_nil]; omega)]
        simp only [Option.bind_some]
        have := mirrored_l1 hl m (k + 1) (A ++ [(r.1, r.2.1, r.2.2)]) (B ++ [(r.2.1, r.1, r.2.2)]) (by simp; omega) (by simp; omega) (by omega) (by omega)
        rw [show ((k + 1 : Nat) : Int) = (k : Int) + 1 by omega] at this
        rw [this]
        have e : inner (r :: x.2.drop (k + 1)) = r :: inner (x.2.drop (k + 1)) := by unfold inner; rw [List.filter_cons_of_pos (by simpa using hr)]
        rw [e]
        simp [swp]
      · rw [if_neg hr]
        simp only [Option.bind_some]
        have := mirrored_l1 hl m (k + 1) A B (by omega) (by omega) (by omega) (by omega)
        rw [show ((k + 1 : Nat) : Int) = (k : Int) + 1 by omega] at this
        rw [this]
        have e : inner (r :: x.2.drop (k + 1)) = inner (x.2.drop (k + 1)) := by unfold inner; rw [List.filter_cons_of_neg (by simpa using hr)]
        rw [e]
    · have hk2 : k = x.2.length := by omega
      rw [if_neg (by rw [decide_eq_true_eq]; omega), List.drop_eq_nil_of_le (by omega)]
      simp [inner]
theorem mirrored_l2 {v : List Int} (hl : v.length ≤ 60) (hv : ∀ u ∈ v, 0 ≤ u ∧ u ≤ 100000) : ∀ (m k : Nat) (A : List Int), A.length ≤ k → k ≤ v.length → v.length - k < m →
    law01_SpeedMirrored_l2 F v m A (k : Int) = some (A ++ mir (v.drop k))
  | 0, k, _, _, _, hm => by omega
  | m + 1, k, A, hA, hk, hm => by
    unfold law01_SpeedMirrored_l2
    by_cases hlt : k < v.length
    · rw [if_pos (by rw [decide_eq_true_eq]; omega), ix_nat hlt, List.drop_eq_getElem_cons hlt]
      have hb := hv _ (List.getElem_mem hlt)
      simp only [Option.bind_eq_bind, Option.bind_some]
      generalize v[k] = r at hb
      rw [w64_in (n := (k : Int) + 1) (by omega), w64_in (n := 100000 - r) (by omega), app_some (by simp only [List.length_cons, List.length_nil]; omega)]
      simp only [Option.bind_some]
      have := mirrored_l2 hl hv m (k + 1) (A ++ [100000 - r]) (by simp; omega) (by omega) (by omega)
      rw [show ((k + 1 : Nat) : Int) = (k : Int) + 1 by omega] at this
      rw [this]
      simp [mir]
    · rw [if_neg (by rw [decide_eq_true_eq]; omega), List.drop_eq_nil_of_le (by omega)]
      simp [mir]
theorem speedMirrored_true (x : Int × List RR) (bys : List (KI .u16)) (u : Int) (hby : ∀ y ∈ bys, (Lit.int .u16 y.v).wf = true) (hu : (Lit.int .u8 u).wf = true) : law01_SpeedMirrored FF x bys u = some true := by
  have hby := fun y hy => wf_u16 (hby y hy)
  have hu := wf_u8 hu
  unfold law01_SpeedMirrored
  have ex : (x.1, x.2) = x := rfl
  simp only [ex, Option.bind_eq_bind, worksF, great_eq, Option.bind_some, refSheet_eq (show 100 < FF by decide)]
  have hgd : gd (!decide (70 < (x.2.length : Int))) (some (csheet x)) 0 = some (if 70 < (x.2.length : Int) then 0 else csheet x) := by
    by_cases h : 70 < (x.2.length : Int) <;> simp [gd, h]
  rw [hgd]
  simp only [Option.bind_some]
  by_cases hc : ((decide (70 < (x.2.length : Int)) || !decide ((if 70 < (x.2.length : Int) then 0 else csheet x) = 0)) || decide (40 < (bys.length : Int))) = true
  · rw [if_pos hc]
  · rw [if_neg hc]
    simp only [Bool.or_eq_true, Bool.not_eq_true', decide_eq_false_iff_not, decide_eq_true_eq, not_or, Classical.not_not] at hc
    obtain ⟨⟨g1, h⟩, g2⟩ := hc
    rw [if_neg g1] at h
    obtain ⟨h1, h2, h3, _⟩ := csheet_ok h
    have el := mirrored_l1 (F := FF) (x := x) h1 (FF - 3 + 3) 0 [] [] (by simp) (by simp) (by omega) (by rw [show FF - 3 + 3 = FF by decide]; have := hF1; omega)
    rw [show FF - 3 + 3 = FF by decide] at el
    have ez : ((0 : Nat) : Int) = 0 := rfl
    rw [ez] at el
    simp only [List.drop_zero, List.nil_append] at el
    have hu2 := tmod_in (n := x.1) hu.1 (by omega)
    rw [el, w64_in (n := u) (by omega), rem_in (by omega)]
    simp only [Option.bind_some]
    generalize u.tmod x.1 = k at hu2
    rw [w64_in (n := 1 + k) (by omega)]
    have hA := csheet_inner h
    have hbA : Between (x.1, inner x.2) := between_inner
    have eB : (x.1, List.map swp (inner x.2)) = mirS (x.1, inner x.2) := rfl
    rw [eB]
    have hx1 : (x.1, inner x.2).1 = x.1 := rfl
    generalize (x.1, inner x.2) = y at hA hbA hx1
    simp only [span_eq hFF, Option.bind_some]
    have hB := csheet_mir hA
    have ht : inR 1 y.1 (1 + k) = true := by rw [hx1]; simp [inR]; omega
    have ht2 : inR 1 (mirS y).1 (1 + k) = true := ht
    obtain ⟨c1, c2⟩ := clashes_eq hA (F := FF) hF1
    obtain ⟨c3, c4⟩ := clashes_eq hB (F := FF) hF1
    by_cases hP : Pot y
    · have hP2 := mir_pot hA hbA hP
      obtain ⟨d1, d2⟩ := mir_D hA hbA hP (t := 1 + k) (by omega) (by omega)
      rw [sp3 hA ht hP, sp3 hB ht2 hP2, c1 hP]
      obtain ⟨v, v1, v2, v3, v4⟩ := true_eq hA hP (bys := bys) hby (by omega) hF1
      have hvb := (true_pot v4).2.2.1
      have el2 := mirrored_l2 (F := FF) (v := v) (by omega) hvb (FF - 3 + 3) 0 [] (by simp) (by omega) (by rw [show FF - 3 + 3 = FF by decide]; have := hF1; omega)
      rw [show FF - 3 + 3 = FF by decide, ez] at el2
      simp only [List.drop_zero, List.nil_append] at el2
      rw [v1]
      have b1 := D_bd hA hP (a := 0) (t := 1 + k) (by omega) (by omega) (by omega) (by omega)
      have b2 := D_bd hA hP (a := 1 + k) (t := 0) (by omega) (by omega) (by omega) (by omega)
      simp only [Option.bind_some, el2, law01_rg, speeds_eq hF2, v4, mir_true hbA v4, decide_true, Bool.not_true, Bool.false_and, Bool.or_self, Bool.false_eq_true, if_false]
      rw [w64_in (n := 100000 - D y 0 (1 + k)) (by omega), w64_in (n := 100000 - -D y (1 + k) 0) (by omega)]
      have e : ((-D (mirS y) (1 + k) 0, D (mirS y) 0 (1 + k)) : Int × Int) = (100000 - D y 0 (1 + k), 100000 - -D y (1 + k) 0) := by
        rw [Prod.mk.injEq]
        omega
      rw [e]
      simp [gd]
    · have hP2 : ¬ Pot (mirS y) := fun h => hP (mir_pot' hA hbA h)
      rw [sp4 hA ht hP, sp4 hB ht2 hP2, c2 hP, c4 hP2]
      simp [gd]
end
end Go.Proofs.Ythppacohnciinaa
