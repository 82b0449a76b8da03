/-
  RightKept. Condition: there are enough rounds, and the layer works on its own book.
-/
import Derived.Test.YtdimoehnkagghaaSpecK
import Derived.Test.YtdimoehnkagghaaPureH
namespace Go.Proofs.Ytdimoehnkagghaa
open Go Go.Md Go.RowKit
section
variable {F : Nat} {s : TBook} {f : List Int}
theorem run_ok_steps : ∀ {l : List (Bool × Int)} {y z : List Int}, runC s f l y = some z → ∀ st ∈ l, ∃ r, ruleOf s f st = some r ∧ r.2 ∈ z
  | [], _, _, _, st, hst => by cases hst
  | a :: l, y, z, h, st, hst => by
    unfold runC at h
    split at h
    · cases h
    · rename_i y' hy
      have mono : ∀ {l : List (Bool × Int)} {y z : List Int}, runC s f l y = some z → ∀ x ∈ y, x ∈ z := by
        intro l
        induction l with
        | nil => intro y z h x hx; cases h; exact hx
        | cons b l ih =>
          intro y z h x hx
          unfold runC at h
          split at h
          · cases h
          · rename_i w hw
            refine ih h x ?_
            unfold stepC at hw
            split at hw
            · cases hw
            · split at hw
              · cases hw; exact List.mem_append.2 (.inl hx)
              · cases hw
      rcases List.mem_cons.1 hst with rfl | hst
      · unfold stepC at hy
        split at hy
        · cases hy
        · rename_i r hr
          split at hy
          · cases hy
            exact ⟨r, hr, mono h _ (by simp)⟩
          · cases hy
      · exact run_ok_steps h st hst
theorem kept_loop (hF : 2000000000 < F) (hs : Sound s) (hg : InG s f) {x11 : List Int × Int} (hS : Sm x11.1) (hx : ∀ x, x ∈ x11.1 ↔ Hd s f x) {l : List (Bool × Int)} {z : List Int} (hr : runC s f l s.2.1 = some z) (hl : l.length ≤ 60) : ∀ m (k : Nat), k ≤ l.length → l.length - k < m → law10_RightKept_l1 F s x11 l m (k : Int) = some (.inr ())
  | 0, k, _, h => by omega
  | m + 1, k, hk, h => by
    simp only [law10_RightKept_l1]
    by_cases hlt : k < l.length
    · rw [if_pos (ltd hlt), ix_nat hlt, w64_succ (by omega)]
      obtain ⟨r, hru, hrz⟩ := run_ok_steps hr _ (List.getElem_mem hlt)
      have e : (if l[k].1 = true then (ix s.2.2.2.1 l[k].2).bind fun x32 => some x32.2 else (ix s.2.2.1 l[k].2).bind fun x34 => some x34.2) = some r.2 := by
        unfold ruleOf at hru
        split at hru
        · rename_i hb
          split at hru
          · rename_i hi
            have := hg _ hi
            rw [if_pos hb]
            unfold ix
            rw [if_pos this.1, hru]
            rfl
          · cases hru
        · rename_i hb
          split at hru
          · rename_i hi
            rw [if_neg hb]
            unfold ix
            rw [if_pos hi, hru]
            rfl
          · cases hru
      simp only [Option.bind_eq_bind, Option.bind_some]
      rw [e]
      simp only [Option.bind_some]
      rw [in_eq (by omega) hS]
      have hm : r.2 ∈ x11.1 := (hx _).2 (run_hd hg hr (fun _ h => .held h) _ hrz)
      simp only [Option.bind_some]
      rw [if_neg (by simpa using hm)]
      exact kept_loop hF hs hg hS hx hr hl m (k + 1) (by omega) (by omega)
    · have : k = l.length := by omega
      subst this
      rw [if_neg nltd]
theorem kept_law (hF : 2000000000 < F) (hW : law10_Works F = some true) {x1 x2 : Int} {u : List (KI .u8)} {l : List (Bool × Int)} (h1 : (Lit.int .u16 x1).wf = true) (h2 : (Lit.int .u8 x2).wf = true) (h3 : ∀ x ∈ u, (Lit.int .u8 x.v).wf = true) : law10_RightKept F s x1 x2 u l = some true := by
  unfold law10_RightKept
  obtain ⟨b, e1, e2⟩ := fine_eq (F := F) (s := s) hF
  rw [show (s.1, s.2.1, s.2.2.1, s.2.2.2.1, s.2.2.2.2) = s from rfl, e1, hW]
  simp only [Option.bind_eq_bind, Option.bind_some]
  by_cases hc : (((!b) || (decide (60 < (u.length : Int)))) || (decide (100 < (l.length : Int)))) = true
  · rw [if_pos hc]
  · rw [if_neg hc]
    rw [Bool.not_eq_true, Bool.or_eq_false_iff, Bool.or_eq_false_iff, decide_eq_false_iff_not, decide_eq_false_iff_not] at hc
    obtain ⟨h, h0⟩ := e2 (by simpa using hc.1.1)
    have hs := (cb_zero h0).1
    obtain ⟨g1, g2, hf⟩ := Granted_eq (F := F) hF hs (wf_u16 h1)
    generalize lst x1.toNat s.2.2.2.1.length = f at g1 g2 hf
    have hq : gq s f = 0 := by unfold gq; rw [if_pos h0, if_pos g2]
    have hg := rise_in g2
    have hfl : f.length ≤ 12 := by have := rise_len g2; have := hs.given; omega
    rw [g1]
    simp only [Option.bind_some]
    rw [check_eq hF h hf]
    simp only [Option.bind_some]
    obtain ⟨c, h4, h5⟩ := Broken_eq (F := F) hF h hf
    rw [h4]
    simp only [Option.bind_some]
    obtain ⟨M, h6, h7, h8, h9, h10⟩ := holds_val (F := F) hF h hf hq
    rw [h6]
    simp only [Option.bind_some]
    have hw : ck s f = if tb s f < 0 then 0 else 23 := by unfold ck; rw [if_pos hq]
    rw [hw]
    simp only [if_pos hq]
    obtain ⟨wl, wy, k1, k2, k3⟩ := Walk_eq (F := F) hF hs hg hfl (fun x hx => wf_u8 (h3 x hx)) (by omega)
    have k4 := kept_loop (F := F) hF hs hg (x11 := (lst M s.1.toNat, 0)) h10 h9 k2 k3 F 0 (by omega) (by omega)
    simp only [Int.natCast_zero] at k4
    have there : ∀ {t : Nat}, t < s.2.2.2.2.length → (∀ x ∈ s.2.2.2.2.getD t [], Hd s f x) → ix s.2.2.2.2 (t : Int) = some (s.2.2.2.2.getD t []) ∧ law10_there F (lst M s.1.toNat) (s.2.2.2.2.getD t []) = some true := fun {t} ht hh => by
      have e3 : s.2.2.2.2.getD t [] ∈ s.2.2.2.2 := by
        rw [List.getD_eq_getElem?_getD, List.getElem?_eq_getElem ht]
        exact List.getElem_mem ht
      refine ⟨by rw [ix_nat ht]; simp [List.getD_eq_getElem?_getD, List.getElem?_eq_getElem ht], ?_⟩
      rw [there_eq (by omega) h10 (hs.smr (hs.taboo _ e3)), allIn_iff.2 fun x hx => (h9 x).2 (hh x hx)]
    have hx2 := wf_u8 h2
    have fin : (((law10_Walk F s f u).bind fun x29 => (law10_RightKept_l1 F s (lst M s.1.toNat, 0) x29 F 0).bind fun o => match o with
        | .inl r => some r
        | .inr () => if (decide ((s.2.2.2.2.length : Int) = 0)) = true then (gd (decide ((if tb s f < 0 then (0 : Int) else 23) = 0)) (some true) false).bind fun x36 => some ((decide ((if tb s f < 0 then (0 : Int) else 23) = 0)) && x36)
          else (rem (w64 x2) (s.2.2.2.2.length : Int)).bind fun x37 => (right_CheckChain F s f x37 x29).bind fun x38 => (right_CheckChain F s f x37 l).bind fun x39 =>
            if (((!decide (x38 = 0)) && (!decide (x38 = 14))) || ((decide ((if tb s f < 0 then (0 : Int) else 23) = 0)) && ((decide (x38 = 0)) || (decide (x39 = 0))))) = true then some false
            else (if (!decide (x38 = 0)) = true then (if (!decide (x39 = 0)) = true then some true else (ix s.2.2.2.2 x37).bind fun x41 => (law10_there F (lst M s.1.toNat) x41).bind fun x42 => if x42 = true then some true else some false)
              else (ix s.2.2.2.2 x37).bind fun x45 => (law10_there F (lst M s.1.toNat) x45).bind fun x46 => if x46 = true then (if (!decide (x39 = 0)) = true then some true else (ix s.2.2.2.2 x37).bind fun x48 => (law10_there F (lst M s.1.toNat) x48).bind fun x49 => if x49 = true then some true else some false) else some false)) : Option Bool) = some true := by
      rw [k1]
      simp only [Option.bind_some]
      rw [k4]
      simp only [Option.bind_some]
      by_cases hz : s.2.2.2.2.length = 0
      · have : tb s f < 0 := by
          rw [tb_neg]
          intro t ht
          rw [List.length_eq_zero_iff.1 hz] at ht
          cases ht
        rw [if_pos (by simp [hz])]
        simp [this, gd]
      · rw [if_neg (by simp only [decide_eq_true_eq]; omega)]
        have e5 : w64 x2 = ((x2.toNat : Nat) : Int) := by rw [w64_in (by omega)]; omega
        have hlt : x2.toNat % s.2.2.2.2.length < s.2.2.2.2.length := Nat.mod_lt _ (by omega)
        rw [e5, rem_nat (by omega)]
        simp only [Option.bind_some]
        generalize x2.toNat % s.2.2.2.2.length = t at hlt
        rw [checkChain_eq hF h hf, checkChain_eq hF h hf]
        simp only [Option.bind_some]
        have r1 := ccv_run (t := (t : Int)) hq ⟨by omega, by omega⟩ (by omega) k2
        have no : ∀ {l' : List (Bool × Int)}, ccv s f (t : Int) l' = 0 → (∀ x ∈ s.2.2.2.2.getD t [], Hd s f x) ∧ ¬ tb s f < 0 := fun {l'} hz => by
          have := (ccv_zero hz).2.2.2
          rw [Int.toNat_natCast] at this
          exact ⟨this, tb_hd hlt this⟩
        by_cases c1 : ccv s f (t : Int) wl = 0
        · obtain ⟨n1, n2⟩ := no c1
          obtain ⟨t1, t2⟩ := there hlt n1
          rw [c1, if_neg (by simp [n2]), if_neg (by simp), t1]
          simp only [Option.bind_some]
          rw [t2]
          simp
        · have c2 : ccv s f (t : Int) wl = 14 := by omega
          by_cases c3 : ccv s f (t : Int) l = 0
          · obtain ⟨n1, n2⟩ := no c3
            obtain ⟨t1, t2⟩ := there hlt n1
            rw [c2, c3, if_neg (by simp [n2]), if_pos (by simp), if_neg (by simp), t1]
            simp only [Option.bind_some]
            rw [t2]
            simp
          · rw [c2, if_neg (by simp [c3]), if_pos (by simp), if_pos (by simpa using c3)]
    by_cases ht : tb s f < 0
    · simp only [if_pos ht] at fin ⊢
      rw [if_neg (by simp), if_neg (by simp)]
      simp only [Option.bind_some]
      rw [if_neg (by simp)]
      simp at fin ⊢
      exact fin
    · simp only [if_neg ht] at fin ⊢
      obtain ⟨c1, c2⟩ := h5 hq ht
      obtain ⟨_, c3, c4, c5⟩ := ccv_zero c2
      rw [if_neg (by simp), if_pos (by simp), if_neg (by simpa using ht), if_neg (by simp only [decide_eq_true_eq]; omega), checkChain_eq hF h hf, CheckChain_eq hF h hf, c2]
      obtain ⟨t1, t2⟩ := there (t := (tb s f).toNat) (by omega) c5
      rw [show (((tb s f).toNat : Nat) : Int) = tb s f by omega] at t1
      simp only [Option.bind_some]
      rw [if_neg (by simp), if_neg (by simp), t1]
      simp only [Option.bind_some]
      rw [t2]
      simp only [Option.bind_some]
      rw [if_neg (by simp)]
      simp at fin ⊢
      exact fin
end
end Go.Proofs.Ytdimoehnkagghaa
