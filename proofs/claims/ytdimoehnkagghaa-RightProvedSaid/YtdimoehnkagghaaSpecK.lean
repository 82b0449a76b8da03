/-
  RightKept. Condition: there are enough rounds, and the layer works on its own book.
-/
import Derived.Test.YtdimoehnkagghaaSpecJ
namespace Go.Proofs.Ytdimoehnkagghaa
open Go Go.Md Go.RowKit

theorem wf_u8 {x : Int} (h : (Lit.int .u8 x).wf = true) : 0 ≤ x ∧ x ≤ 255 := by
  simp only [Lit.wf, Bool.and_eq_true, decide_eq_true_eq] at h
  exact h
theorem wf_u16 {x : Int} (h : (Lit.int .u16 x).wf = true) : 0 ≤ x ∧ x ≤ 65535 := by
  simp only [Lit.wf, Bool.and_eq_true, decide_eq_true_eq] at h
  exact h
theorem band16 {a b : Nat} (ha : a < 65536) (hb : b < 65536) : band .u16 (a : Int) (b : Int) = ((a &&& b : Nat) : Int) := by
  unfold band
  rw [BitVec.toNat_and]
  have e : ∀ {c : Nat}, c < 65536 → (BitVec.ofInt 16 (c : Int)).toNat = c := fun {c} hc => by
    rw [BitVec.toNat_ofInt]
    omega
  show IntKind.u16.wrap (((BitVec.ofInt 16 (a : Int)).toNat &&& (BitVec.ofInt 16 (b : Int)).toNat : Nat) : Int) = _
  rw [e ha, e hb]
  have h : a &&& b < 65536 := Nat.lt_of_le_of_lt Nat.and_le_left ha
  generalize a &&& b = c at h
  unfold IntKind.wrap
  simp [IntKind.bits, IntKind.signed]
  omega
theorem riseG_snoc {n x : Int} : ∀ {l : List Int} {p : Int}, riseG n p l = true → (∀ y ∈ l, y < x) → p < x → x < n → riseG n p (l ++ [x]) = true
  | [], p, _, _, h1, h2 => by
    rw [List.nil_append, riseG_cons]
    simp [riseG]
    omega
  | a :: l, p, h, hl, h1, h2 => by
    rw [riseG_cons, Bool.and_eq_true] at h
    rw [List.cons_append, riseG_cons, h.1, Bool.true_and]
    exact riseG_snoc h.2 (fun y hy => hl y (List.mem_cons_of_mem _ hy)) (hl a List.mem_cons_self) h2
theorem riseG_mono {n n' : Int} (h : n ≤ n') : ∀ {l : List Int} {p : Int}, riseG n p l = true → riseG n' p l = true
  | [], _, _ => rfl
  | a :: l, p, h1 => by
    rw [riseG_cons, Bool.and_eq_true] at h1 ⊢
    refine ⟨?_, riseG_mono h h1.2⟩
    have := h1.1
    simp only [Bool.not_eq_true', Bool.or_eq_false_iff, decide_eq_false_iff_not] at this ⊢
    omega
theorem rise_lst (N : Nat) : ∀ (K : Nat) {n : Int}, (K : Int) ≤ n → rise (lst N K) n = true
  | 0, n, _ => rfl
  | K + 1, n, h => by
    have h1 := rise_lst N K (n := n) (by omega)
    rw [lst_succ]
    split
    · refine riseG_snoc h1 (fun y hy => (lst_nat_sub y hy).2) (by omega) (by omega)
    · exact h1
section
variable {F : Nat} {s : TBook} {f : List Int}
theorem fine_eq (hF : 2000000000 < F) : ∃ b, law10_fine F s = some b ∧ (b = true → Fit s ∧ cb s = 0) := by
  obtain ⟨b, h1, h2⟩ := great_eq (F := F) (s := s) (by omega)
  unfold law10_fine
  show ∃ b, ((law10_great F s) >>= fun x2 => (gd (!x2) (ref10_CheckBook F s) 0) >>= fun x3 => some ((!x2) && (decide (x3 = 0)))) = _ ∧ _
  rw [h1]
  cases b with
  | true => exact ⟨false, rfl, fun h => by cases h⟩
  | false =>
    have h := h2 rfl
    simp only [Option.bind_eq_bind, Option.bind_some, Bool.not_false, gd, cond_true]
    rw [Book_cb (by omega) h]
    exact ⟨_, rfl, fun h3 => ⟨h, by simpa using h3⟩⟩
theorem granted_loop (hF : 2000000000 < F) {N : Nat} (hN : N < 65536) (hl : s.2.2.2.1.length ≤ 12) : ∀ m k, k ≤ s.2.2.2.1.length → s.2.2.2.1.length - k < m → law10_Granted_l1 F s (N : Int) m (lst N k) (k : Int) = some (lst N s.2.2.2.1.length)
  | 0, k, _, h => by omega
  | m + 1, k, hk, h => by
    simp only [law10_Granted_l1]
    by_cases hlt : k < s.2.2.2.1.length
    · have e1 : shr .u16 (N : Int) (k : Int) = some ((N >>> k : Nat) : Int) := shr_nat (k := .u16) hN
      have e2 : band .u16 ((N >>> k : Nat) : Int) 1 = (((N >>> k) &&& 1 : Nat) : Int) := band16 (b := 1) (by
        rw [Nat.shiftRight_eq_div_pow]; exact Nat.lt_of_le_of_lt (Nat.div_le_self _ _) hN) (by decide)
      have e3 : decide ((((N >>> k) &&& 1 : Nat) : Int) = 1) = N.testBit k := by
        rw [Bool.eq_iff_iff, decide_eq_true_eq, Nat.and_one_is_mod, show ((((N >>> k) % 2 : Nat) : Int) = 1) = ((N >>> k) % 2 = 1) by apply propext; omega, shift_one]
      rw [if_pos (ltd hlt), e1, w64_succ (by omega)]
      simp only [Option.bind_eq_bind, Option.bind_some]
      rw [e2, e3]
      have := lst_len N k
      rw [app_some (by simp; omega)]
      have e := granted_loop hF hN hl m (k + 1) (by omega) (by omega)
      rw [lst_succ] at e
      cases hb : N.testBit k <;> simpa [hb] using e
    · have : k = s.2.2.2.1.length := by omega
      subst this
      rw [if_neg nltd]
/-- The grants by their bits. -/
theorem Granted_eq (hF : 2000000000 < F) (hs : Sound s) {x : Int} (hx : 0 ≤ x ∧ x ≤ 65535) : law10_Granted F s x = some (lst x.toNat s.2.2.2.1.length) ∧ rise (lst x.toNat s.2.2.2.1.length) s.2.2.2.1.length = true ∧ Sm (lst x.toNat s.2.2.2.1.length) := by
  refine ⟨?_, rise_lst _ _ (by omega), ?_⟩
  · unfold law10_Granted
    have := granted_loop (F := F) (s := s) hF (N := x.toNat) (by omega) hs.given F 0 (by omega) (by have := hs.given; omega)
    rw [show ((x.toNat : Nat) : Int) = x by omega] at this
    have e0 : lst x.toNat 0 = [] := rfl
    rw [e0] at this
    simp only [Int.natCast_zero] at this
    rw [this]
    rfl
  · have := lst_len x.toNat s.2.2.2.1.length
    have := hs.given
    show _ ≤ _
    omega
theorem holds_val (hF : 2000000000 < F) (h : Fit s) (hf : Sm f) (h0 : gq s f = 0) : ∃ M : Nat, right_Holds F s f = some (lst M s.1.toNat, 0) ∧ M < 2 ^ 30 ∧ (∀ i : Nat, M.testBit i = true ↔ Hd s f i) ∧ (∀ x, x ∈ lst M s.1.toNat ↔ Hd s f x) ∧ Sm (lst M s.1.toNat) := by
  have h1 := gq_zero h0
  have hs := (cb_zero h1.1).1
  have hg := rise_in h1.2
  have n2 := hs.n2
  obtain ⟨M, h2, h3, h4⟩ := holds_eq (F := F) hF hs hg (inG_small hs hg)
  refine ⟨M, ?_, h3, h4, fun x => ?_, by have := lst_len M s.1.toNat; show _ ≤ _; omega⟩
  · unfold right_Holds
    show ((right_open F s f) >>= fun x3 => _) = _
    rw [open_eq hF h hf, if_pos h0]
    simp only [Option.bind_eq_bind, Option.bind_some]
    rw [if_neg (by simp)]
    have e : right_treaty_holds F (((treaty s).1.1, (treaty s).1.2.1, (treaty s).1.2.2.1, (treaty s).1.2.2.2.1, (treaty s).1.2.2.2.2), (treaty s).2.1, (treaty s).2.2.1, (treaty s).2.2.2) (bitsI f : Nat) = some (M : Int) := h2
    rw [e]
    simp only [Option.bind_some]
    rw [numbers_eq (by omega) (b30 h3)]
    have h9 := lst_more (M := M) (a := s.1.toNat) (fun j hj => by
      rw [← Bool.not_eq_true, h4]
      intro h10
      have := h10.rg hs
      omega) (62 - s.1.toNat)
    rw [show s.1.toNat + (62 - s.1.toNat) = 62 by omega] at h9
    rw [h9]
    rfl
  · rw [lst_mem]
    constructor
    · rintro ⟨i, rfl, _, hi⟩
      exact (h4 i).1 hi
    · intro hx
      have := hx.rg hs
      exact ⟨x.toNat, by omega, by omega, (h4 _).2 (by rwa [show ((x.toNat : Nat) : Int) = x by omega])⟩
theorem step_hd {y y' : List Int} {st : Bool × Int} (hg : InG s f) (h : stepC s f y st = some y') (hy : ∀ x ∈ y, Hd s f x) : ∀ x ∈ y', Hd s f x := by
  unfold stepC at h
  split at h
  · cases h
  · rename_i r hr
    split at h
    · rename_i ha
      cases h
      intro x hx
      rcases List.mem_append.1 hx with hx | hx
      · exact hy x hx
      · rw [List.mem_singleton] at hx
        subst hx
        rw [allIn_iff] at ha
        unfold ruleOf at hr
        split at hr
        · split at hr
          · rename_i hi
            have := hg _ hi
            exact .give (i := st.2.toNat) (by rwa [show ((st.2.toNat : Nat) : Int) = st.2 by omega]) hr fun n hn => hy n (ha n hn)
          · cases hr
        · split at hr
          · exact .rule (List.mem_of_getElem? hr) fun n hn => hy n (ha n hn)
          · cases hr
    · cases h
theorem run_hd (hg : InG s f) : ∀ {l : List (Bool × Int)} {y y' : List Int}, runC s f l y = some y' → (∀ x ∈ y, Hd s f x) → ∀ x ∈ y', Hd s f x
  | [], y, y', h, hy => by cases h; exact hy
  | st :: l, y, y', h, hy => by
    unfold runC at h
    split at h
    · cases h
    · rename_i z hz
      exact run_hd hg h (step_hd hg hz hy)
theorem run_snoc : ∀ {l : List (Bool × Int)} {y z : List Int} {st : Bool × Int}, runC s f l y = some z → runC s f (l ++ [st]) y = stepC s f z st
  | [], y, z, st, h => by
    cases h
    show (match stepC s f y st with | none => none | some y' => runC s f [] y') = _
    cases stepC s f y st <;> rfl
  | a :: l, y, z, st, h => by
    unfold runC at h
    rw [List.cons_append]
    unfold runC
    split at h
    · cases h
    · rename_i y' hy
      exact run_snoc h
theorem ccv_zero {t : Int} {l : List (Bool × Int)} (h : ccv s f t l = 0) : gq s f = 0 ∧ 0 ≤ t ∧ t < s.2.2.2.2.length ∧ ∀ x ∈ s.2.2.2.2.getD t.toNat [], Hd s f x := by
  unfold ccv at h
  split at h
  · rename_i h0
    split at h
    · cases h
    · rename_i h1
      simp only [Bool.or_eq_true, decide_eq_true_eq, not_or] at h1
      split at h
      · cases h
      · split at h
        · cases h
        · rename_i y hy
          split at h
          · rename_i ha
            rw [allIn_iff] at ha
            exact ⟨h0, by omega, by omega, fun x hx => run_hd (rise_in (gq_zero h0).2) hy (fun _ h => .held h) x (ha x hx)⟩
          · cases h
  · rename_i h0
    exact absurd h h0
theorem ccv_run {t : Int} {l : List (Bool × Int)} {y : List Int} (h0 : gq s f = 0) (ht : 0 ≤ t ∧ t < s.2.2.2.2.length) (hl : l.length ≤ 4096) (hr : runC s f l s.2.1 = some y) : ccv s f t l = 0 ∨ ccv s f t l = 14 := by
  unfold ccv
  rw [if_pos h0, if_neg (by simp; omega), if_neg (by omega), hr]
  simp only
  split <;> simp
theorem tb_hd {t : Nat} (ht : t < s.2.2.2.2.length) (h : ∀ x ∈ s.2.2.2.2.getD t [], Hd s f x) : ¬ tb s f < 0 := by
  rw [tb_neg]
  intro h1
  have e2 : s.2.2.2.2.getD t [] ∈ s.2.2.2.2 := by
    rw [List.getD_eq_getElem?_getD, List.getElem?_eq_getElem ht]
    exact List.getElem_mem ht
  have := h1 _ e2
  rw [List.all_eq_true.2 fun x hx => hd_iff.2 (h x hx)] at this
  cases this

/-! ### A walk by chance -/
abbrev StOk (s : TBook) (f y : List Int) (st : Bool × Int) : Prop := ∃ r, ruleOf s f st = some r ∧ allIn y r.1 = true
theorem walk2 (hF : 2000000000 < F) (hs : Sound s) {y : List Int} (hy : Sm y) : ∃ z, law10_Walk_l2 F s y F [] 0 = some z ∧ (∀ st ∈ z, StOk s f y st) ∧ z.length ≤ 40 := by
  have hl := hs.rules
  have := fold_loop0 (l := s.2.2.1.zipIdx) (L := fun m k z => law10_Walk_l2 F s y m z (k : Int)) (f := fun z (p : TRule × Nat) => if allIn y p.1.1 = true then z ++ [(false, (p.2 : Int))] else z) (fin := id) (inv := fun k z => (∀ st ∈ z, StOk s f y st) ∧ z.length ≤ k) (fun m z _ => by
    simp only [law10_Walk_l2]; rw [List.length_zipIdx, if_neg nltd]; rfl) (fun m k z h hz => by
    have hk : k < s.2.2.1.length := by simpa using h
    have hr := hs.rule _ (List.getElem_mem hk)
    simp only [law10_Walk_l2]
    rw [if_pos (ltd hk), ix_nat hk, w64_succ (by omega)]
    simp only [Option.bind_eq_bind, Option.bind_some, List.getElem_zipIdx, Nat.zero_add]
    rw [there_eq (by omega) hy (hs.smr hr.1)]
    simp only [Option.bind_some]
    cases ha : allIn y s.2.2.1[k].1 with
    | false => exact ⟨by simp, by simpa using hz.1, by simp; omega⟩
    | true =>
      rw [if_pos rfl, app_some (by simp; omega)]
      refine ⟨by simp, fun st hst => ?_, by simp; omega⟩
      rw [if_pos rfl] at hst
      rcases List.mem_append.1 hst with hst | hst
      · exact hz.1 st hst
      · rw [List.mem_singleton] at hst
        subst hst
        exact ⟨s.2.2.1[k], by simp [ruleOf, List.getElem?_eq_getElem hk], ha⟩) (m := F) (y := []) (by rw [List.length_zipIdx]; omega) ⟨fun st h => (by cases h), Nat.le_refl _⟩
  obtain ⟨h1, h2, h3⟩ := this
  refine ⟨_, by simpa only [Int.natCast_zero, id] using h1, h2, ?_⟩
  rw [List.length_zipIdx] at h3
  omega
theorem walk3 (hF : 2000000000 < F) (hs : Sound s) (hg : InG s f) (hfl : f.length ≤ 12) {y : List Int} (hy : Sm y) {z0 : List (Bool × Int)} (h0 : (∀ st ∈ z0, StOk s f y st) ∧ z0.length ≤ 40) : ∃ z, law10_Walk_l3 F s f y F z0 0 = some z ∧ (∀ st ∈ z, StOk s f y st) ∧ z.length ≤ 52 := by
  have := fold_loop0 (l := f) (L := fun m k z => law10_Walk_l3 F s f y m z (k : Int)) (f := fun z (i : Int) => if allIn y (s.2.2.2.1.getD i.toNat ([], 0)).1 = true then z ++ [(true, i)] else z) (fin := id) (inv := fun k z => (∀ st ∈ z, StOk s f y st) ∧ z.length ≤ 40 + k) (fun m z _ => by
    simp only [law10_Walk_l3]; rw [if_neg nltd]; rfl) (fun m k z h hz => by
    obtain ⟨e1, e2⟩ := grants_get hg h
    have hr := hs.give _ (List.mem_of_getElem? e2)
    simp only [law10_Walk_l3]
    rw [if_pos (ltd h), ix_nat h, w64_succ (by omega)]
    simp only [Option.bind_eq_bind, Option.bind_some]
    rw [e1]
    simp only [Option.bind_some]
    generalize s.2.2.2.1.getD f[k].toNat ([], 0) = r at e2 hr ⊢
    rw [there_eq (by omega) hy (hs.smr hr.1)]
    simp only [Option.bind_some]
    cases ha : allIn y r.1 with
    | false => exact ⟨by simp, by simpa using hz.1, by simp; omega⟩
    | true =>
      rw [if_pos rfl, app_some (by simp; omega)]
      refine ⟨by simp, fun st hst => ?_, by simp; omega⟩
      rw [if_pos rfl] at hst
      rcases List.mem_append.1 hst with hst | hst
      · exact hz.1 st hst
      · rw [List.mem_singleton] at hst
        subst hst
        exact ⟨r, by simp [ruleOf, e2], ha⟩) (m := F) (y := z0) (by omega) ⟨h0.1, by omega⟩
  obtain ⟨h1, h2, h3⟩ := this
  refine ⟨_, by simpa only [Int.natCast_zero, id] using h1, h2, ?_⟩
  omega
theorem rem_nat {a b : Nat} (hb : 0 < b) : rem (a : Int) (b : Int) = some ((a % b : Nat) : Int) := by
  unfold rem
  rw [if_neg (by omega)]
  rfl
theorem walk1 (hF : 2000000000 < F) (hs : Sound s) (hg : InG s f) (hfl : f.length ≤ 12) {u : List (KI .u8)} (hu : ∀ x ∈ u, 0 ≤ x.v ∧ x.v ≤ 255) (hul : u.length ≤ 60) : ∀ m (k : Nat) (y : List Int) (l : List (Bool × Int)), runC s f l s.2.1 = some y → l.length ≤ k → k ≤ u.length → u.length - k < m →
    ∃ o l' y', law10_Walk_l1 F s f u m y l (k : Int) = some o ∧ (o = .inl l' ∨ o = .inr l') ∧ runC s f l' s.2.1 = some y' ∧ l'.length ≤ 60
  | 0, k, _, _, _, _, _, h => by omega
  | m + 1, k, y, l, hr, hl, hk, h => by
    simp only [law10_Walk_l1]
    by_cases hlt : k < u.length
    · have hyl := runC_len hr
      have hhl : s.2.1.length ≤ 30 := by have := rise_len hs.held; have := hs.n2; omega
      have hy : Sm y := by show _ ≤ _; omega
      obtain ⟨z2, e2, h2⟩ := walk2 (F := F) (f := f) hF hs hy
      obtain ⟨z3, e3, h3, h4⟩ := walk3 (F := F) hF hs hg hfl hy h2
      rw [if_pos (ltd hlt), e2]
      simp only [Option.bind_eq_bind, Option.bind_some]
      rw [e3]
      simp only [Option.bind_some]
      by_cases hz : z3.length = 0
      · rw [if_pos (by simp [hz])]
        exact ⟨_, l, y, rfl, .inl rfl, hr, by omega⟩
      · rw [if_neg (by simp only [decide_eq_true_eq]; omega), ix_nat hlt]
        simp only [Option.bind_some]
        have hv := hu _ (List.getElem_mem hlt)
        have e5 : w64 (u[k]).v = (((u[k]).v.toNat : Nat) : Int) := by rw [w64_in (by omega)]; omega
        have hlt3 : (u[k]).v.toNat % z3.length < z3.length := Nat.mod_lt _ (by omega)
        rw [e5, rem_nat (by omega)]
        simp only [Option.bind_some]
        rw [ix_nat hlt3]
        simp only [Option.bind_some]
        obtain ⟨r, hru, hal⟩ := h3 _ (List.getElem_mem hlt3)
        generalize z3[(u[k]).v.toNat % z3.length] = st at hru
        have hst : stepC s f y st = some (y ++ [r.2]) := by unfold stepC; rw [hru]; simp only; rw [if_pos hal]
        have hr' := (run_snoc (st := st) hr).trans hst
        rw [app_some (by simp; omega)]
        simp only [Option.bind_some]
        have e6 : (if st.1 = true then (ix s.2.2.2.1 st.2).bind fun x17 => (app 8 y [x17.2]).bind fun x18 => some (x18, l ++ [(st.1, st.2)]) else (ix s.2.2.1 st.2).bind fun x19 => (app 8 y [x19.2]).bind fun x20 => some (x20, l ++ [(st.1, st.2)])) = some (y ++ [r.2], l ++ [st]) := by
          unfold ruleOf at hru
          split at hru
          · rename_i hb
            split at hru
            · rename_i hi
              have := hg _ hi
              rw [if_pos hb]
              unfold ix
              rw [if_pos this.1, hru]
              simp only [Option.bind_some]
              rw [app_some (by simp; omega)]
              rfl
            · cases hru
          · rename_i hb
            split at hru
            · rename_i hi
              rw [if_neg hb]
              unfold ix
              rw [if_pos hi, hru]
              simp only [Option.bind_some]
              rw [app_some (by simp; omega)]
              rfl
            · cases hru
        rw [e6]
        simp only [Option.bind_some]
        rw [w64_succ (by omega)]
        exact walk1 hF hs hg hfl hu hul m (k + 1) _ _ hr' (by simp; omega) (by omega) (by omega)
    · have : k = u.length := by omega
      subst this
      rw [if_neg nltd]
      exact ⟨_, l, y, rfl, .inr rfl, hr, by omega⟩
theorem Walk_eq (hF : 2000000000 < F) (hs : Sound s) (hg : InG s f) (hfl : f.length ≤ 12) {u : List (KI .u8)} (hu : ∀ x ∈ u, 0 ≤ x.v ∧ x.v ≤ 255) (hul : u.length ≤ 60) : ∃ l y, law10_Walk F s f u = some l ∧ runC s f l s.2.1 = some y ∧ l.length ≤ 60 := by
  unfold law10_Walk
  have hhl : s.2.1.length ≤ 30 := by have := rise_len hs.held; have := hs.n2; omega
  rw [app_some (by simp; omega), List.nil_append]
  obtain ⟨o, l, y, h1, h2, h3, h4⟩ := walk1 (F := F) hF hs hg hfl hu hul F 0 s.2.1 [] rfl (by simp) (by omega) (by omega)
  simp only [Option.bind_eq_bind, Option.bind_some]
  simp only [Int.natCast_zero] at h1
  rw [h1]
  rcases h2 with rfl | rfl
  · exact ⟨l, y, rfl, h3, h4⟩
  · exact ⟨l, y, rfl, h3, h4⟩
end
end Go.Proofs.Ytdimoehnkagghaa
