/-
  The chain that leads to a broken taboo. Condition: the book is sound; there are enough rounds.
-/
import Derived.Test.YtdimoehnkagghaaSpecG
namespace Go.Proofs.Ytdimoehnkagghaa
open Go Go.Md Go.RowKit
section
variable {F : Nat} {s : TBook} {f : List Int}
theorem bits_held (hs : Sound s) : bitsI s.2.1 < 2 ^ 30 ∧ ∀ i : Nat, (bitsI s.2.1).testBit i = decide ((i : Int) ∈ s.2.1) := by
  have hsm : Small s.2.1 := rise_small hs.held (by have := hs.n2; omega)
  refine ⟨Nat.lt_of_not_le fun h => ?_, fun i => bitsI_bit' hsm i⟩
  obtain ⟨i, hi, h1⟩ := Nat.exists_ge_and_testBit_of_ge_two_pow h
  rw [bitsI_bit' hsm, decide_eq_true_eq] at h1
  have := rise_mem hs.held _ h1
  have := hs.n2
  omega
theorem taboo_bits (hs : Sound s) {t : Nat} (ht : t < s.2.2.2.2.length) : ix (treaty s).2.2.2 (t : Int) = some ((bitsI (s.2.2.2.2.getD t []) : Nat) : Int) ∧ Small (s.2.2.2.2.getD t []) ∧ s.2.2.2.2.getD t [] ∈ s.2.2.2.2 := by
  have e2 : s.2.2.2.2.getD t [] ∈ s.2.2.2.2 := by
    rw [List.getD_eq_getElem?_getD, List.getElem?_eq_getElem ht]
    exact List.getElem_mem ht
  refine ⟨?_, rise_small (hs.taboo _ e2) (by have := hs.n2; omega), e2⟩
  have hl : t < ((treaty s).2.2.2).length := by simp [treaty, ht]
  rw [ix_nat hl]
  simp [treaty, List.getD_eq_getElem?_getD, List.getElem?_eq_getElem ht]
theorem sub_mem {l : List Int} (hl : Small l) {M : Nat} {y : List Int} (hy : ∀ i : Nat, M.testBit i = decide ((i : Int) ∈ y)) : decide (ndiff (bitsI l) M = 0) = allIn y l := by
  rw [Bool.eq_iff_iff, decide_eq_true_eq, sub_iff, allIn_iff]
  constructor
  · intro h x hx
    have h0 := hl x hx
    have h1 := h x.toNat (by rw [bitsI_bit hl h0.1]; simpa using hx)
    rwa [hy, decide_eq_true_eq, show ((x.toNat : Nat) : Int) = x by omega] at h1
  · intro h i hi
    rw [bitsI_bit' hl, decide_eq_true_eq] at hi
    rw [hy, decide_eq_true_eq]
    exact h _ hi
theorem checkChain_eq (hF : 2000000000 < F) (h : Fit s) (hf : Sm f) {t : Int} {l : List (Bool × Int)} : right_CheckChain F s f t l = some (ccv s f t l) := by
  unfold right_CheckChain ccv
  show ((right_open F s f) >>= fun x3 => _) = _
  rw [open_eq hF h hf]
  simp only [Option.bind_eq_bind, Option.bind_some]
  by_cases h0 : gq s f = 0
  · have h1 := gq_zero h0
    have hs := (cb_zero h1.1).1
    have hg := rise_in h1.2
    simp only [if_pos h0]
    rw [if_neg (by simp)]
    by_cases h2 : (decide (t < 0) || decide ((s.2.2.2.2.length : Int) ≤ t)) = true
    · rw [if_pos h2, if_pos h2]
    · rw [if_neg h2, if_neg h2]
      by_cases h3 : 4096 < l.length
      · rw [if_pos (by simp only [decide_eq_true_eq]; omega), if_pos h3]
      · rw [if_neg (by simp only [decide_eq_true_eq]; omega), if_neg h3]
        simp only [Option.bind_some]
        have hb := bits_held hs
        obtain ⟨o, e, e1⟩ := cb_loop (F := F) hF hs hg (l := l) (by omega) F 0 (bitsI s.2.1) s.2.1 (by omega) (by omega) hb.1 hb.2
        simp only [Int.natCast_zero, List.drop_zero] at e e1
        rw [show (treaty s).2.1 = ((bitsI s.2.1 : Nat) : Int) from rfl, e]
        simp only [Option.bind_some]
        cases hr : runC s f l s.2.1 with
        | none =>
          rw [hr] at e1
          simp only at e1
          rw [e1]
        | some z =>
          rw [hr] at e1
          obtain ⟨M, rfl, e2, e3⟩ := e1
          simp only [Bool.or_eq_true, decide_eq_true_eq, not_or] at h2
          have ht : t.toNat < s.2.2.2.2.length := by omega
          obtain ⟨e4, e5, _⟩ := taboo_bits hs ht
          rw [show ((t.toNat : Nat) : Int) = t by omega] at e4
          simp only
          rw [e4]
          simp only [Option.bind_some]
          have e6 : bandn .i64 ((bitsI (s.2.2.2.2.getD t.toNat []) : Nat) : Int) ((M : Nat) : Int) = ((ndiff (bitsI (s.2.2.2.2.getD t.toNat [])) M : Nat) : Int) := bandn_nat (bitsI62 e5) (b30 e2)
          have e7 : decide (((ndiff (bitsI (s.2.2.2.2.getD t.toNat [])) M : Nat) : Int) = 0) = allIn z (s.2.2.2.2.getD t.toNat []) := by
            rw [← sub_mem e5 e3]
            exact decide_eq_decide.2 (by omega)
          rw [e6, e7]
          cases allIn z (s.2.2.2.2.getD t.toNat []) <;> rfl
  · simp only [if_neg h0]
    rw [if_pos (by simp [h0])]

/-! ### Ways in the order in which they are found -/
def gv (w : TWay) (j : Nat) : Bool := w.2.2.toNat.testBit j
def nd (w : TWay) (j : Nat) : Bool := w.2.1.toNat.testBit j
/-- Each way needs only what was there before it. -/
def Der (s : TBook) (f : List Int) (W : List TWay) : Prop := ∀ A w B, W = A ++ w :: B → w ∈ ways s ∧ (w.1.1 = true → w.1.2 ∈ f) ∧ ∀ j, nd w j = true → (bitsI s.2.1).testBit j = true ∨ ∃ v ∈ A, gv v j = true
theorem Der.nil : Der s f [] := fun A w B h => by simp at h
theorem Der.snoc {W : List TWay} (h : Der s f W) {w : TWay} (hw : w ∈ ways s) (hf : w.1.1 = true → w.1.2 ∈ f) (hn : ∀ j, nd w j = true → (bitsI s.2.1).testBit j = true ∨ ∃ v ∈ W, gv v j = true) : Der s f (W ++ [w]) := by
  intro A x B e
  rcases List.eq_nil_or_concat B with rfl | ⟨B', b, rfl⟩
  · have := List.append_inj' (s₁ := W) (t₁ := [w]) (s₂ := A) (t₂ := [x]) e rfl
    obtain ⟨rfl, e2⟩ := this
    cases e2
    exact ⟨hw, hf, hn⟩
  · have e' : W ++ [w] = (A ++ x :: B') ++ [b] := by simpa using e
    have := List.append_inj' e' rfl
    exact h A x B' this.1
abbrev ky (w : TWay) : Int := w.2.2
abbrev kp (w : TWay) : Int × TWay := (w.2.2, w)
def addW (W : List TWay) (w : TWay) : List TWay := if (W.any fun v => decide (ky v = ky w)) = true then W else W ++ [w]
structure IsOk (w : TWay) : Prop where
  ex : ∃ g : Nat, w.2.2 = ((2 ^ g : Nat) : Int) ∧ g < 30
theorem isok (hs : Sound s) {w : TWay} (hw : w ∈ ways s) : IsOk w := by
  obtain ⟨b, i, r, rfl, hr, _⟩ := (ways_is hs w hw).ex
  exact ⟨r.2.toNat, rfl, by have := hr.2.2; omega⟩
theorem IsOk.ne {w : TWay} (h : IsOk w) : w ≠ ((false, 0), 0, 0) := by
  obtain ⟨g, h1, _⟩ := h.ex
  rintro rfl
  have h2 : (0 : Int) = ((2 ^ g : Nat) : Int) := h1
  have h3 : 0 < 2 ^ g := Nat.pow_pos (by decide)
  omega
theorem IsOk.gv_iff {w v : TWay} (h : IsOk w) (h' : IsOk v) : (ky w = ky v) ↔ ∃ j, gv w j = true ∧ gv v j = true := by
  obtain ⟨g, h1, _⟩ := h.ex
  obtain ⟨g', h2, _⟩ := h'.ex
  unfold ky gv
  rw [h1, h2]
  simp only [Int.toNat_natCast, tb_pow, decide_eq_true_eq]
  constructor
  · intro h
    refine ⟨g, rfl, ?_⟩
    have h3 : 2 ^ g = 2 ^ g' := by exact_mod_cast h
    exact (Nat.pow_right_inj (by decide)).1 h3.symm
  · rintro ⟨j, rfl, rfl⟩
    rfl
theorem kok_ok {w : TWay} (h : IsOk w) : kok w.2.2 = some () := by
  obtain ⟨g, h1, h2⟩ := h.ex
  rw [h1]
  have h3 : 2 ^ g < 2 ^ 30 := Nat.pow_lt_pow_right (by decide) h2
  have : Key.ok ((2 ^ g : Nat) : Int) = true := by
    show (Lit.int .i64 ((2 ^ g : Nat) : Int)).wf = true
    show (decide (IntKind.i64.min ≤ ((2 ^ g : Nat) : Int)) && decide (((2 ^ g : Nat) : Int) ≤ IntKind.i64.max)) = true
    simp only [Bool.and_eq_true, decide_eq_true_eq]
    generalize 2 ^ g = q at h3
    exact ⟨show (-9223372036854775808 : Int) ≤ _ by omega, show _ ≤ (9223372036854775807 : Int) by omega⟩
  unfold kok
  rw [if_pos this]
theorem mget_kp {W : List TWay} {k : Int} (hW : ∀ w ∈ W, IsOk w) : decide (mget ((false, 0), 0, 0) (W.map kp) k = (((false, 0), 0, 0) : TWay)) = !(W.any fun v => decide (ky v = k)) := by
  induction W with
  | nil => simp [mget]
  | cons w W ih =>
    rw [List.map_cons, List.any_cons]
    show decide ((if w.2.2 = k then w else mget ((false, 0), 0, 0) (W.map kp) k) = _) = _
    by_cases h : w.2.2 = k
    · rw [if_pos h]
      simp [h, (hW w List.mem_cons_self).ne]
    · rw [if_neg h, ih fun v hv => hW v (List.mem_cons_of_mem _ hv)]
      simp [h]
theorem mput_kp {W : List TWay} {w : TWay} (h : (W.any fun v => decide (ky v = ky w)) = false) : mput (W.map kp) w.2.2 w = (W ++ [w]).map kp := by
  rw [List.map_append]
  refine (mget_no (d := w) fun p hp => ?_).2.2.1 w
  obtain ⟨v, hv, rfl⟩ := List.mem_map.1 hp
  rw [List.any_eq_false] at h
  simpa using h v hv
theorem chain2 (hs : Sound s) : ∀ {us W : List TWay}, (∀ w ∈ us, w ∈ ways s) → (∀ w ∈ W, w ∈ ways s) → W.length + us.length ≤ 10000 → right_treaty_chain_l2 F us (W.map ky) (W.map kp) = some ((us.foldl addW W).map ky, (us.foldl addW W).map kp)
  | [], W, _, _, _ => rfl
  | w :: us, W, hu, hW, hl => by
    rw [List.length_cons] at hl
    have hw := isok hs (hu w List.mem_cons_self)
    unfold right_treaty_chain_l2
    rw [kok_ok hw]
    simp only [Option.bind_eq_bind, Option.bind_some]
    have e := mget_kp (k := w.2.2) fun v hv => isok hs (hW v hv)
    rw [e]
    rw [List.foldl_cons]
    cases ha : W.any fun v => decide (ky v = w.2.2) with
    | true =>
      rw [if_neg (by simp)]
      simp only [Option.bind_some]
      have e2 : addW W w = W := by unfold addW; rw [if_pos ha]
      rw [e2]
      exact chain2 hs (fun v hv => hu v (List.mem_cons_of_mem _ hv)) hW (by omega)
    | false =>
      rw [if_pos (by simp), app_some (by simp; omega)]
      simp only [Option.bind_some]
      have e2 : addW W w = W ++ [w] := by unfold addW; rw [if_neg (by rw [ha]; simp)]
      rw [e2]
      have e3 := mput_kp ha
      have e4 := chain2 hs (us := us) (W := W ++ [w]) (fun v hv => hu v (List.mem_cons_of_mem _ hv)) (fun v hv => by
        rcases List.mem_append.1 hv with hv | hv
        · exact hW v hv
        · rw [List.mem_singleton] at hv; subst hv; exact hu v List.mem_cons_self) (by simp; omega)
      rw [← e4, ← e3, List.map_append]
      rfl
theorem chain3 : ∀ (m k : Nat) {W : List TWay} {N : Nat}, (∀ w ∈ W, IsOk w) → W.length ≤ 10000 → N < 2 ^ 30 → k ≤ W.length → W.length - k < m → right_treaty_chain_l3 F (W.map ky) m (N : Int) (k : Int) = some ((ors (W.drop k) N : Nat) : Int)
  | 0, k, _, _, _, _, _, _, h => by omega
  | m + 1, k, W, N, hW, hl, hN, hk, h => by
    simp only [right_treaty_chain_l3]
    by_cases hlt : k < W.length
    · have hlt' : k < (W.map ky).length := by simpa using hlt
      obtain ⟨g, h1, h2⟩ := (hW _ (List.getElem_mem hlt)).ex
      rw [if_pos (ltd hlt'), ix_nat hlt', w64_succ (by omega), List.drop_eq_getElem_cons hlt]
      simp only [Option.bind_eq_bind, Option.bind_some, List.getElem_map]
      have e : bor .i64 (N : Int) (ky W[k]) = ((N ||| (W[k]).2.2.toNat : Nat) : Int) := by
        unfold ky
        rw [h1, Int.toNat_natCast]
        exact bor_nat (b30 hN) (pow62 (by omega))
      rw [e]
      refine chain3 m (k + 1) hW hl (Nat.or_lt_two_pow hN ?_) (by omega) (by omega)
      rw [h1, Int.toNat_natCast]
      exact Nat.pow_lt_pow_right (by decide) h2
    · have : k = W.length := by omega
      subst this
      rw [if_neg (by simp), List.drop_length]
      rfl
theorem pows_len : ∀ (N : Nat) (M : List Int), M.Nodup → (∀ w ∈ M, ∃ g : Nat, w = ((2 ^ g : Nat) : Int) ∧ g < N) → M.length ≤ N
  | 0, M, _, h => by
    cases M with
    | nil => simp
    | cons a M => obtain ⟨g, _, h2⟩ := h a (by simp); omega
  | N + 1, M, hn, h => by
    have h1 := pows_len N (M.filter fun w => !decide (w = ((2 ^ N : Nat) : Int))) (hn.filter _) (fun w hw => by
      simp only [List.mem_filter, Bool.not_eq_true', decide_eq_false_iff_not] at hw
      obtain ⟨g, h1, h2⟩ := h w hw.1
      refine ⟨g, h1, ?_⟩
      have : g ≠ N := fun e => hw.2 (by rw [h1, e])
      omega)
    have h2 : M.length ≤ (M.filter fun w => !decide (w = ((2 ^ N : Nat) : Int))).length + 1 := by
      clear h h1
      induction M with
      | nil => simp
      | cons a M ih =>
        simp only [List.nodup_cons] at hn
        by_cases ha : a = ((2 ^ N : Nat) : Int)
        · have e : (M.filter fun w => !decide (w = ((2 ^ N : Nat) : Int))) = M := by
            refine List.filter_eq_self.2 fun w hw => ?_
            simp only [Bool.not_eq_true', decide_eq_false_iff_not]
            rintro rfl
            exact hn.1 (ha ▸ hw)
          rw [List.filter_cons, ha, if_neg (by simp), e]
          exact Nat.le_refl _
        · rw [List.filter_cons, if_pos (by rw [Bool.not_eq_true', decide_eq_false_iff_not]; exact ha), List.length_cons, List.length_cons]
          have := ih hn.2
          omega
    omega
structure Cs' (s : TBook) (f : List Int) (W : List TWay) : Prop where
  sub : ∀ w ∈ W, w ∈ ways s
  der : Der s f W
  nodup : (W.map ky).Nodup
theorem Cs'.len (hs : Sound s) {W : List TWay} (h : Cs' s f W) : W.length ≤ 30 := by
  have := pows_len 30 (W.map ky) h.nodup (fun w hw => by
    obtain ⟨v, hv, rfl⟩ := List.mem_map.1 hw
    exact (isok hs (h.sub v hv)).ex)
  simpa using this
theorem Cs'.add {W : List TWay} (h : Cs' s f W) {w : TWay} (hw : w ∈ ways s) (hf : w.1.1 = true → w.1.2 ∈ f) (hn : ∀ j, nd w j = true → (bitsI s.2.1).testBit j = true ∨ ∃ v ∈ W, gv v j = true) : Cs' s f (addW W w) := by
  unfold addW
  split
  · exact h
  · rename_i ha
    rw [Bool.not_eq_true, List.any_eq_false] at ha
    refine ⟨fun v hv => ?_, h.der.snoc hw hf hn, ?_⟩
    · rcases List.mem_append.1 hv with hv | hv
      · exact h.sub v hv
      · rw [List.mem_singleton] at hv; subst hv; exact hw
    · rw [List.map_append, List.nodup_append]
      refine ⟨h.nodup, by simp, fun a h1 b h2 => ?_⟩
      obtain ⟨v, hv, rfl⟩ := List.mem_map.1 h1
      have h3 : b = ky w := by simpa using h2
      subst h3
      simpa using ha v hv
theorem add_any (hs : Sound s) {W : List TWay} (h : Cs' s f W) {w : TWay} (hw : w ∈ ways s) (j : Nat) : ((addW W w).any fun v => gv v j) = (W.any (fun v => gv v j) || gv w j) := by
  unfold addW
  split
  · rename_i ha
    obtain ⟨v, hv, e⟩ := List.any_eq_true.1 ha
    rw [decide_eq_true_eq] at e
    cases hg : gv w j
    · simp
    · have : gv v j = true := by
        have e' : v.2.2 = w.2.2 := e
        unfold gv at hg ⊢
        rw [e']; exact hg
      have : (W.any fun v => gv v j) = true := List.any_eq_true.2 ⟨v, hv, this⟩
      rw [this]; rfl
  · simp
theorem adds (hs : Sound s) : ∀ {us W W0 : List TWay}, Cs' s f W → (∀ v ∈ W0, v ∈ W) → (∀ w ∈ us, w ∈ ways s ∧ (w.1.1 = true → w.1.2 ∈ f) ∧ ∀ j, nd w j = true → (bitsI s.2.1).testBit j = true ∨ ∃ v ∈ W0, gv v j = true) →
    Cs' s f (us.foldl addW W) ∧ ∀ j, ((us.foldl addW W).any fun v => gv v j) = (W.any (fun v => gv v j) || us.any fun v => gv v j)
  | [], W, W0, h, _, _ => ⟨h, fun j => by simp⟩
  | w :: us, W, W0, h, h0, hu => by
    obtain ⟨h1, h2, h3⟩ := hu w List.mem_cons_self
    have hc := h.add h1 h2 fun j hj => (h3 j hj).imp id fun ⟨v, hv, hg⟩ => ⟨v, h0 v hv, hg⟩
    obtain ⟨i1, i2⟩ := adds hs (us := us) (W := addW W w) (W0 := W0) hc (fun v hv => by
      unfold addW
      split
      · exact h0 v hv
      · exact List.mem_append.2 (.inl (h0 v hv))) fun v hv => hu v (List.mem_cons_of_mem _ hv)
    rw [List.foldl_cons]
    refine ⟨i1, fun j => ?_⟩
    rw [i2, add_any hs h h1, List.any_cons, Bool.or_assoc]
theorem chain1 (hs : Sound s) (hg : InG s f) {tab : List Int} (ht : Small tab) (hd : ∀ x ∈ tab, Hd s f x) : ∀ (m N : Nat) (W : List TWay), Cs' s f W → Bt s f N → (∀ j, N.testBit j = ((bitsI s.2.1).testBit j || W.any fun v => gv v j)) → 2 ^ 30 - N < m → 2000000000 < F →
    ∃ W', right_treaty_chain_l1 F (treaty s) (bitsI f : Nat) (bitsI tab : Nat) m (N : Int) (W.map ky) (W.map kp) = some (W'.map ky, W'.map kp) ∧ Cs' s f W' ∧ ∀ x ∈ tab, (bitsI s.2.1).testBit x.toNat = true ∨ ∃ v ∈ W', gv v x.toNat = true
  | 0, N, W, _, _, _, hm, _ => by omega
  | m + 1, N, W, hW, hN, hb, hm, hF => by
    have hsm := inG_small hs hg
    have hlt := hN.lt
    have hwl := ways_len hs
    have hu : right_treaty_usable (treaty s) (bitsI f : Nat) (N : Nat) = some ((ways s).filter (okw f N)) := usable_eq hsm (b30 hlt) (ways_is hs)
    have hul : ((ways s).filter (okw f N)).length ≤ (ways s).length := List.length_filter_le _ _
    have hus : ∀ w ∈ (ways s).filter (okw f N), w ∈ ways s ∧ (w.1.1 = true → w.1.2 ∈ f) ∧ ∀ j, nd w j = true → (bitsI s.2.1).testBit j = true ∨ ∃ v ∈ W, gv v j = true := fun w hw => by
      obtain ⟨h1, h2⟩ := List.mem_filter.1 hw
      unfold okw mayw at h2
      rw [Bool.and_eq_true, Bool.and_eq_true, decide_eq_true_eq, sub_iff] at h2
      refine ⟨h1, fun h3 => by have := h2.1.1; rw [h3] at this; simpa using this, fun j hj => ?_⟩
      have h4 := h2.1.2 j hj
      rw [hb, Bool.or_eq_true, List.any_eq_true] at h4
      exact h4
    obtain ⟨i1, i2⟩ := adds hs hW (W0 := W) (fun _ h => h) hus
    have hl1 := hW.len hs
    have hl2 := i1.len hs
    have e2 := chain2 (F := F) hs (us := (ways s).filter (okw f N)) (W := W) (fun w hw => (hus w hw).1) hW.sub (by omega)
    have e3 := chain3 (F := F) F 0 (W := ((ways s).filter (okw f N)).foldl addW W) (N := N) (fun w hw => isok hs (i1.sub w hw)) (by omega) hlt (by omega) (by omega)
    rw [List.drop_zero] at e3
    have hbit : ∀ j, (ors (((ways s).filter (okw f N)).foldl addW W) N).testBit j = (ors ((ways s).filter (okw f N)) N).testBit j := fun j => by
      rw [ors_bit, ors_bit]
      have := i2 j
      unfold gv at this
      rw [this, hb]
      unfold gv
      cases (bitsI s.2.1).testBit j <;> cases (W.any fun v => v.2.2.toNat.testBit j) <;> rfl
    have heq : ors (((ways s).filter (okw f N)).foldl addW W) N = ors ((ways s).filter (okw f N)) N := Nat.eq_of_testBit_eq hbit
    rw [heq] at e3
    have hn := hN.next hs
    have hb' : ∀ j, (ors ((ways s).filter (okw f N)) N).testBit j = ((bitsI s.2.1).testBit j || (((ways s).filter (okw f N)).foldl addW W).any fun v => gv v j) := fun j => by
      rw [ors_bit, i2, hb]
      unfold gv
      cases (bitsI s.2.1).testBit j <;> cases (W.any fun v => v.2.2.toNat.testBit j) <;> rfl
    have e0 : right_treaty_usable (((treaty s).1.1, (treaty s).1.2.1, (treaty s).1.2.2.1, (treaty s).1.2.2.2.1, (treaty s).1.2.2.2.2), (treaty s).2.1, (treaty s).2.2.1, (treaty s).2.2.2) (bitsI f : Nat) (N : Nat) = some ((ways s).filter (okw f N)) := hu
    simp only [right_treaty_chain_l1]
    rw [e0]
    simp only [Option.bind_eq_bind, Option.bind_some]
    rw [e2]
    simp only [Option.bind_some]
    simp only [Int.natCast_zero] at e3
    rw [e3]
    simp only [Option.bind_some]
    have e5 : bandn .i64 ((bitsI tab : Nat) : Int) ((ors ((ways s).filter (okw f N)) N : Nat) : Int) = ((ndiff (bitsI tab) (ors ((ways s).filter (okw f N)) N) : Nat) : Int) := bandn_nat (bitsI62 ht) (b30 hn.lt)
    rw [e5]
    by_cases hz : ndiff (bitsI tab) (ors ((ways s).filter (okw f N)) N) = 0
    · rw [hz]
      rw [if_pos (by simp)]
      refine ⟨_, rfl, i1, fun x hx => ?_⟩
      have h0 := ht x hx
      have := sub_iff.1 hz x.toNat (by rw [bitsI_bit ht h0.1]; simpa using hx)
      rw [hb', Bool.or_eq_true, List.any_eq_true] at this
      exact this
    · rw [if_neg (by simp only [decide_eq_true_eq]; omega)]
      have hne : (ways s).filter (okw f N) ≠ [] := fun he => hz (by
        rw [he, sub_iff]
        intro i hi
        rw [bitsI_bit' ht, decide_eq_true_eq] at hi
        exact (hN.fin hs hg he (hd _ hi)).2)
      have hlt2 : N < ors ((ways s).filter (okw f N)) N := by
        refine Nat.lt_of_le_of_ne (ors_le _ _) fun e => ?_
        obtain ⟨w, hw⟩ := List.exists_mem_of_ne_nil _ hne
        obtain ⟨_, h4⟩ := List.mem_filter.1 hw
        unfold okw at h4
        rw [Bool.and_eq_true, Bool.not_eq_true', decide_eq_false_iff_not, sub_iff] at h4
        refine h4.2 fun j hj => ?_
        rw [e, ors_bit, List.any_eq_true.2 ⟨w, hw, hj⟩, Bool.or_true]
      have := hn.lt
      exact chain1 hs hg ht hd m _ _ i1 hn hb' (by omega) hF
end
end Go.Proofs.Ytdimoehnkagghaa
