/-
  The chain that is given for a broken taboo is one that leads to it; RightChains. Condition: there are enough rounds, and the layer works on its own book.
-/
import Derived.Test.YtdimoehnkagghaaSpecH
namespace Go.Proofs.Ytdimoehnkagghaa
open Go Go.Md Go.RowKit
/-- The ways that are needed, from the last to the first. -/
def keep : List TWay → Nat → List TWay → List TWay
  | [], _, K => K
  | w :: A, T, K => if T &&& w.2.2.toNat = 0 then keep A T K else keep A (T ||| w.2.1.toNat) (w :: K)
theorem and_zero {a b : Nat} : a &&& b = 0 ↔ ∀ j, ¬ (a.testBit j = true ∧ b.testBit j = true) := by
  constructor
  · intro h j hj
    have : (a &&& b).testBit j = true := by rw [Nat.testBit_and, hj.1, hj.2]; rfl
    rw [h, Nat.zero_testBit] at this
    cases this
  · intro h
    apply Nat.eq_of_testBit_eq
    intro j
    rw [Nat.testBit_and, Nat.zero_testBit]
    cases ha : a.testBit j with
    | false => rfl
    | true =>
      cases hb : b.testBit j with
      | false => rfl
      | true => exact absurd ⟨ha, hb⟩ (h j)
theorem keep_sub : ∀ (A : List TWay) (T : Nat) (K : List TWay), (keep A T K).Sublist (A.reverse ++ K) ∧ ∀ v ∈ K, v ∈ keep A T K
  | [], T, K => ⟨by simp [keep], fun _ h => h⟩
  | w :: A, T, K => by
    unfold keep
    rw [List.reverse_cons, List.append_assoc, List.singleton_append]
    split
    · obtain ⟨h1, h2⟩ := keep_sub A T K
      exact ⟨h1.trans (List.Sublist.append_left (List.sublist_cons_self _ _) _), h2⟩
    · obtain ⟨h1, h2⟩ := keep_sub A (T ||| w.2.1.toNat) (w :: K)
      exact ⟨h1, fun v hv => h2 v (List.mem_cons_of_mem _ hv)⟩
theorem keep_bit : ∀ (A : List TWay) (T : Nat) (K : List TWay), ∀ v ∈ A, ∀ j, T.testBit j = true → gv v j = true → v ∈ keep A T K
  | w :: A, T, K, v, hv, j, hT, hg => by
    unfold keep
    rcases List.mem_cons.1 hv with rfl | hv
    · rw [if_neg (fun h => and_zero.1 h j ⟨hT, hg⟩)]
      exact (keep_sub A _ _).2 v List.mem_cons_self
    · split
      · exact keep_bit A T K v hv j hT hg
      · exact keep_bit A _ _ v hv j (by rw [Nat.testBit_or, hT]; rfl) hg
theorem keep_need : ∀ (A : List TWay) (T : Nat) (K : List TWay), (A ++ K).Nodup → ∀ A1 w A2, A = A1 ++ w :: A2 → w ∈ keep A T K → ∀ j, nd w j = true → ∀ v ∈ A2, gv v j = true → v ∈ keep A T K
  | [], _, _, _, A1, w, A2, e, _, _, _, _, _, _ => by simp at e
  | w0 :: A, T, K, hn, A1, w, A2, e, hw, j, hj, v, hv, hg => by
    rw [List.cons_append, List.nodup_cons] at hn
    unfold keep at hw ⊢
    cases A1 with
    | nil =>
      rw [List.nil_append] at e
      obtain ⟨rfl, rfl⟩ := List.cons.inj e
      split at hw
      · rename_i h
        exfalso
        have := (keep_sub A T K).1.subset hw
        rcases List.mem_append.1 this with h1 | h1
        · exact hn.1 (List.mem_append.2 (.inl (by simpa using h1)))
        · exact hn.1 (List.mem_append.2 (.inr h1))
      · rename_i h
        rw [if_neg h]
        exact keep_bit A _ _ v hv j (by rw [Nat.testBit_or]; unfold nd at hj; rw [hj, Bool.or_true]) hg
    | cons a A1 =>
      rw [List.cons_append] at e
      obtain ⟨rfl, rfl⟩ := List.cons.inj e
      split at hw
      · rename_i h
        rw [if_pos h]
        exact keep_need _ T K hn.2 A1 w A2 rfl hw j hj v hv hg
      · rename_i h
        rw [if_neg h]
        refine keep_need _ _ _ ?_ A1 w A2 rfl hw j hj v hv hg
        rw [List.nodup_append] at hn ⊢
        have hn1 := hn.1
        rw [List.mem_append, not_or] at hn1
        refine ⟨hn.2.1, List.nodup_cons.2 ⟨hn1.2, hn.2.2.1⟩, fun x hx y hy => ?_⟩
        rcases List.mem_cons.1 hy with rfl | hy
        · rintro rfl
          exact hn1.1 hx
        · exact hn.2.2.2 x hx y hy
theorem ky_inj : ∀ {W : List TWay}, (W.map ky).Nodup → ∀ v ∈ W, ∀ w ∈ W, ky v = ky w → v = w
  | [], _, v, hv, _, _, _ => by cases hv
  | a :: W, h, v, hv, w, hw, e => by
    rw [List.map_cons, List.nodup_cons] at h
    rcases List.mem_cons.1 hv with h1 | h1 <;> rcases List.mem_cons.1 hw with h2 | h2
    · rw [h1, h2]
    · rw [h1] at e
      exact absurd (e ▸ List.mem_map.2 ⟨w, h2, rfl⟩) h.1
    · rw [h2] at e
      exact absurd (e ▸ List.mem_map.2 ⟨v, h1, rfl⟩) h.1
    · exact ky_inj h.2 v h1 w h2 e
theorem ky_nodup {W : List TWay} (h : (W.map ky).Nodup) : W.Nodup := by
  induction W with
  | nil => exact List.nodup_nil
  | cons a W ih =>
    rw [List.map_cons, List.nodup_cons] at h
    exact List.nodup_cons.2 ⟨fun hm => h.1 (List.mem_map.2 ⟨a, hm, rfl⟩), ih h.2⟩
theorem map_kp {W : List TWay} : (W.map kp).map (·.1) = W.map ky := by rw [List.map_map]; rfl

section
variable {F : Nat} {s : TBook} {f : List Int}
theorem chain4 (hs : Sound s) {Z : List TWay} (hZ : ∀ w ∈ Z, w ∈ ways s) (hZl : Z.length ≤ 1000) : ∀ (A : List TWay) (m T : Nat) (K : List TWay), (∃ R, Z = A.reverse ++ R) → ((A.reverse ++ K).map ky).Nodup → B62 T → A.length < m →
    right_treaty_chain_l4 F (Z.map ky) m (T : Int) ((A.length : Int) - 1) ((A.reverse ++ K).map kp) = some ((keep A T K).map kp)
  | A, 0, _, _, _, _, _, h => by omega
  | [], m + 1, T, K, _, _, _, _ => by
    simp only [right_treaty_chain_l4]
    rw [if_neg (by simp)]
    rfl
  | w :: A, m + 1, T, K, ⟨R, hR⟩, hn, hT, hm => by
    have hR' : Z = A.reverse ++ (w :: R) := by rw [hR]; simp
    have hlA : A.length < Z.length := by rw [hR']; simp
    have hl : A.length < (Z.map ky).length := by simpa using hlA
    have hwZ : w ∈ Z := by rw [hR']; simp
    have hw := isok hs (hZ w hwZ)
    have hwy := ways_is hs w (hZ w hwZ)
    have eA : (((w :: A).length : Int) - 1) = (A.length : Int) := by rw [List.length_cons]; omega
    have eL : (w :: A).reverse ++ K = A.reverse ++ (w :: K) := by simp
    have eW : (Z.map ky)[A.length] = ky w := by
      simp only [List.getElem_map]
      have : Z[A.length] = w := by simp [hR']
      rw [this]
    rw [eL] at hn ⊢
    rw [eA]
    have hat : ((A.reverse ++ (w :: K)).map kp)[A.length]? = some (ky w, w) := by
      rw [List.getElem?_map, List.getElem?_append_right (by simp)]
      simp
    obtain ⟨g1, _, _, g4⟩ := mget_at (d := (((false, 0), 0, 0) : TWay)) (by rw [map_kp]; exact hn) hat
    have g5 : ((A.reverse ++ (w :: K)).map kp).eraseIdx A.length = (A.reverse ++ K).map kp := by
      rw [List.map_append, List.eraseIdx_append_of_length_le (by simp)]
      simp
    have e1 : w64 ((A.length : Int) - 1) = (A.length : Int) - 1 := w64_in (by omega)
    obtain ⟨b, i, r, hwr, hr, _⟩ := hwy.ex
    have hg62 : B62 w.2.2.toNat := by rw [hwr]; exact p62 hr
    have hn62 : B62 w.2.1.toNat := by rw [hwr]; exact bitsI62 hr.1
    have eg : w.2.2 = ((w.2.2.toNat : Nat) : Int) := by rw [hwr]; rfl
    have en : w.2.1 = ((w.2.1.toNat : Nat) : Int) := by rw [hwr]; rfl
    have e2 : band .i64 (T : Int) w.2.2 = ((T &&& w.2.2.toNat : Nat) : Int) := by rw [eg]; exact band_nat hT hg62
    have e3 : bor .i64 (T : Int) w.2.1 = ((T ||| w.2.1.toNat : Nat) : Int) := by rw [en]; exact bor_nat hT hn62
    simp only [right_treaty_chain_l4]
    rw [if_pos (by simp only [decide_eq_true_eq]; omega), ix_nat hl, eW]
    simp only [Option.bind_eq_bind, Option.bind_some]
    rw [kok_ok hw]
    simp only [Option.bind_some]
    rw [g1, e2, e1]
    unfold keep
    by_cases hz : T &&& w.2.2.toNat = 0
    · rw [if_pos hz, hz]
      rw [if_neg (by simp)]
      simp only [Option.bind_some]
      rw [g4, g5]
      refine chain4 hs hZ hZl A m T K ⟨w :: R, hR'⟩ ?_ hT (by rw [List.length_cons] at hm; omega)
      rw [List.map_append] at hn ⊢
      rw [List.map_cons] at hn
      exact hn.sublist (List.Sublist.append_left (List.sublist_cons_self _ _) _)
    · rw [if_neg hz]
      rw [if_pos (by simp only [Bool.not_eq_true', decide_eq_false_iff_not]; omega)]
      simp only [Option.bind_some]
      rw [e3]
      exact chain4 hs hZ hZl A m _ (w :: K) ⟨w :: R, hR'⟩ hn (or62 hT hn62) (by rw [List.length_cons] at hm; omega)
theorem chain5 (hs : Sound s) {W K : List TWay} (hW : ∀ w ∈ W, w ∈ ways s) (hl : W.length ≤ 1000) (hn : (W.map ky).Nodup) (hK : K.Sublist W) : ∀ (m k : Nat) (y : List (Bool × Int)), k ≤ W.length → W.length - k < m → y.length ≤ k →
    right_treaty_chain_l5 F (W.map ky) (K.map kp) m y (k : Int) = some (y ++ ((W.drop k).filter fun w => decide (w ∈ K)).map (·.1))
  | 0, k, _, _, h, _ => by omega
  | m + 1, k, y, hk, h, hy => by
    simp only [right_treaty_chain_l5]
    by_cases hlt : k < W.length
    · have hlt' : k < (W.map ky).length := by simpa using hlt
      have hw := isok hs (hW _ (List.getElem_mem hlt))
      rw [if_pos (ltd hlt'), ix_nat hlt', w64_succ (by omega), List.drop_eq_getElem_cons hlt, List.filter_cons]
      simp only [Option.bind_eq_bind, Option.bind_some, List.getElem_map]
      rw [kok_ok hw]
      simp only [Option.bind_some]
      have hnK : ((K.map kp).map (·.1)).Nodup := by rw [map_kp]; exact hn.sublist (hK.map _)
      by_cases hm : W[k] ∈ K
      · obtain ⟨j, hj, e⟩ := List.getElem_of_mem hm
        obtain ⟨g1, g2, _, _⟩ := mget_at (d := (((false, 0), 0, 0) : TWay)) hnK (j := j) (k := ky W[k]) (u := W[k]) (by rw [List.getElem?_map, List.getElem?_eq_getElem hj, e]; rfl)
        rw [g2, g1, if_pos (by simp only), if_pos (by simpa using hm), app_some (by simp; omega)]
        simp only [Option.bind_some]
        rw [chain5 hs hW hl hn hK m (k + 1) _ (by omega) (by omega) (by simp; omega)]
        simp
      · have g2 : mhas (K.map kp) (ky W[k]) = false := (mget_no (d := (((false, 0), 0, 0) : TWay)) fun p hp => by
          obtain ⟨v, hv, rfl⟩ := List.mem_map.1 hp
          intro e
          have := ky_inj hn v (hK.subset hv) _ (List.getElem_mem hlt) e
          exact hm (this ▸ hv)).2.1
        rw [g2, if_neg (by simp), if_neg (by simpa using hm)]
        simp only [Option.bind_some]
        exact chain5 hs hW hl hn hK m (k + 1) _ (by omega) (by omega) (by omega)
    · have : k = W.length := by omega
      subst this
      rw [if_neg (by simp), List.drop_length]
      simp
theorem run_ok (hs : Sound s) {W R : List TWay} (hd : Der s f W) (hR : ∀ A w B, W = A ++ w :: B → w ∈ R → ∀ j, nd w j = true → ∀ v ∈ A, gv v j = true → v ∈ R) : ∀ (B A : List TWay) (y : List Int), W = A ++ B →
    (∀ j : Nat, ((bitsI s.2.1).testBit j = true ∨ ∃ v ∈ A, v ∈ R ∧ gv v j = true) → (j : Int) ∈ y) →
    ∃ y', runC s f ((B.filter fun w => decide (w ∈ R)).map (·.1)) y = some y' ∧ ∀ j : Nat, ((bitsI s.2.1).testBit j = true ∨ ∃ v ∈ W, v ∈ R ∧ gv v j = true) → (j : Int) ∈ y'
  | [], A, y, e, h => ⟨y, rfl, by rw [List.append_nil] at e; rw [e]; exact h⟩
  | w :: B, A, y, e, h => by
    obtain ⟨h1, h2, h3⟩ := hd A w B e
    have e' : W = (A ++ [w]) ++ B := by rw [e]; simp
    rw [List.filter_cons]
    by_cases hw : w ∈ R
    · rw [if_pos (by simpa using hw), List.map_cons]
      obtain ⟨b, i, r, hwy, hr, hru⟩ := way_rule (f := f) hs h1
      have hbi : b = true → (i : Int) ∈ f := fun hb => by
        have := h2 (by rw [hwy]; exact hb)
        rw [hwy] at this
        exact this
      rw [if_pos hbi] at hru
      have hall : allIn y r.1 = true := allIn_iff.2 fun n hn => by
        have h0 := hr.1 n hn
        have hnd : nd w n.toNat = true := by
          unfold nd
          rw [hwy]
          show (((bitsI r.1 : Nat) : Int).toNat).testBit n.toNat = true
          rw [Int.toNat_natCast, bitsI_bit hr.1 h0.1]
          simpa using hn
        have := h n.toNat ((h3 _ hnd).imp id fun ⟨v, hv, hg⟩ => ⟨v, hv, hR A w B e hw _ hnd v hv hg, hg⟩)
        rwa [show ((n.toNat : Nat) : Int) = n by omega] at this
      unfold runC stepC
      rw [hru]
      simp only
      rw [if_pos hall]
      refine run_ok hs hd hR B (A ++ [w]) _ e' fun j hj => ?_
      rw [List.mem_append, List.mem_singleton]
      rcases hj with hj | ⟨v, hv, hvR, hg⟩
      · exact .inl (h j (.inl hj))
      · rcases List.mem_append.1 hv with hv | hv
        · exact .inl (h j (.inr ⟨v, hv, hvR, hg⟩))
        · rw [List.mem_singleton] at hv
          subst hv
          right
          unfold gv at hg
          rw [hwy, wy_bit, decide_eq_true_eq] at hg
          have := hr.2.2
          omega
    · rw [if_neg (by simpa using hw)]
      refine run_ok hs hd hR B (A ++ [w]) y e' fun j hj => h j (hj.imp id ?_)
      rintro ⟨v, hv, hvR, hg⟩
      rcases List.mem_append.1 hv with hv | hv
      · exact ⟨v, hv, hvR, hg⟩
      · rw [List.mem_singleton] at hv
        subst hv
        exact absurd hvR hw
theorem chain_eq (hF : 2000000000 < F) (hs : Sound s) (hg : InG s f) {t : Nat} (ht : t < s.2.2.2.2.length) (hh : ∀ x ∈ s.2.2.2.2.getD t [], Hd s f x) :
    ∃ l, right_treaty_chain F (treaty s) (bitsI f : Nat) (t : Int) = some l ∧ l.length ≤ 30 ∧ ∃ y, runC s f l s.2.1 = some y ∧ allIn y (s.2.2.2.2.getD t []) = true := by
  obtain ⟨e1, e2, e3⟩ := taboo_bits hs ht
  have hb := bits_held hs
  have hbt : Bt s f (bitsI s.2.1) := ⟨hb.1, fun x hx => by
    have := rise_mem hs.held x hx
    rw [hb.2, decide_eq_true_eq, show ((x.toNat : Nat) : Int) = x by omega]
    exact hx, fun i hi => by
    rw [hb.2, decide_eq_true_eq] at hi
    exact .held hi⟩
  obtain ⟨W, h1, h2, h3⟩ := chain1 (F := F) hs hg e2 hh F (bitsI s.2.1) [] ⟨fun _ h => (by cases h), Der.nil, List.nodup_nil⟩ hbt (fun j => by simp) (by omega) hF
  have hl := h2.len hs
  have h4 := chain4 (F := F) hs (Z := W) h2.sub (by omega) W.reverse F (bitsI (s.2.2.2.2.getD t [])) [] ⟨[], by simp⟩ (by simpa using h2.nodup) (bitsI62 e2) (by simp; omega)
  rw [List.reverse_reverse, List.append_nil] at h4
  have hsub := keep_sub W.reverse (bitsI (s.2.2.2.2.getD t [])) []
  rw [List.reverse_reverse, List.append_nil] at hsub
  have hnd := ky_nodup h2.nodup
  have hneed := keep_need W.reverse (bitsI (s.2.2.2.2.getD t [])) [] (by rw [List.append_nil]; exact (List.reverse_perm W).nodup_iff.2 hnd)
  have hbit := keep_bit W.reverse (bitsI (s.2.2.2.2.getD t [])) []
  generalize hRd : keep W.reverse (bitsI (s.2.2.2.2.getD t [])) [] = R at h4 hsub hneed hbit
  have h5 := chain5 (F := F) hs (W := W) (K := R) h2.sub (by omega) h2.nodup hsub.1 F 0 [] (by omega) (by omega) (by simp)
  obtain ⟨y, h6, h7⟩ := run_ok (f := f) hs (R := R) h2.der (fun A w B e hw j hj v hv hg => hneed B.reverse w A.reverse (by rw [e]; simp) hw j hj v (by simpa using hv) hg) W [] s.2.1 rfl (fun j hj => by
    rcases hj with hj | ⟨v, hv, _⟩
    · rwa [hb.2, decide_eq_true_eq] at hj
    · cases hv)
  rw [List.drop_zero, List.nil_append] at h5
  refine ⟨(W.filter fun w => decide (w ∈ R)).map (·.1), ?_, ?_, y, h6, allIn_iff.2 fun n hn => ?_⟩
  · unfold right_treaty_chain
    rw [e1]
    simp only [Option.bind_eq_bind, Option.bind_some]
    have h1' : right_treaty_chain_l1 F (treaty s) (bitsI f : Nat) (bitsI (s.2.2.2.2.getD t []) : Nat) F (treaty s).2.1 [] [] = some (W.map ky, W.map kp) := h1
    rw [h1']
    simp only [Option.bind_some]
    have e4 : w64 (((W.map ky).length : Int) - 1) = ((W.reverse.length : Int) - 1) := by
      rw [List.length_map, List.length_reverse]
      exact w64_in (by omega)
    rw [e4, h4]
    simp only [Option.bind_some]
    simp only [Int.natCast_zero] at h5
    rw [h5]
    rfl
  · rw [List.length_map]
    exact Nat.le_trans (List.length_filter_le _ _) hl
  · have h0 := e2 n hn
    have := h7 n.toNat ((h3 n hn).imp id fun ⟨v, hv, hgv⟩ => ⟨v, hv, hbit v (by simpa using hv) n.toNat (by rw [bitsI_bit e2 h0.1]; simpa using hn) hgv, hgv⟩)
    rwa [show ((n.toNat : Nat) : Int) = n by omega] at this
end
end Go.Proofs.Ytdimoehnkagghaa
