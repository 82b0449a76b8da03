/-
  What is held from a book: the least set of numbers under its rules; the list that grows in rounds. Condition: the book is sound (vd says 0).
-/
import Derived.Test.YtdimoehnkagghaaSpecC
namespace Go.Proofs.Ytdimoehnkagghaa
open Go Go.Md Go.RowKit

/-! ### The book's own check, up to what is held -/
theorem long_eq {F : Nat} {l : List TRule} (hF : 1000000 < F) (hl : Sm l) : law10_long F l = some (l.any fun r => decide (12 < (r.1.length : Int))) := by
  have hl' : l.length ≤ 1000000 := hl
  unfold law10_long
  have := any_loop0 (l := l) (L := fun m k => law10_long_l1 F l m (k : Int)) (p := fun r => decide (12 < (r.1.length : Int))) (c := true) (fun m => by
    simp only [law10_long_l1]; rw [if_neg nltd]) (fun m k h => by
    simp only [law10_long_l1]
    rw [if_pos (ltd h), ix_nat h, w64_succ (by omega)]
    rfl) (m := F) (by omega)
  simp only [Int.natCast_zero] at this
  rw [this]
  cases l.any fun r => decide (12 < (r.1.length : Int)) <;> rfl
theorem many_eq {F : Nat} {l : List TRule} (hF : 1000000 < F) (hl : Sm l) : ref10_many F l = some (l.any lg6) := by
  have hl' : l.length ≤ 1000000 := hl
  unfold ref10_many
  have := any_loop0 (l := l) (L := fun m k => ref10_many_l1 F l m (k : Int)) (p := lg6) (c := true) (fun m => by
    simp only [ref10_many_l1]; rw [if_neg nltd]) (fun m k h => by
    simp only [ref10_many_l1]
    rw [if_pos (ltd h), ix_nat h, w64_succ (by omega)]
    rfl) (m := F) (by omega)
  simp only [Int.natCast_zero] at this
  rw [this]
  cases l.any lg6 <;> rfl
theorem odd_eq {F : Nat} {l : List TRule} {n : Int} (hF : 1000000 < F) (hl : Sm l) (hr : ∀ r ∈ l, Sm r.1) : ref10_odd F l n = some (l.any (oddR n)) := by
  have hl' : l.length ≤ 1000000 := hl
  unfold ref10_odd
  have := any_loop0 (l := l) (L := fun m k => ref10_odd_l1 F l n m (k : Int)) (p := oddR n) (c := true) (fun m => by
    simp only [ref10_odd_l1]; rw [if_neg nltd]) (fun m k h => by
    simp only [ref10_odd_l1]
    rw [if_pos (ltd h), ix_nat h, w64_succ (by omega)]
    simp only [Option.bind_eq_bind, Option.bind_some, Rising_eq hF (hr _ (List.getElem_mem h))]
    unfold oddR
    cases rise l[k].1 n <;> cases h1 : decide (l[k].2 < 0) <;> cases h2 : decide (n ≤ l[k].2) <;> simp_all) (m := F) (by omega)
  simp only [Int.natCast_zero] at this
  rw [this]
  cases l.any (oddR n) <;> rfl
theorem cb1_eq {F : Nat} {s : TBook} (hF : 1000000 < F) (hl : Sm s.2.2.2.2) : ref10_CheckBook_l1 F s F 0 = some (if s.2.2.2.2.any bad1 = true then .inl 6 else .inr ()) := by
  have hl' : s.2.2.2.2.length ≤ 1000000 := hl
  have := any_loop0 (l := s.2.2.2.2) (L := fun m k => ref10_CheckBook_l1 F s m (k : Int)) (p := bad1) (c := (6 : Int)) (fun m => by
    simp only [ref10_CheckBook_l1]; rw [if_neg nltd]) (fun m k h => by
    simp only [ref10_CheckBook_l1]
    rw [if_pos (ltd h), ix_nat h, w64_succ (by omega)]
    simp only [Option.bind_eq_bind, Option.bind_some]
    have e : decide ((s.2.2.2.2[k].length : Int) < 1) = decide ((s.2.2.2.2[k].length : Int) = 0) := decide_eq_decide.2 (by omega)
    rw [e]
    unfold bad1
    cases h1 : decide ((s.2.2.2.2[k].length : Int) = 0) <;> cases h2 : decide (6 < (s.2.2.2.2[k].length : Int)) <;> simp) (m := F) (by omega)
  simpa only [Int.natCast_zero] using this
theorem cb2_eq {F : Nat} {s : TBook} (hF : 1000000 < F) (hl : Sm s.2.2.2.2) (ht : ∀ t ∈ s.2.2.2.2, Sm t) : ref10_CheckBook_l2 F s F 0 = some (if s.2.2.2.2.any (fun t => !rise t s.1) = true then .inl 2 else .inr ()) := by
  have hl' : s.2.2.2.2.length ≤ 1000000 := hl
  have := any_loop0 (l := s.2.2.2.2) (L := fun m k => ref10_CheckBook_l2 F s m (k : Int)) (p := fun t => !rise t s.1) (c := (2 : Int)) (fun m => by
    simp only [ref10_CheckBook_l2]; rw [if_neg nltd]) (fun m k h => by
    simp only [ref10_CheckBook_l2]
    rw [if_pos (ltd h), ix_nat h, w64_succ (by omega)]
    simp only [Option.bind_eq_bind, Option.bind_some, Rising_eq hF (ht _ (List.getElem_mem h))]) (m := F) (by omega)
  simpa only [Int.natCast_zero] using this
theorem Book_eq {F : Nat} {s : TBook} (hF : 1000000 < F) (h : Fit s) : ref10_CheckBook F s = if vd s = 0 then (ref10_Taboo F s []) >>= fun x => some (if 0 ≤ x then 21 else 0) else some (vd s) := by
  unfold ref10_CheckBook vd
  rw [many_eq hF h.rules, many_eq hF h.given, cb1_eq hF h.taboos, cb2_eq hF h.taboos h.taboo, Rising_eq hF h.held, odd_eq hF h.rules h.rule, odd_eq hF h.given h.give]
  cases (decide (s.1 < 1) || decide (30 < s.1) || decide (40 < (s.2.2.1.length : Int)) || decide (12 < (s.2.2.2.1.length : Int)) || decide (10 < (s.2.2.2.2.length : Int))) <;> cases s.2.2.1.any lg6 <;> cases s.2.2.2.1.any lg6 <;>
    cases s.2.2.2.2.any bad1 <;> cases rise s.2.1 s.1 <;> cases s.2.2.1.any (oddR s.1) <;> cases s.2.2.2.1.any (oddR s.1) <;> cases s.2.2.2.2.any (fun t => !rise t s.1) <;> try rfl
  show ((ref10_Taboo F s []) >>= fun x12 => if decide (0 ≤ x12) = true then some 21 else some 0) = _
  congr 1
  funext x
  by_cases hx : 0 ≤ x <;> simp [hx]

/-! ### Sound books -/
structure Sound (s : TBook) : Prop where
  n1 : 1 ≤ s.1
  n2 : s.1 ≤ 30
  rules : s.2.2.1.length ≤ 40
  given : s.2.2.2.1.length ≤ 12
  taboos : s.2.2.2.2.length ≤ 10
  held : rise s.2.1 s.1 = true
  rule : ∀ r ∈ s.2.2.1, rise r.1 s.1 = true ∧ 0 ≤ r.2 ∧ r.2 < s.1
  give : ∀ r ∈ s.2.2.2.1, rise r.1 s.1 = true ∧ 0 ≤ r.2 ∧ r.2 < s.1
  taboo : ∀ t ∈ s.2.2.2.2, rise t s.1 = true
theorem Sound.of {s : TBook} (h : vd s = 0) : Sound s := by
  unfold vd at h
  split at h
  · cases h
  split at h
  · cases h
  split at h
  · cases h
  split at h
  · cases h
  split at h
  · cases h
  rename_i a _ _ d e
  simp only [Bool.or_eq_true, decide_eq_true_eq, not_or, Bool.not_eq_true', Bool.not_eq_false, Bool.not_eq_true, List.any_eq_false] at a d e
  refine ⟨by omega, by omega, by omega, by omega, by omega, by simpa using d.1.1, fun r hr => ?_, fun r hr => ?_, fun t ht => by simpa using e t ht⟩
  · have := d.1.2 r hr
    exact ⟨this.1.1, by omega, by omega⟩
  · have := d.2 r hr
    exact ⟨this.1.1, by omega, by omega⟩
theorem Sound.sm {s : TBook} (h : Sound s) : Sm s.2.2.1 ∧ Sm s.2.2.2.1 ∧ Sm s.2.2.2.2 := ⟨Nat.le_trans h.rules (by decide), Nat.le_trans h.given (by decide), Nat.le_trans h.taboos (by decide)⟩
theorem Sound.smr {s : TBook} (h : Sound s) {l : List Int} (hl : rise l s.1 = true) : Sm l := by
  have := rise_len hl
  have := h.n2
  show l.length ≤ 1000000
  omega

/-- What follows from a book, with the grants of f. -/
inductive Hd (s : TBook) (f : List Int) : Int → Prop
  | held {x : Int} : x ∈ s.2.1 → Hd s f x
  | rule {r : TRule} : r ∈ s.2.2.1 → (∀ n ∈ r.1, Hd s f n) → Hd s f r.2
  | give {i : Nat} {r : TRule} : (i : Int) ∈ f → s.2.2.2.1[i]? = some r → (∀ n ∈ r.1, Hd s f n) → Hd s f r.2
theorem Hd.mono {s : TBook} {f g : List Int} (h : ∀ x ∈ f, x ∈ g) {x : Int} (k : Hd s f x) : Hd s g x := by
  induction k with
  | held hx => exact .held hx
  | rule hr _ ih => exact .rule hr ih
  | give hi hr _ ih => exact .give (h _ hi) hr ih
/-- Each number is one of the grants. -/
abbrev InG (s : TBook) (f : List Int) : Prop := ∀ x ∈ f, 0 ≤ x ∧ x < (s.2.2.2.1.length : Int)

/-! ### The list that grows -/
def stepL (y : List Int) (r : TRule) : List Int := if (allIn y r.1 && !decide (r.2 ∈ y)) = true then y ++ [r.2] else y
structure Good (s : TBook) (y : List Int) : Prop where
  nd : y.Nodup
  rg : ∀ x ∈ y, 0 ≤ x ∧ x < s.1
theorem Good.len {s : TBook} {y : List Int} (h : Good s y) (hs : Sound s) : y.length ≤ 30 := by
  have := nodup_len s.1.toNat y h.nd (fun w hw => by have := h.rg w hw; omega)
  have := hs.n2
  omega
theorem Good.step {s : TBook} {y : List Int} {r : TRule} (h : Good s y) (hr : 0 ≤ r.2 ∧ r.2 < s.1) : Good s (stepL y r) := by
  unfold stepL
  split
  · rename_i hc
    simp only [Bool.and_eq_true, Bool.not_eq_true', decide_eq_false_iff_not] at hc
    refine ⟨List.nodup_append.2 ⟨h.nd, by simp, fun a ha b hb => ?_⟩, fun x hx => ?_⟩
    · rw [List.mem_singleton] at hb
      subst hb
      rintro rfl
      exact hc.2 ha
    · rcases List.mem_append.1 hx with hx | hx
      · exact h.rg x hx
      · rw [List.mem_singleton] at hx
        subst hx
        exact hr
  · exact h
theorem Good.fold {s : TBook} : ∀ {rs : List TRule} {y : List Int}, Good s y → (∀ r ∈ rs, 0 ≤ r.2 ∧ r.2 < s.1) → Good s (rs.foldl stepL y)
  | [], _, h, _ => h
  | r :: rs, y, h, hr => by
    rw [List.foldl_cons]
    exact Good.fold (h.step (hr r List.mem_cons_self)) fun q hq => hr q (List.mem_cons_of_mem _ hq)
theorem step_len (y : List Int) (r : TRule) : (stepL y r).length = y.length ∧ stepL y r = y ∧ (allIn y r.1 = true → r.2 ∈ y) ∨ (stepL y r).length = y.length + 1 := by
  unfold stepL
  split
  · right; simp
  · rename_i h
    left
    refine ⟨rfl, rfl, fun h1 => ?_⟩
    simpa [h1] using h
theorem fold_len : ∀ (rs : List TRule) (y : List Int), y.length ≤ (rs.foldl stepL y).length ∧ ((rs.foldl stepL y).length = y.length → rs.foldl stepL y = y ∧ ∀ r ∈ rs, allIn y r.1 = true → r.2 ∈ y)
  | [], y => ⟨Nat.le_refl _, fun _ => ⟨rfl, fun _ h => by cases h⟩⟩
  | r :: rs, y => by
    rw [List.foldl_cons]
    have h1 := fold_len rs (stepL y r)
    rcases step_len y r with ⟨h2, h3, h4⟩ | h2
    · rw [h3] at h1 ⊢
      refine ⟨h1.1, fun h5 => ?_⟩
      obtain ⟨h6, h7⟩ := h1.2 h5
      refine ⟨h6, fun q hq => ?_⟩
      rcases List.mem_cons.1 hq with rfl | hq
      · exact h4
      · exact h7 q hq
    · exact ⟨by omega, fun h => by omega⟩
theorem fold_sub : ∀ (rs : List TRule) (y : List Int), ∀ x ∈ y, x ∈ rs.foldl stepL y
  | [], _, _, h => h
  | r :: rs, y, x, h => fold_sub rs _ x (by
    unfold stepL
    split
    · exact List.mem_append.2 (.inl h)
    · exact h)
theorem fold_all {P : Int → Prop} : ∀ (rs : List TRule) (y : List Int), (∀ r ∈ rs, (∀ n ∈ r.1, P n) → P r.2) → (∀ x ∈ y, P x) → ∀ x ∈ rs.foldl stepL y, P x
  | [], _, _, h, x, hx => h x hx
  | r :: rs, y, hr, h, x, hx => fold_all rs (stepL y r) (fun q hq => hr q (List.mem_cons_of_mem _ hq)) (fun z hz => by
    unfold stepL at hz
    split at hz
    · rename_i hc
      simp only [Bool.and_eq_true, allIn_iff] at hc
      rcases List.mem_append.1 hz with hz | hz
      · exact h z hz
      · rw [List.mem_singleton] at hz
        subst hz
        exact hr r List.mem_cons_self fun n hn => h n (hc.1 n hn)
    · exact h z hz) x hx
/-- The rules that f grants. -/
def grants (s : TBook) (f : List Int) : List TRule := f.map fun i => s.2.2.2.1.getD i.toNat ([], 0)
theorem grants_get {s : TBook} {f : List Int} (hf : InG s f) {k : Nat} (hk : k < f.length) : ix s.2.2.2.1 f[k] = some (s.2.2.2.1.getD f[k].toNat ([], 0)) ∧ s.2.2.2.1[f[k].toNat]? = some (s.2.2.2.1.getD f[k].toNat ([], 0)) := by
  have h := hf _ (List.getElem_mem hk)
  have hlt : f[k].toNat < s.2.2.2.1.length := by omega
  have e : s.2.2.2.1[f[k].toNat]? = some (s.2.2.2.1.getD f[k].toNat ([], 0)) := by rw [List.getD_eq_getElem?_getD, List.getElem?_eq_getElem hlt]; rfl
  refine ⟨?_, e⟩
  unfold ix
  rw [if_pos (by omega), e]
theorem grants_mem {s : TBook} {f : List Int} (hf : InG s f) {r : TRule} : r ∈ grants s f ↔ ∃ i : Nat, (i : Int) ∈ f ∧ s.2.2.2.1[i]? = some r := by
  unfold grants
  rw [List.mem_map]
  constructor
  · rintro ⟨x, hx, rfl⟩
    obtain ⟨k, hk, rfl⟩ := List.getElem_of_mem hx
    exact ⟨f[k].toNat, by have := hf _ (List.getElem_mem hk); rw [show ((f[k].toNat : Nat) : Int) = f[k] by omega]; exact List.getElem_mem hk, (grants_get hf hk).2⟩
  · rintro ⟨i, hi, hr⟩
    refine ⟨(i : Int), hi, ?_⟩
    rw [Int.toNat_natCast, List.getD_eq_getElem?_getD, hr]
    rfl
theorem grants_ok {s : TBook} {f : List Int} (hf : InG s f) (hs : Sound s) : ∀ r ∈ grants s f, rise r.1 s.1 = true ∧ 0 ≤ r.2 ∧ r.2 < s.1 := fun r hr => by
  obtain ⟨i, _, hi⟩ := (grants_mem hf).1 hr
  exact hs.give r (List.mem_of_getElem? hi)

theorem closed2 {F : Nat} {s : TBook} (hF : 1000000 < F) (hs : Sound s) {y : List Int} (hy : Good s y) : ref10_Closed_l2 F s F y 0 = some (s.2.2.1.foldl stepL y) := by
  have hl := hs.sm.1
  have hl' : s.2.2.1.length ≤ 1000000 := hl
  have := fold_loop0 (l := s.2.2.1) (L := fun m k y => ref10_Closed_l2 F s m y (k : Int)) (f := stepL) (fin := id) (inv := fun _ y => Good s y) (fun m y _ => by
    simp only [ref10_Closed_l2]; rw [if_neg nltd]; rfl) (fun m k y h hy => by
    have hr := hs.rule _ (List.getElem_mem h)
    refine ⟨?_, hy.step hr.2⟩
    have hly := hy.len hs
    simp only [ref10_Closed_l2]
    rw [if_pos (ltd h), ix_nat h, w64_succ (by omega)]
    simp only [Option.bind_eq_bind, Option.bind_some]
    rw [all_eq hF (show Sm y by show _ ≤ _; omega) (hs.smr hr.1)]
    simp only [Option.bind_some]
    rw [in_eq hF (show Sm y by show _ ≤ _; omega)]
    unfold stepL
    cases allIn y s.2.2.1[k].1 <;> cases decide (s.2.2.1[k].2 ∈ y) <;> simp [app_some (b := 8) (l := y) (k := [s.2.2.1[k].2]) (by simp; omega)]) (m := F) (y := y) (by omega) hy
  simpa only [Int.natCast_zero, id] using this.1
theorem closed3 {F : Nat} {s : TBook} {f : List Int} (hF : 1000000 < F) (hs : Sound s) (hf : InG s f) (hsf : Sm f) {y : List Int} (hy : Good s y) : ref10_Closed_l3 F s f F y 0 = some ((grants s f).foldl stepL y) := by
  have hl' : f.length ≤ 1000000 := hsf
  have := fold_loop0 (l := f) (L := fun m k y => ref10_Closed_l3 F s f m y (k : Int)) (f := fun y i => stepL y (s.2.2.2.1.getD i.toNat ([], 0))) (fin := id) (inv := fun _ y => Good s y) (fun m y _ => by
    simp only [ref10_Closed_l3]; rw [if_neg nltd]; rfl) (fun m k y h hy => by
    have hr := hs.give _ (List.mem_of_getElem? (grants_get hf h).2)
    refine ⟨?_, hy.step hr.2⟩
    have hly := hy.len hs
    simp only [ref10_Closed_l3]
    rw [if_pos (ltd h), ix_nat h, w64_succ (by omega)]
    simp only [Option.bind_eq_bind, Option.bind_some]
    rw [(grants_get hf h).1]
    simp only [Option.bind_some]
    generalize s.2.2.2.1.getD f[k].toNat ([], 0) = r at hr ⊢
    rw [all_eq hF (show Sm y by show _ ≤ _; omega) (hs.smr hr.1)]
    simp only [Option.bind_some]
    rw [in_eq hF (show Sm y by show _ ≤ _; omega)]
    unfold stepL
    cases allIn y r.1 <;> cases decide (r.2 ∈ y) <;> simp [gd, app_some (b := 8) (l := y) (k := [r.2]) (by simp; omega)]) (m := F) (y := y) (by omega) hy
  have e : (grants s f).foldl stepL y = f.foldl (fun y i => stepL y (s.2.2.2.1.getD i.toNat ([], 0))) y := by unfold grants; rw [List.foldl_map]
  rw [e]
  simpa only [Int.natCast_zero, id] using this.1
/-- What the rounds keep. -/
structure Inc (s : TBook) (f : List Int) (y : List Int) : Prop where
  good : Good s y
  base : ∀ x ∈ s.2.1, x ∈ y
  hd : ∀ x ∈ y, Hd s f x
theorem Inc.all {s : TBook} {f : List Int} (hs : Sound s) (hf : InG s f) {y : List Int} (h : Inc s f y) : Inc s f ((s.2.2.1 ++ grants s f).foldl stepL y) :=
  ⟨h.good.fold fun r hr => by
    rcases List.mem_append.1 hr with hr | hr
    · exact (hs.rule r hr).2
    · exact (grants_ok hf hs r hr).2,
   fun x hx => fold_sub _ _ x (h.base x hx), fold_all _ _ (fun r hr hn => by
    rcases List.mem_append.1 hr with hr | hr
    · exact .rule hr hn
    · obtain ⟨i, hi, hr⟩ := (grants_mem hf).1 hr
      exact .give hi hr hn) h.hd⟩
theorem Inc.fin {s : TBook} {f : List Int} (hf : InG s f) {y : List Int} (h : Inc s f y) (hc : ∀ r ∈ s.2.2.1 ++ grants s f, allIn y r.1 = true → r.2 ∈ y) {x : Int} : x ∈ y ↔ Hd s f x := by
  refine ⟨h.hd x, fun k => ?_⟩
  induction k with
  | held hx => exact h.base _ hx
  | rule hr _ ih => exact hc _ (List.mem_append.2 (.inl hr)) (allIn_iff.2 ih)
  | give hi hr _ ih => exact hc _ (List.mem_append.2 (.inr ((grants_mem hf).2 ⟨_, hi, hr⟩))) (allIn_iff.2 ih)
theorem closed1 {F : Nat} {s : TBook} {f : List Int} (hF : 1000000 < F) (hs : Sound s) (hf : InG s f) (hsf : Sm f) : ∀ (m : Nat) (y : List Int), Inc s f y → 30 - y.length < m → ∃ l, ref10_Closed_l1 F s f m y = some (.inl l) ∧ Good s l ∧ ∀ x, x ∈ l ↔ Hd s f x
  | 0, y, _, h => by omega
  | m + 1, y, hy, h => by
    have h2 : Good s (s.2.2.1.foldl stepL y) := hy.good.fold fun r hr => (hs.rule r hr).2
    simp only [ref10_Closed_l1]
    rw [closed2 hF hs hy.good]
    simp only [Option.bind_eq_bind, Option.bind_some]
    rw [closed3 hF hs hf hsf h2]
    simp only [Option.bind_some]
    rw [← List.foldl_append]
    have h3 := Inc.all hs hf hy
    have h4 := fold_len (s.2.2.1 ++ grants s f) y
    have h5 := h3.good.len hs
    by_cases he : ((s.2.2.1 ++ grants s f).foldl stepL y).length = y.length
    · rw [if_pos (by simp only [decide_eq_true_eq]; omega)]
      obtain ⟨h6, h7⟩ := h4.2 he
      rw [h6]
      exact ⟨y, rfl, hy.good, fun x => hy.fin hf h7⟩
    · rw [if_neg (by simp only [decide_eq_true_eq]; omega)]
      exact closed1 hF hs hf hsf m _ h3 (by omega)
theorem Closed_eq {F : Nat} {s : TBook} {f : List Int} (hF : 1000000 < F) (hs : Sound s) (hf : InG s f) (hsf : Sm f) : ∃ l, ref10_Closed F s f = some l ∧ Good s l ∧ ∀ x, x ∈ l ↔ Hd s f x := by
  unfold ref10_Closed
  have hl : s.2.1.length ≤ 1000000 := hs.smr hs.held
  rw [app_some (by simp; omega), List.nil_append]
  obtain ⟨l, h1, h2⟩ := closed1 hF hs hf hsf F s.2.1 ⟨⟨riseG_nodup hs.held, rise_mem hs.held⟩, fun _ h => h, fun _ h => .held h⟩ (by omega)
  refine ⟨l, ?_, h2⟩
  simp only [Option.bind_eq_bind, Option.bind_some]
  rw [h1]
  rfl
open Classical in
/-- Whether x follows. -/
noncomputable def hd (s : TBook) (f : List Int) (x : Int) : Bool := decide (Hd s f x)
theorem hd_iff {s : TBook} {f : List Int} {x : Int} : hd s f x = true ↔ Hd s f x := by unfold hd; simp
/-- The first taboo that is broken. -/
noncomputable def tb (s : TBook) (f : List Int) : Int := fst s.2.2.2.2 fun t => t.all (hd s f)
theorem allIn_hd {s : TBook} {f l : List Int} (h : ∀ x, x ∈ l ↔ Hd s f x) (t : List Int) : allIn l t = t.all (hd s f) := by
  unfold allIn
  congr 1
  funext x
  rw [Bool.eq_iff_iff, decide_eq_true_eq, hd_iff, h]
theorem Taboo_eq {F : Nat} {s : TBook} {f : List Int} (hF : 1000000 < F) (hs : Sound s) (hf : InG s f) (hsf : Sm f) : ref10_Taboo F s f = some (tb s f) := by
  obtain ⟨l, h1, h2, h3⟩ := Closed_eq hF hs hf hsf
  have hl := h2.len hs
  have ht : s.2.2.2.2.length ≤ 1000000 := hs.sm.2.2
  unfold ref10_Taboo
  show (ref10_Closed F s f >>= fun x3 => _) = _
  rw [h1]
  simp only [Option.bind_eq_bind, Option.bind_some]
  have := idx_loop0 (l := s.2.2.2.2) (L := fun m k => ref10_Taboo_l1 F s l m (k : Int)) (p := fun t => t.all (hd s f)) (fun m => by
    simp only [ref10_Taboo_l1]; rw [if_neg nltd]) (fun m k h => by
    simp only [ref10_Taboo_l1]
    rw [if_pos (ltd h), ix_nat h, w64_succ (by omega)]
    simp only [Option.bind_eq_bind, Option.bind_some]
    rw [all_eq hF (show Sm l by show _ ≤ _; omega) (hs.smr (hs.taboo _ (List.getElem_mem h))), allIn_hd h3]
    rfl) (m := F) (by omega)
  simp only [Int.natCast_zero] at this
  rw [this]
  unfold tb fst
  cases s.2.2.2.2.any fun t => t.all (hd s f) <;> rfl
theorem tb_neg {s : TBook} {f : List Int} : tb s f < 0 ↔ ∀ t ∈ s.2.2.2.2, t.all (hd s f) = false := by
  unfold tb fst
  by_cases h : (s.2.2.2.2.any fun t => t.all (hd s f)) = true
  · rw [if_pos h]
    refine ⟨fun h1 => by omega, fun h1 => ?_⟩
    obtain ⟨t, ht, h2⟩ := List.any_eq_true.1 h
    rw [h1 t ht] at h2
    cases h2
  · rw [if_neg h]
    refine ⟨fun _ t ht => ?_, fun _ => by omega⟩
    rw [Bool.not_eq_true, List.any_eq_false] at h
    simpa using h t ht
theorem hd_ext {s : TBook} {f g : List Int} (h : ∀ x, x ∈ f ↔ x ∈ g) : hd s f = hd s g := by
  funext x
  rw [Bool.eq_iff_iff, hd_iff, hd_iff]
  exact ⟨Hd.mono fun x hx => (h x).1 hx, Hd.mono fun x hx => (h x).2 hx⟩
theorem tb_ext {s : TBook} {f g : List Int} (h : ∀ x, x ∈ f ↔ x ∈ g) : tb s f = tb s g := by unfold tb; rw [hd_ext h]
/-- What CheckBook answers. -/
noncomputable def cb (s : TBook) : Int := if vd s = 0 then (if tb s [] < 0 then 0 else 21) else vd s
theorem Book_cb {F : Nat} {s : TBook} (hF : 1000000 < F) (h : Fit s) : ref10_CheckBook F s = some (cb s) := by
  rw [Book_eq hF h]
  unfold cb
  by_cases h0 : vd s = 0
  · rw [if_pos h0, if_pos h0, Taboo_eq hF (Sound.of h0) (fun x hx => by cases hx) (by show _ ≤ _; simp)]
    simp only [Option.bind_eq_bind, Option.bind_some]
    by_cases h1 : tb s [] < 0
    · rw [if_pos h1, if_neg (by omega)]
    · rw [if_neg h1, if_pos (by omega)]
  · rw [if_neg h0, if_neg h0]
theorem cb_zero {s : TBook} (h : cb s = 0) : Sound s ∧ vd s = 0 ∧ tb s [] < 0 := by
  unfold cb at h
  split at h
  · rename_i h0
    split at h
    · exact ⟨.of h0, h0, by assumption⟩
    · cases h
  · exact absurd h (by assumption)
end Go.Proofs.Ytdimoehnkagghaa
