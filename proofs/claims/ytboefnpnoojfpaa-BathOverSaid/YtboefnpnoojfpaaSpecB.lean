/-
  Stocks, moves and ways; what Make returns. Condition: there are enough rounds.
-/
import Derived.Test.YtboefnpnoojfpaaSpecA
namespace Go.Proofs.Ytboefnpnoojfpaa
open Go Go.Md Go.RowKit

/-! ### Stocks -/
def inC : List Int → List Int → Bool
  | c :: cs, s :: ss => decide (0 ≤ s) && decide (s ≤ c) && inC cs ss
  | _, _ => true
def sval (x : Spec) (s : List Int) : Int := if s.length ≠ x.1.length then 15 else if inC x.1 s = false then 3 else 0
structure Stk (x : Spec) (s : List Int) : Prop where
  len : s.length = x.1.length
  inc : inC x.1 s = true
theorem sval_ok {x : Spec} {s : List Int} : sval x s = 0 ↔ Stk x s := by
  unfold sval
  constructor
  · intro h
    split at h
    · cases h
    split at h
    · cases h
    rename_i h1 h2
    exact ⟨by omega, by simpa using h2⟩
  · intro h
    rw [if_neg (by have := h.len; omega), if_neg (by rw [h.inc]; simp)]
theorem inC_get : ∀ {cs ss : List Int}, inC cs ss = true → ∀ (k : Nat) (h : k < ss.length) (h' : k < cs.length), 0 ≤ ss[k] ∧ ss[k] ≤ cs[k]
  | [], _, _, _, _, h' => by simp at h'
  | _ :: _, [], _, _, h, _ => by simp at h
  | c :: cs, s :: ss, hi, 0, _, _ => by
    simp only [inC, Bool.and_eq_true, decide_eq_true_eq] at hi
    exact hi.1
  | c :: cs, s :: ss, hi, k + 1, h, h' => by
    simp only [inC, Bool.and_eq_true] at hi
    simpa using inC_get hi.2 k (by simpa using h) (by simpa using h')
theorem Stk.rng {x : Spec} {s : List Int} (hx : V x) (h : Stk x s) : ∀ n ∈ s, 0 ≤ n ∧ n ≤ 9 := fun n hn => by
  obtain ⟨k, hk, rfl⟩ := List.getElem_of_mem hn
  have hk' : k < x.1.length := by rw [← h.len]; exact hk
  have := inC_get h.inc k hk hk'
  have := hx.cap _ (List.getElem_mem hk')
  omega

theorem isStock_eq {F : Nat} {x : Spec} {s : List Int} (hF : 1000000 < F) (hx : V x) : ref11_isStock F x s = some (sval x s) := by
  unfold ref11_isStock sval
  have k5 := hx.k5
  by_cases h1 : s.length = x.1.length
  · rw [if_neg (by simp [h1]), if_neg (by simpa using h1)]
    have loop : ∀ m k, k ≤ s.length → s.length - k < m → ref11_isStock_l1 F x s m (k : Int) = some (if inC (x.1.drop k) (s.drop k) = true then .inr () else .inl 3) := by
      intro m
      induction m with
      | zero => intro k _ h; omega
      | succ m ih =>
        intro k hk h
        simp only [ref11_isStock_l1]
        by_cases hlt : k < s.length
        · have hlt' : k < x.1.length := by omega
          rw [if_pos (ltd hlt), ix_nat hlt, ix_nat hlt', w64_succ (by omega), List.drop_eq_getElem_cons hlt, List.drop_eq_getElem_cons hlt', ih (k + 1) (by omega) (by omega)]
          simp only [Option.bind_eq_bind, Option.bind_some, inC]
          by_cases e1 : s[k] < 0
          · have : ¬ 0 ≤ s[k] := by omega
            simp [e1, this]
          · have : 0 ≤ s[k] := by omega
            by_cases e2 : x.1[k] < s[k]
            · have h2 : ¬ s[k] ≤ x.1[k] := by omega
              simp [e1, e2, h2]
            · have h2 : s[k] ≤ x.1[k] := by omega
              simp [e1, e2, h2, this]
        · have : k = s.length := by omega
          subst this
          rw [if_neg nltd, List.drop_length]
          cases x.1.drop s.length <;> rfl
    have := loop F 0 (by omega) (by omega)
    simp only [Int.natCast_zero, List.drop_zero] at this
    rw [this]
    cases inC x.1 s <;> rfl
  · rw [if_pos (by simp [nc, h1]), if_pos h1]
def one (x : Spec) (s : List Int) : Int := if cval x ≠ 0 then cval x else sval x s
theorem one_ok {x : Spec} {s : List Int} : one x s = 0 ↔ V x ∧ Stk x s := by
  unfold one
  constructor
  · intro h
    split at h
    · contradiction
    · rename_i h1
      exact ⟨cval_ok.1 (by simpa using h1), sval_ok.1 h⟩
  · rintro ⟨h1, h2⟩
    rw [if_neg (by rw [cval_ok.2 h1]; simp), sval_ok.2 h2]
theorem one_eq {F : Nat} {x : Spec} {s : List Int} (hF : 1000000 < F) : ref11_One F x s = some (one x s) := by
  unfold ref11_One one
  have hc : ref11_CheckBath F (x.1, x.2) = some (cval x) := rcheck_eq hF
  simp only [hc, Option.bind_eq_bind, Option.bind_some]
  by_cases h : cval x = 0
  · rw [if_neg (by simp [h]), if_neg (by simp [h])]
    have := isStock_eq (F := F) (s := s) hF (cval_ok.1 h)
    rw [show ref11_isStock F (x.1, x.2) s = some (sval x s) from this]
    rfl
  · rw [if_pos (by simp [h]), if_pos h]
def two (x : Spec) (s t : List Int) : Int := if one x s ≠ 0 then one x s else sval x t
theorem two_ok {x : Spec} {s t : List Int} : two x s t = 0 ↔ V x ∧ Stk x s ∧ Stk x t := by
  unfold two
  constructor
  · intro h
    split at h
    · contradiction
    · rename_i h1
      have := one_ok.1 (show one x s = 0 by simpa using h1)
      exact ⟨this.1, this.2, sval_ok.1 h⟩
  · rintro ⟨h1, h2, h3⟩
    rw [if_neg (by rw [one_ok.2 ⟨h1, h2⟩]; simp), sval_ok.2 h3]
theorem two_eq {F : Nat} {x : Spec} {s t : List Int} (hF : 1000000 < F) : ref11_Two F x s t = some (two x s t) := by
  unfold ref11_Two two
  have h1 : ref11_One F (x.1, x.2) s = some (one x s) := one_eq hF
  simp only [h1, Option.bind_eq_bind, Option.bind_some]
  by_cases h : one x s = 0
  · rw [if_neg (by simp [h]), if_neg (by simp [h])]
    have := isStock_eq (F := F) (s := t) hF (one_ok.1 h).1
    rw [show ref11_isStock F (x.1, x.2) t = some (sval x t) from this]
    rfl
  · rw [if_pos (by simp [h]), if_pos h]

/-! ### Arrays -/
def pad (l : List Int) : St := ⟨(l ++ List.replicate 5 0).take 5, by simp⟩
theorem pad_nil : pad [] = (Ar.fill 5 0 : St) := by unfold pad Ar.fill; simp
theorem pad_ix {l : List Int} {k : Nat} (h5 : l.length ≤ 5) (h : k < l.length) : ix (pad l).l (k : Int) = some l[k] := by
  unfold ix pad
  rw [if_pos (by omega)]
  simp only [Int.toNat_natCast]
  rw [List.getElem?_take, if_pos (by omega), List.getElem?_append_left h, List.getElem?_eq_getElem h]
theorem pad_ix0 {l : List Int} {k : Nat} (h : k < 5) : ∃ v, ix (pad l).l (k : Int) = some v := by
  have : k < (pad l).l.length := by rw [(pad l).h]; exact h
  exact ⟨_, ix_nat this⟩
theorem ar_ext {m : Nat} {a b : Ar m Int} (h : a.l = b.l) : a = b := by cases a; cases b; cases h; rfl
theorem pad_set {pre az : List Int} {a v : Int} (h : (pre ++ a :: az).length ≤ 5) : aset (pad (pre ++ a :: az)) (pre.length : Int) v = pad (pre ++ v :: az) := by
  apply ar_ext
  simp only [aset, pad, Int.toNat_natCast]
  simp only [List.length_append, List.length_cons] at h
  apply List.ext_getElem?
  intro j
  rw [List.getElem?_set]
  by_cases e : pre.length = j
  · subst e
    rw [if_pos rfl, if_pos (by simp; omega), List.getElem?_take, if_pos (by omega), List.append_assoc, List.getElem?_append_right (Nat.le_refl _)]
    simp
  · rw [if_neg e, List.getElem?_take, List.getElem?_take]
    split
    · by_cases e2 : j < pre.length
      · simp only [List.append_assoc, List.getElem?_append_left e2]
      · obtain ⟨d, hd⟩ : ∃ d, j - pre.length = d + 1 := ⟨j - pre.length - 1, by omega⟩
        simp only [List.append_assoc, List.cons_append, List.getElem?_append (l₁ := pre), if_neg e2, hd, List.getElem?_cons_succ]
    · rfl
theorem pad_push {pre : List Int} {v : Int} (h : pre.length < 5) : aset (pad pre) (pre.length : Int) v = pad (pre ++ [v]) := by
  have e : pad pre = pad (pre ++ 0 :: []) := by
    apply ar_ext
    simp only [pad]
    rw [show (0 : Int) :: [] = List.replicate 1 0 from rfl, List.append_assoc, List.take_append, List.take_append]
    congr 1
    rw [show List.replicate 1 (0 : Int) ++ List.replicate 5 0 = List.replicate 6 0 from rfl, List.take_replicate, List.take_replicate]
    congr 1
    omega
  rw [e, pad_set (by simp; omega)]
theorem pad_take {l : List Int} (h : l.length ≤ 5) : (pad l).l.take l.length = l := by
  simp only [pad]
  rw [List.take_take, Nat.min_eq_left h, List.take_append, List.take_of_length_le (Nat.le_refl _)]
  simp
theorem pad_inj {l k : List Int} (h : l.length = k.length) (h5 : l.length ≤ 5) (e : pad l = pad k) : l = k := by
  rw [← pad_take h5, e, h, pad_take (by omega)]

/-! ### Moves -/
def nx : List Int → List Int → List Int → List Int
  | a :: az, t :: ts, g :: gs => (a - t + g) :: nx az ts gs
  | _, _, _ => []
def okm : List Int → List Int → List Int → List Int → Bool
  | c :: cs, a :: az, t :: ts, g :: gs => decide (t ≤ a) && decide (a - t + g ≤ c) && okm cs az ts gs
  | _, _, _, _ => true
theorem nx_len : ∀ {a t g : List Int}, t.length = a.length → g.length = a.length → (nx a t g).length = a.length
  | [], _, _, _, _ => rfl
  | a :: az, t :: ts, g :: gs, h1, h2 => by simp [nx, nx_len (a := az) (t := ts) (g := gs) (by simpa using h1) (by simpa using h2)]
  | _ :: _, [], _, h1, _ => by simp at h1
  | _ :: _, _ :: _, [], _, h2 => by simp at h2
theorem nx_inC : ∀ {c a t g : List Int}, (∀ n ∈ g, 0 ≤ n) → okm c a t g = true → inC c (nx a t g) = true
  | [], _, _, _, _, _ => rfl
  | _ :: _, [], _, _, _, _ => rfl
  | _ :: _, _ :: _, [], _, _, _ => rfl
  | _ :: _, _ :: _, _ :: _, [], _, _ => rfl
  | c :: cs, a :: az, t :: ts, g :: gs, hg, h => by
    simp only [okm, Bool.and_eq_true, decide_eq_true_eq] at h
    have := hg g (by simp)
    have hi := nx_inC (c := cs) (a := az) (t := ts) (g := gs) (fun n hn => hg n (by simp [hn])) h.2
    simp only [nx, inC, Bool.and_eq_true, decide_eq_true_eq]
    exact ⟨by omega, hi⟩
def stp (x : Spec) (i : Int) (a : List Int) : Option (List Int) := (ix x.2 i) >>= fun m => if okm x.1 a m.1 m.2 = true then some (nx a m.1 m.2) else none
theorem stp_some {x : Spec} {i : Int} {a b : List Int} (h : stp x i a = some b) : ∃ m, ix x.2 i = some m ∧ m ∈ x.2 ∧ okm x.1 a m.1 m.2 = true ∧ b = nx a m.1 m.2 := by
  unfold stp at h
  obtain ⟨m, h1, h2⟩ := bs h
  split at h2
  · rename_i h3
    cases h2
    exact ⟨m, h1, List.mem_of_getElem? (ix_spec h1).2.2, h3, rfl⟩
  · cases h2
theorem Stk.stp {x : Spec} {i : Int} {a b : List Int} (hx : V x) (ha : Stk x a) (h : stp x i a = some b) : Stk x b := by
  obtain ⟨m, _, hm, ho, rfl⟩ := stp_some h
  obtain ⟨l1, l2, _, g5⟩ := hx.mv m hm
  exact ⟨by rw [nx_len (by rw [l1, ha.len]) (by rw [l2, ha.len]), ha.len], nx_inC (fun n hn => (g5 n hn).1) ho⟩

theorem rafter_eq {F : Nat} {x : Spec} {a : List Int} {i : Int} {m : Mv} (hF : 1000000 < F) (hx : V x) (ha : Stk x a) (hm : ix x.2 i = some m) :
    ref11_after F x a i = some (if okm x.1 a m.1 m.2 = true then (nx a m.1 m.2, true) else ([], false)) := by
  have hmem := List.mem_of_getElem? (ix_spec hm).2.2
  obtain ⟨l1, l2, t5, g5⟩ := hx.mv m hmem
  have k5 := hx.k5
  have la := ha.len
  unfold ref11_after
  rw [hm]
  simp only [Option.bind_eq_bind, Option.bind_some]
  have loop : ∀ q k y, k ≤ a.length → a.length - k < q → y.length = k → ref11_after_l1 F x a m q y (k : Int) =
      some (if okm (x.1.drop k) (a.drop k) (m.1.drop k) (m.2.drop k) = true then .inr (y ++ nx (a.drop k) (m.1.drop k) (m.2.drop k)) else .inl ([], false)) := by
    intro q
    induction q with
    | zero => intro k y _ h _; omega
    | succ q ih =>
      intro k y hk h hy
      simp only [ref11_after_l1]
      by_cases hlt : k < a.length
      · have c1 : k < x.1.length := by omega
        have c2 : k < m.1.length := by omega
        have c3 : k < m.2.length := by omega
        have b1 := ha.rng hx _ (List.getElem_mem hlt)
        have b2 := t5 _ (List.getElem_mem c2)
        have b3 := g5 _ (List.getElem_mem c3)
        rw [if_pos (ltd hlt), ix_nat hlt, ix_nat c1, ix_nat c2, ix_nat c3, w64_succ (by omega), List.drop_eq_getElem_cons hlt, List.drop_eq_getElem_cons c1, List.drop_eq_getElem_cons c2, List.drop_eq_getElem_cons c3]
        have e1 : w64 (a[k] - m.1[k]) = a[k] - m.1[k] := w64_in (by omega)
        have e2 : w64 (a[k] - m.1[k] + m.2[k]) = a[k] - m.1[k] + m.2[k] := w64_in (by omega)
        simp only [Option.bind_eq_bind, Option.bind_some, e1, e2, okm, nx]
        rw [app_some (by simp; omega)]
        simp only [Option.bind_some]
        rw [ih (k + 1) _ (by omega) (by omega) (by simp [hy])]
        by_cases q1 : a[k] < m.1[k]
        · have : ¬ m.1[k] ≤ a[k] := by omega
          simp [q1, this]
        · have q1' : m.1[k] ≤ a[k] := by omega
          by_cases q2 : x.1[k] < a[k] - m.1[k] + m.2[k]
          · have : ¬ a[k] - m.1[k] + m.2[k] ≤ x.1[k] := by omega
            simp [q1, q2, this]
          · have : a[k] - m.1[k] + m.2[k] ≤ x.1[k] := by omega
            simp [q1, q2, this, q1', List.append_assoc]
      · have hk' : k = a.length := by omega
        rw [hk', if_neg nltd, List.drop_length]
        cases x.1.drop a.length <;> simp [okm, nx]
  have := loop F 0 [] (by omega) (by omega) rfl
  simp only [Int.natCast_zero, List.drop_zero, List.nil_append] at this
  rw [this]
  cases okm x.1 a m.1 m.2 <;> rfl

theorem after_eq {F : Nat} {x : Spec} {a : List Int} {i : Int} {m : Mv} (hF : 1000000 < F) (hx : V x) (ha : Stk x a) (hm : ix x.2 i = some m) :
    bath_shop_after F (x, Opq.mk) (pad a) i = some (pad (nx a m.1 m.2), okm x.1 a m.1 m.2) := by
  have hmem := List.mem_of_getElem? (ix_spec hm).2.2
  obtain ⟨l1, l2, t5, g5⟩ := hx.mv m hmem
  have k5 := hx.k5
  have la := ha.len
  unfold bath_shop_after
  simp only [hm, Option.bind_eq_bind, Option.bind_some]
  have loop : ∀ q k (y : Bool) pre, k ≤ a.length → a.length - k < q → pre.length = k → bath_shop_after_l1 F (x, Opq.mk) m q y (k : Int) (pad (pre ++ a.drop k)) =
      some (y && okm (x.1.drop k) (a.drop k) (m.1.drop k) (m.2.drop k), pad (pre ++ nx (a.drop k) (m.1.drop k) (m.2.drop k))) := by
    intro q
    induction q with
    | zero => intro k y pre _ h _; omega
    | succ q ih =>
      intro k y pre hk h hy
      simp only [bath_shop_after_l1]
      by_cases hlt : k < x.1.length
      · have c1 : k < a.length := by omega
        have c2 : k < m.1.length := by omega
        have c3 : k < m.2.length := by omega
        have b1 := ha.rng hx _ (List.getElem_mem c1)
        have b2 := t5 _ (List.getElem_mem c2)
        have b3 := g5 _ (List.getElem_mem c3)
        have hl5 : (pre ++ a[k] :: a.drop (k + 1)).length ≤ 5 := by simp [hy]; omega
        rw [if_pos (ltd hlt), w64_succ (by omega), List.drop_eq_getElem_cons hlt, List.drop_eq_getElem_cons c1, List.drop_eq_getElem_cons c2, List.drop_eq_getElem_cons c3]
        have e0 : ix (pad (pre ++ a[k] :: a.drop (k + 1))).l (k : Int) = some a[k] := by
          rw [pad_ix hl5 (by simp [hy]; omega)]
          simp [hy]
        have e1 : w64 (m.2[k] - m.1[k]) = m.2[k] - m.1[k] := w64_in (by omega)
        have e2 : w64 (a[k] + (m.2[k] - m.1[k])) = a[k] - m.1[k] + m.2[k] := by rw [w64_in (by omega)]; omega
        have e3 : aset (pad (pre ++ a[k] :: a.drop (k + 1))) (k : Int) (a[k] - m.1[k] + m.2[k]) = pad (pre ++ (a[k] - m.1[k] + m.2[k]) :: a.drop (k + 1)) := by
          have := pad_set (pre := pre) (az := a.drop (k + 1)) (a := a[k]) (v := a[k] - m.1[k] + m.2[k]) hl5
          rw [hy] at this
          exact this
        have e4 : ix (pad (pre ++ (a[k] - m.1[k] + m.2[k]) :: a.drop (k + 1))).l (k : Int) = some (a[k] - m.1[k] + m.2[k]) := by
          rw [pad_ix (by simp at hl5 ⊢; omega) (by simp [hy])]
          simp [hy]
        simp only [Option.bind_eq_bind, e0, ix_nat hlt, ix_nat c2, ix_nat c3, Option.bind_some, e1, e2, e3, e4, okm, nx]
        have ih' := fun y => ih (k + 1) y (pre ++ [a[k] - m.1[k] + m.2[k]]) (by omega) (by omega) (by simp [hy])
        simp only [List.append_assoc, List.singleton_append] at ih'
        push_cast at ih'
        cases y with
        | false => simp [ih']
        | true =>
          by_cases q1 : m.1[k] ≤ a[k]
          · simp [q1, ih']
          · simp [q1, ih']
      · have hk' : k = x.1.length := by omega
        rw [hk', if_neg nltd, ← la, List.drop_length, List.append_nil]
        cases m.1.drop a.length <;> cases x.1.drop a.length <;> simp [okm, nx]
  have := loop F 0 true [] (by omega) (by omega) rfl
  simp only [Int.natCast_zero, List.drop_zero, List.nil_append, Bool.true_and] at this
  rw [this]
  rfl
end Go.Proofs.Ytboefnpnoojfpaa
