/-
  Ways between two turns, in plain words. Condition: there are enough rounds.
-/
import Derived.Test.YthppacohnciinaaSpecL
import Derived.Test.YthppacohnciinaaManE
namespace Go.Proofs.Ythppacohnciinaa
open Go Go.Md Go.RowKit
open BF (Rl St Back)
section
variable {x : Int × List RR} {a b t : Int} {way : List Int} {F : Nat}

/-! ### Ways that are given -/
theorem cw1 (h : csheet x ≠ 0) : cway x a b way = (0, csheet x) := by unfold cway; rw [if_pos h]
theorem cw2 (h : csheet x = 0) (h2 : (inR 0 x.1 a && inR 0 x.1 b) = false) : cway x a b way = (0, 2) := by unfold cway; rw [if_neg (fun e => e h), if_neg (by rw [h2]; simp)]
theorem cw3 (h : csheet x = 0) (h2 : (inR 0 x.1 a && inR 0 x.1 b) = true) (h3 : 60 < way.length) : cway x a b way = (0, 6) := by
  unfold cway; rw [if_neg (fun e => e h), if_pos h2, if_pos h3]
theorem cw4 (h : csheet x = 0) (h2 : (inR 0 x.1 a && inR 0 x.1 b) = true) (h3 : ¬ 60 < way.length) (h4 : (chainS (whole x) way).2 ≠ 0) : cway x a b way = (0, (chainS (whole x) way).2) := by
  unfold cway; rw [if_neg (fun e => e h), if_pos h2, if_neg h3, if_pos h4]
theorem cw5 (h : csheet x = 0) (h2 : (inR 0 x.1 a && inR 0 x.1 b) = true) (h4 : way = []) : cway x a b way = if a ≠ b then (0, 16) else (0, 0) := by
  subst h4
  unfold cway; rw [if_neg (fun e => e h), if_pos h2, if_neg (by simp), if_neg (by simp [chainS, inAll, rsOf, linkE]), if_pos (show ([] : List Int).length = 0 from rfl)]
theorem cw6 (h : csheet x = 0) (h2 : (inR 0 x.1 a && inR 0 x.1 b) = true) (h3 : ¬ 60 < way.length) (h4 : (chainS (whole x) way).2 = 0) (h5 : way.length ≠ 0) : cway x a b way = if firstF (rsOf (whole x) way) ≠ a ∨ lastT (rsOf (whole x) way) ≠ b then (0, 16) else ((chainS (whole x) way).1, 0) := by
  unfold cway; rw [if_neg (fun e => e h), if_pos h2, if_neg h3, if_neg (fun e => e h4), if_neg h5]
theorem ends_ix (hin : inAll (whole x) way = true) (h5 : way.length ≠ 0) (hl : way.length < 1000000) : (ix way 0 >>= fun i => ix (whole x) i) = some ((rsOf (whole x) way)[0]'(by simp [rsOf]; omega)) ∧ firstF (rsOf (whole x) way) = ((rsOf (whole x) way)[0]'(by simp [rsOf]; omega)).1 ∧
    (ix way (w64 ((way.length : Int) - 1)) >>= fun i => ix (whole x) i) = some ((rsOf (whole x) way)[way.length - 1]'(by simp [rsOf]; omega)) ∧ lastT (rsOf (whole x) way) = ((rsOf (whole x) way)[way.length - 1]'(by simp [rsOf]; omega)).2.1 := by
  have hrl : (rsOf (whole x) way).length = way.length := by simp [rsOf]
  have e1 : w64 ((way.length : Int) - 1) = ((way.length - 1 : Nat) : Int) := by rw [w64_in (by omega)]; omega
  have z0 : ix way 0 = some (way[0]'(by omega)) := ix_nat (k := 0) (by omega)
  refine ⟨?_, firstF_get _, ?_, ?_⟩
  · rw [z0]
    simp only [Option.bind_eq_bind, Option.bind_some, ix_rs hin (show 0 < way.length by omega)]
  · rw [e1, ix_nat (show way.length - 1 < way.length by omega)]
    simp only [Option.bind_eq_bind, Option.bind_some, ix_rs hin (show way.length - 1 < way.length by omega)]
  · unfold lastT
    rw [List.getLast?_eq_getElem?, List.getElem?_eq_getElem (by omega)]
    simp [hrl]
theorem chain_in (h4 : (chainS (whole x) way).2 = 0) : inAll (whole x) way = true := by
  unfold chainS at h4
  split at h4
  · assumption
  · cases h4
theorem chain_nil : chainS (whole x) [] = (0, 0) := by simp [chainS, inAll, rsOf, linkE]
theorem checkWay_eq (hF : 1000 ≤ F) (hl : way.length < 1000000) : speed_CheckWay F x a b way = some (cway x a b way) := by
  unfold speed_CheckWay
  have ex : (x.1, x.2) = x := rfl
  simp only [ex, checkSheet_eq (show 100 < F by omega), Option.bind_eq_bind, Option.bind_some]
  by_cases h : csheet x = 0
  · obtain ⟨h1, h2, h3, _⟩ := csheet_ok h
    rw [if_neg (by simp [h]), turns_eq (by simp; omega) (by simp)]
    simp only [Option.bind_some, List.all_cons, List.all_nil, Bool.and_true]
    cases h4 : (inR 0 x.1 a && inR 0 x.1 b) with
    | false => rw [cw2 h h4]; rfl
    | true =>
      rw [if_neg (by simp)]
      by_cases h5 : 60 < way.length
      · rw [if_pos (by simp; omega), cw3 h h4 h5]
      · rw [if_neg (by simp; omega), newNet_eq (by omega) (by omega) h3 h1]
        simp only [Option.bind_some]
        have ew : (((x.1, x.2), whole x) : (Int × List RR) × List RR) = ((x.1, x.2), whole x) := rfl
        rw [show speed_net_follow F ((x.1, x.2), whole x) way = _ from follow_eq h hF (show way.length ≤ 100 by omega)]
        obtain ⟨e1, e2⟩ := followS_err (all := whole x) (way := way)
        simp only [Option.bind_some]
        rw [e1]
        by_cases h6 : (chainS (whole x) way).2 = 0
        · obtain ⟨a1, a2, a3⟩ := e2 h6
          rw [if_neg (by simp [h6]), a1, a2, a3]
          by_cases h7 : way.length = 0
          · have : way = [] := List.eq_nil_of_length_eq_zero h7
            subst this
            rw [cw5 h h4 rfl]
            by_cases hab : a = b
            · rw [chain_nil]; simp [hab]
            · simp [hab]
          · rw [cw6 h h4 h5 h6 h7]
            have p1 : decide ((way.length : Int) = 0) = false := decide_eq_false (by omega)
            have p2 : decide (0 < (way.length : Int)) = true := by simp; omega
            rw [p1, p2]
            simp only [Bool.false_and, Bool.false_eq_true, if_false, Bool.true_and, Option.bind_some]
            by_cases h8 : firstF (rsOf (whole x) way) ≠ a ∨ lastT (rsOf (whole x) way) ≠ b
            · rw [if_pos h8, if_pos (by simpa using h8)]
            · rw [if_neg h8, if_neg (by simpa using h8)]
        · rw [if_pos (by simp [h6]), cw4 h h4 h5 h6]
  · rw [if_pos (by simp [h]), cw1 h]
theorem refWay_eq (hF : 1000 ≤ F) (hl : way.length < 1000000) : ref01_CheckWay F x a b way = some (cway x a b way) := by
  unfold ref01_CheckWay
  have ex : (x.1, x.2) = x := rfl
  simp only [ex, refSheet_eq (show 100 < F by omega), Option.bind_eq_bind, Option.bind_some]
  by_cases h : csheet x = 0
  · obtain ⟨h1, h2, h3, _⟩ := csheet_ok h
    have e1 : ((((decide (a < 0)) || (decide (x.1 < a))) || (decide (b < 0))) || (decide (x.1 < b))) = !(inR 0 x.1 a && inR 0 x.1 b) := by
      rw [Bool.not_and, ← not_inR, ← not_inR, Bool.or_assoc]
    rw [if_neg (by simp [h]), e1]
    cases h4 : (inR 0 x.1 a && inR 0 x.1 b) with
    | false => rw [cw2 h h4]; rfl
    | true =>
      rw [if_neg (by simp)]
      by_cases h5 : 60 < way.length
      · rw [if_pos (by simp; omega), cw3 h h4 h5]
      · rw [if_neg (by simp; omega), chain_eq h hF (by omega)]
        simp only [Option.bind_some]
        by_cases h6 : (chainS (whole x) way).2 = 0
        · rw [if_neg (by simp [h6])]
          by_cases h7 : way.length = 0
          · have : way = [] := List.eq_nil_of_length_eq_zero h7
            subst this
            rw [cw5 h h4 rfl]
            by_cases hab : a = b <;> simp [hab]
          · rw [if_neg (by rw [decide_eq_true_eq]; omega), cw6 h h4 h5 h6 h7, all_eq (by omega) (by omega) h3 h1]
            obtain ⟨c1, c2, c3, c4⟩ := ends_ix (chain_in h6) h7 hl
            simp only [Option.bind_eq_bind] at c1 c3
            simp only [Option.bind_some]
            rw [← Option.bind_assoc, c1]
            simp only [Option.bind_some]
            rw [← c2]
            by_cases h8 : firstF (rsOf (whole x) way) = a
            · rw [if_neg (by simp [h8]), ← Option.bind_assoc, c3]
              simp only [Option.bind_some]
              rw [← c4]
              by_cases h9 : lastT (rsOf (whole x) way) = b
              · rw [if_neg (show ¬ (firstF (rsOf (whole x) way) ≠ a ∨ lastT (rsOf (whole x) way) ≠ b) by simp [h8, h9]), if_neg (by simp [h9])]
              · rw [if_pos (show firstF (rsOf (whole x) way) ≠ a ∨ lastT (rsOf (whole x) way) ≠ b from .inr h9), if_pos (by simp [h9])]
            · rw [if_pos (by simp [h8]), if_pos (.inl h8)]
              rfl
        · rw [if_pos (by simp [h6]), cw4 h h4 h5 h6]
  · rw [if_pos (by simp [h]), cw1 h]

/-! ### The cheapest way -/
theorem mget_del {l : List (Int × Int)} {k t : Int} (h : t ≠ k) : mget 0 (mdel l k) t = mget 0 l t := by
  induction l with
  | nil => rfl
  | cons p l ih =>
    obtain ⟨c, d⟩ := p
    simp only [mdel]
    by_cases e : c = k
    · rw [if_pos e]
      simp only [mget]
      rw [if_neg (fun e2 => h (e2.symm.trans e))]
    · rw [if_neg e]
      simp only [mget, ih]
theorem jv_back {s : St} (hj : Jv x a s) {p : Int → Int} (hp : ∀ r ∈ whole x, p r.2.1 ≤ p r.1 + r.2.2) {v u c : Int} {n : Nat} (hb : Back s.b v u c n) : p v ≤ p u + c := by
  induction hb with
  | @one v q hq =>
    obtain ⟨h1, h2, _⟩ := hj.j2 v q hq
    have := hp _ (en_mem h1).1
    rw [h2] at this
    exact this
  | @more v u c n q hq _ ih =>
    obtain ⟨h1, h2, _⟩ := hj.j2 v q hq
    have := hp _ (en_mem h1).1
    rw [h2] at this
    omega
/-- A cheapest way, as a list of named rules. -/
structure WayTo (x : Int × List RR) (a b : Int) (al : List Rl) : Prop where
  lk : Lk al
  mem : ∀ p ∈ al, p ∈ Rs x
  ends : (al = [] ∧ a = b) ∨ (al.head?.map (fun p => p.2.1) = some a ∧ al.getLast?.map (fun p => p.2.2.1) = some b)
  len : al.length ≤ 21
theorem way_l1 (h : csheet x = 0) (hP : Pot x) (a0 : 0 ≤ a) (a1 : a ≤ x.1) {X : Ar 21 Int} {l : List (Int × Int)} {s : St} (hf : Fin x a X l s) : ∀ (m : Nat) (M : List Int) (l' : List (Int × Int)) (u : Int) (al : List Rl),
    M.Nodup → (∀ w ∈ M, 0 ≤ w ∧ w ≤ x.1 ∧ ∃ c n, Back s.b w u c n) → al.length = M.length → 0 ≤ u → u ≤ x.1 → (∀ t, t ∉ M → mget 0 l' t = mget 0 l t) → x.1 + 1 - M.length < m →
    Lk al → (∀ p ∈ al, p ∈ Rs x) → ((al = [] ∧ u = b) ∨ (al.head?.map (fun p => p.2.1) = some u ∧ al.getLast?.map (fun p => p.2.2.1) = some b)) → s.f b = s.f u + sumM al →
    ∃ al', speed_Way_l1 (whole x) a m ((al.map (·.1)).reverse) u l' = some ((al'.map (·.1)).reverse) ∧ WayTo x a b al' ∧ s.f b = s.f a + sumM al'
  | 0, M, l', u, al, hn, hM, hlen, u0, u1, hl, hm, hlk, hmem, hends, hs => by
    have := nodup_len (x.1 + 1).toNat M hn (fun w hw => by have := hM w hw; omega)
    omega
  | m + 1, M, l', u, al, hn, hM, hlen, u0, u1, hl, hm, hlk, hmem, hends, hs => by
    obtain ⟨_, _, h3, _⟩ := csheet_ok h
    have hMl := nodup_len (x.1 + 1).toNat M hn (fun w hw => by have := hM w hw; omega)
    unfold speed_Way_l1
    by_cases hu : u = a
    · subst hu
      rw [if_neg (by simp)]
      exact ⟨al, rfl, ⟨hlk, hmem, hends, by omega⟩, hs⟩
    · rw [if_pos (by simp [hu])]
      have huM : u ∉ M := fun hw => by
        obtain ⟨_, _, c, n, hb⟩ := hM u hw
        have h1 := hf.jv.j3 u c n hb
        obtain ⟨p, hp⟩ := hP
        have h2 := jv_back hf.jv hp hb
        omega
      obtain ⟨c, hc, _⟩ := PC.any (x := x) a0 a1 u0 u1
      have hne := (hf.le h a0 a1 hc).2
      have hb := hf.jv.j4 u hu (by omega)
      obtain ⟨p, hp⟩ := Option.ne_none_iff_exists'.1 hb
      obtain ⟨p1, p2, p3, p4⟩ := hf.jv.j2 u p hp
      have hok := Rs_ok h p p1
      have hcn := hf.fix p p1
      have e3 : s.f p.2.1 + p.2.2.2 = s.f u := by
        unfold BF.cnd at hcn
        simp only [not_and, Int.not_lt] at hcn
        have := hcn p4
        rw [p2] at this
        omega
      have ef : speed_from (whole x) l' u = some (p.1, p.2.1) := by
        unfold speed_from
        rw [if_pos (key_ok u0 (by omega)), hl u huM, hf.rep.b u p hp, (en_mem p1).2.1]
        rfl
      rw [ef]
      simp only [Option.bind_eq_bind, Option.bind_some]
      rw [app_some (by simp only [List.length_reverse, List.length_map, List.length_cons, List.length_nil]; omega)]
      simp only [Option.bind_some]
      have eo : (al.map (·.1)).reverse ++ [p.1] = ((p :: al).map (·.1)).reverse := by simp
      rw [eo]
      have hlk' : Lk (p :: al) := by
        cases al with
        | nil => trivial
        | cons q al =>
          rcases hends with ⟨e, _⟩ | ⟨e, _⟩
          · cases e
          · simp only [List.head?_cons, Option.map_some, Option.some.injEq] at e
            exact ⟨by rw [p2, e], hlk⟩
      have hl2 : (p :: al).getLast?.map (fun p => p.2.2.1) = some b := by
        rcases hends with ⟨rfl, e⟩ | ⟨e1, e2⟩
        · simp [p2, e]
        · cases al with
          | nil => simp at e1
          | cons q al => rw [List.getLast?_cons_cons]; exact e2
      refine way_l1 h hP a0 a1 hf m (u :: M) _ p.2.1 (p :: al) (by simp [hn, huM]) (fun w hw => ?_) (by simp [hlen]) hok.1 hok.2.1 (fun t ht => ?_) (by simp only [List.length_cons]; omega) hlk' (fun q hq => ?_) (.inr ⟨rfl, hl2⟩) ?_
      · rcases List.mem_cons.1 hw with rfl | hw
        · exact ⟨u0, u1, _, _, .one hp⟩
        · obtain ⟨w0, w1, c, n, hb⟩ := hM w hw
          exact ⟨w0, w1, _, _, hb.snoc hp⟩
      · simp only [List.mem_cons, not_or] at ht
        rw [mget_del ht.1]
        exact hl t ht.2
      · rcases List.mem_cons.1 hq with rfl | hq
        · exact p1
        · exact hmem q hq
      · have : sumM (p :: al) = p.2.2.2 + sumM al := by simp [sumM]
        omega
theorem inAll_names {al : List Rl} (hm : ∀ p ∈ al, p ∈ Rs x) : inAll (whole x) (al.map (·.1)) = true ∧ rsOf (whole x) (al.map (·.1)) = al.map (·.2) := by
  refine ⟨List.all_eq_true.2 fun i hi => ?_, ?_⟩
  · obtain ⟨p, hp, rfl⟩ := List.mem_map.1 hi
    have := en_mem (hm p hp)
    simp only [Bool.and_eq_true, decide_eq_true_eq]
    exact ⟨this.2.2.1, this.2.2.2⟩
  · unfold rsOf
    rw [List.map_map]
    refine List.map_congr_left fun p hp => ?_
    have := (en_mem (hm p hp)).2.1
    simp [this]
theorem chain_names (h : csheet x = 0) {al : List Rl} (hm : ∀ p ∈ al, p ∈ Rs x) (hlk : Lk al) (hlen : al.length ≤ 60) : chainS (whole x) (al.map (·.1)) = (sumM al, 0) := by
  obtain ⟨e1, e2⟩ := inAll_names hm
  unfold chainS
  rw [if_pos e1, e2]
  cases al with
  | nil => rfl
  | cons q al =>
    simp only [List.length_cons] at hlen
    rw [linkE_lk h al q 0 none hm hlk (.inl rfl) (by omega) (by omega), Int.zero_add]
theorem first_names {al : List Rl} : firstF (al.map (·.2)) = (al.head?.map (fun p => p.2.1)).getD 0 := by cases al <;> rfl
theorem last_names {al : List Rl} : lastT (al.map (·.2)) = (al.getLast?.map (fun p => p.2.2.1)).getD 0 := by
  unfold lastT
  rw [List.getLast?_map]
  cases al.getLast? <;> rfl
theorem wayTo_cway (h : csheet x = 0) (a0 : 0 ≤ a) (a1 : a ≤ x.1) (b0 : 0 ≤ b) (b1 : b ≤ x.1) {al : List Rl} (hw : WayTo x a b al) : cway x a b (al.map (·.1)) = (sumM al, 0) := by
  have hab : (inR 0 x.1 a && inR 0 x.1 b) = true := by simp [inR]; omega
  have hlen := hw.len
  have hch := chain_names h hw.mem hw.lk (by omega)
  rcases hw.ends with ⟨rfl, rfl⟩ | ⟨e1, e2⟩
  · rw [show List.map (fun x : Rl => x.1) [] = ([] : List Int) from rfl, cw5 h hab rfl, if_neg (by simp)]
    rfl
  · have h0 : (al.map (·.1)).length ≠ 0 := by cases al with
      | nil => simp at e1
      | cons q al => simp
    rw [cw6 h hab (by simp; omega) (by rw [hch]) h0, hch, if_neg]
    rw [(inAll_names hw.mem).2, first_names, last_names, e1, e2]
    simp
theorem way_eq (h : csheet x = 0) (hP : Pot x) (a0 : 0 ≤ a) (a1 : a ≤ x.1) (b0 : 0 ≤ b) (b1 : b ≤ x.1) (hF : 100000000000000000 ≤ F) :
    ∃ names : List Int, speed_Way F x a b = some (names, D x a b, 0) ∧ cway x a b names = (D x a b, 0) ∧ names.length ≤ 60 := by
  obtain ⟨h1, h2, h3, _⟩ := csheet_ok h
  obtain ⟨o1, _⟩ := open_eq h (F := F) (by omega)
  obtain ⟨X, l, s, e, hf, hD⟩ := find_D h hP a0 a1 hF
  obtain ⟨al, e1, hw, e2⟩ := way_l1 h hP a0 a1 hf (b := b) F [] l b [] (by simp) (by simp) rfl b0 b1 (fun t _ => rfl) (by simp; omega) trivial (by simp) (.inl ⟨rfl, rfl⟩) (by simp [sumM])
  have fa := hf.dist h a0 a1 a0 a1
  have fb := hf.dist h a0 a1 b0 b1
  have da := hD a a0 a1
  have db := hD b b0 b1
  rw [fa.2] at da
  rw [fb.2] at db
  have dd := D_self h hP a0 a1
  have hs : sumM al = D x a b := by omega
  have hlen := hw.len
  refine ⟨al.map (·.1), ?_, ?_, by simp; omega⟩
  · unfold speed_Way
    have ex : (x.1, x.2) = x := rfl
    simp only [ex, checkSheet_eq (show 100 < F by omega), Option.bind_eq_bind, Option.bind_some]
    rw [if_neg (by simp [h]), turns_eq (by simp; omega) (by simp)]
    have hab : (inR 0 x.1 a && inR 0 x.1 b) = true := by simp [inR]; omega
    simp only [Option.bind_some, List.all_cons, List.all_nil, Bool.and_true, hab]
    rw [if_neg (by simp), show speed_open F x = _ from o1 hP]
    simp only [Option.bind_some]
    rw [if_neg (by simp)]
    rw [show speed_net_find F ((x.1, x.2), whole x) a = _ from e]
    simp only [Option.bind_some]
    simp only [List.map_nil, List.reverse_nil] at e1
    rw [e1]
    simp only [Option.bind_some]
    rw [reverse_eq (by simp; omega) (by simp; omega), List.reverse_reverse]
    simp only [Option.bind_some]
    rw [db.2]
    rfl
  · rw [wayTo_cway h a0 a1 b0 b1 hw, hs]
theorem way_no (h : csheet x ≠ 0) (hF : 1000 ≤ F) : speed_Way F x a b = some ([], 0, csheet x) := by
  unfold speed_Way
  have ex : (x.1, x.2) = x := rfl
  simp only [ex, checkSheet_eq (show 100 < F by omega), Option.bind_eq_bind, Option.bind_some]
  rw [if_pos (by simp [h])]
theorem way_out (h : csheet x = 0) (hab : (inR 0 x.1 a && inR 0 x.1 b) = false) (hF : 1000 ≤ F) : speed_Way F x a b = some ([], 0, 2) := by
  unfold speed_Way
  have ex : (x.1, x.2) = x := rfl
  simp only [ex, checkSheet_eq (show 100 < F by omega), Option.bind_eq_bind, Option.bind_some]
  rw [if_neg (by simp [h]), turns_eq (by simp; omega) (by simp)]
  simp only [Option.bind_some, List.all_cons, List.all_nil, Bool.and_true, hab]
  rfl
theorem way_circ (h : csheet x = 0) (hab : (inR 0 x.1 a && inR 0 x.1 b) = true) (hP : ¬ Pot x) (hF : 1000 ≤ F) : speed_Way F x a b = some ([], 0, 21) := by
  obtain ⟨_, o2⟩ := open_eq h hF
  unfold speed_Way
  have ex : (x.1, x.2) = x := rfl
  simp only [ex, checkSheet_eq (show 100 < F by omega), Option.bind_eq_bind, Option.bind_some]
  rw [if_neg (by simp [h]), turns_eq (by simp; omega) (by simp)]
  simp only [Option.bind_some, List.all_cons, List.all_nil, Bool.and_true, hab]
  rw [if_neg (by simp), show speed_open F x = _ from o2 hP]
  rfl
end
end Go.Proofs.Ythppacohnciinaa
