/-
  A region that draws its order, walked along a plan: operations that only read are taken first, operations that act are taken in every order in which they may come. No condition: a lemma about the model's regions.
-/
import Derived.Orders
import Derived.Laws.World
namespace Go.Md
open Go

section
variable {P : Program} {ops : Array Oper} {S : World → Prop} {T : List Nat}

/-- A plan for a region: which operation is taken next. -/
inductive Plan where
  | stop
  | fin
  | pure (any : Bool) (i : Nat) (p : Plan)
  | eff (i : Nat) (p more : Plan)

def noQ : Exit → Act → World → Prop := fun _ _ _ => False

def opC (P : Program) (ops : Array Oper) (S : World → Prop) (T : List Nat) (j : Nat) (K : Act → World → Prop) (a : Act) (w : World) : Prop :=
  wpOp P ops noQ j (fun a' w' => (j ∉ T → S w → S w') ∧ K a' w') a w

def YldC (P : Program) (ops : Array Oper) (S : World → Prop) (any : Bool) (o : Oper) (v : Value) (a : Act) : Prop :=
  (Region.wanted o (yielded ops a.tmps) = true ∧ ∀ w, (any = true ∨ S w) → (execOp a.eval o).run P w = .ok (.value v) w) ∨
  (Region.wanted o (yielded ops a.tmps) = false ∧ v = undef)

theorem YldC.of_same {any : Bool} {o : Oper} {v : Value} {a a' : Act} (hy : YldC P ops S any o v a) (he : execOp a'.eval o = execOp a.eval o)
    (hw : Region.wanted o (yielded ops a'.tmps) = Region.wanted o (yielded ops a.tmps)) : YldC P ops S any o v a' := by
  unfold YldC at *
  rw [he, hw]
  exact hy

theorem YldC.opC {any : Bool} {i : Nat} {o : Oper} {v : Value} {a : Act} {w : World} (hi : ops[i]? = some o) (hy : YldC P ops S any o v a) (hS : any = true ∨ S w)
    {K : Act → World → Prop} (h : K (a.put o.dst v) w) : opC P ops S T i K a w := by
  unfold Md.opC Go.wpOp
  simp only [hi]
  rcases hy with ⟨hw, hv⟩ | ⟨hw, rfl⟩
  · simp only [hw, if_true, Oper.wp, hv w hS, Oper.upon]; exact .inl ⟨fun _ h => h, h⟩
  · simp only [hw, Bool.false_eq_true, if_false]; exact ⟨fun _ h => h, h⟩

def wpAnyC (P : Program) (ops : Array Oper) (S : World → Prop) (T : List Nat) (Q : Act → World → Prop) : Nat → Array Bool → Act → World → Prop
  | 0, listed, a, w => Region.ready .any ops listed = [] ∧ Q a w
  | fuel + 1, listed, a, w =>
    (Region.ready .any ops listed = [] → Q a w) ∧
    ∀ i ∈ Region.ready .any ops listed, opC P ops S T i (wpAnyC P ops S T Q fuel (listed.setIfInBounds i true)) a w

theorem wpOp_noQ {Q : Exit → Act → World → Prop} {i : Nat} {K K' : Act → World → Prop} {a : Act} {w : World} (hk : ∀ a w, K a w → K' a w) (h : wpOp P ops noQ i K a w) : wpOp P ops Q i K' a w := by
  unfold wpOp at *
  split
  · exact hk _ _ (by simpa [*] using h)
  · rename_i o ho
    simp only [ho] at h
    split
    · rename_i hw
      simp only [hw, if_true] at h
      rcases h with h | ⟨_, _, _, h⟩
      case inr => exact h.elim
      refine .inl ?_
      unfold Oper.wp at *
      generalize (execOp a.eval o).run P w = r at *
      cases r with
      | ok n w' =>
        cases n <;> simp only [Oper.upon] at h ⊢ <;>
          first
            | exact hk _ _ h
            | exact Calls.mono h (fun e w'' he => by cases e <;> first | exact hk _ _ he | exact he.elim | (obtain ⟨_, _, he⟩ := he; exact he.elim))
            | exact Rows.mono h (fun _ _ he => hk _ _ he)
      | halt x w' => cases x <;> simp only [Oper.upon] at h ⊢; exact h.elim
    · rename_i hw; simp only [hw] at h; exact hk _ _ h

theorem wpAny_of_C {Q : Exit → Act → World → Prop} : ∀ (fuel : Nat) (listed : Array Bool) (a : Act) (w : World), wpAnyC P ops S T (Q .normal) fuel listed a w → wpAny P .any ops Q fuel listed a w
  | 0, _, _, _, h => h
  | fuel + 1, _, _, _, h => ⟨h.1, fun i hi => wpOp_noQ (fun a' w' h' => wpAny_of_C fuel _ a' w' h'.2) (h.2 i hi)⟩

def waitsOn (ops : Array Oper) (i j : Nat) : Bool :=
  match ops[j]? with
  | some o => o.after.any fun e => Region.binds .any e && e.on == i
  | none => true

/-- `j` waits on `i`, perhaps through others. -/
def waitsT (ops : Array Oper) : Nat → Nat → Nat → Bool
  | 0, _, _ => false
  | f + 1, i, j =>
    match ops[j]? with
    | some o => (o.after.any fun e => Region.binds .any e && e.on == i) || o.after.any fun e => Region.binds .any e && waitsT ops f i e.on
    | none => false

def ClosedL (ops : Array Oper) (l : Array Bool) : Prop :=
  ∀ (k : Nat) (o : Oper), ops[k]? = some o → l.getD k false = true → ∀ e ∈ o.after, Region.binds .any e = true → l.getD e.on false = true

theorem waitsT_not {l : Array Bool} {i : Nat} (hc : ClosedL ops l) (hi : l.getD i false ≠ true) :
    ∀ (f j : Nat), (∀ o, ops[j]? = some o → ∀ e ∈ o.after, Region.binds .any e = true → l.getD e.on false = true) → waitsT ops f i j = false
  | 0, _, _ => rfl
  | f + 1, j, h => by
    unfold waitsT
    split
    · rename_i o ho
      simp only [Bool.or_eq_false_iff]
      refine ⟨?_, ?_⟩
      · refine Bool.eq_false_iff.2 fun hh => ?_
        obtain ⟨e, he, hb⟩ := Array.any_eq_true'.1 hh
        simp only [Bool.and_eq_true, beq_iff_eq] at hb
        exact hi (hb.2 ▸ h o ho e he hb.1)
      · refine Bool.eq_false_iff.2 fun hh => ?_
        obtain ⟨e, he, hb⟩ := Array.any_eq_true'.1 hh
        simp only [Bool.and_eq_true] at hb
        have h1 := h o ho e he hb.1
        have := waitsT_not hc hi f e.on (fun o' ho' => hc e.on o' ho' h1)
        rw [this] at hb
        exact Bool.noConfusion hb.2
    · rfl

theorem ClosedL.set {l : Array Bool} {j : Nat} {o : Oper} (hc : ClosedL ops l) (ho : ops[j]? = some o) (h : ∀ e ∈ o.after, Region.binds .any e = true → l.getD e.on false = true) :
    ClosedL ops (l.setIfInBounds j true) := fun k ok hk hl e he hb => by
  refine getD_set_true ?_
  by_cases hjk : j = k
  · subst hjk
    rw [ho] at hk; cases hk
    exact h e he hb
  · rw [getD_set_ne false hjk] at hl
    exact hc k ok hk hl e he hb

theorem ClosedL.ready {l : Array Bool} {j : Nat} (hc : ClosedL ops l) (h : j ∈ Region.ready .any ops l) : ClosedL ops (l.setIfInBounds j true) := by
  obtain ⟨_, o, ho, hall⟩ := mem_ready.1 h
  exact hc.set ho hall

theorem ClosedL.none {n : Nat} : ClosedL ops (Array.replicate n false) := fun k o _ hl => by
  simp only [Array.getD_eq_getD_getElem?, Array.getElem?_replicate] at hl
  split at hl <;> cases hl

theorem getD_tf {l : Array Bool} {i : Nat} (h : l.getD i true = false) : l.getD i false ≠ true := by
  simp only [Array.getD_eq_getD_getElem?] at *
  cases hh : l[i]? with
  | none => rw [hh] at h; cases h
  | some b => rw [hh] at h; simp at h; simp [h]

theorem opC_put {any : Bool} {j : Nat} {oi oj : Oper} {v : Value} (hj : ops[j]? = some oj) (hap : oi.apart ops oj = true)
    (hsi : ∀ cs b, oi.op ≠ .select cs b) (hsj : ∀ cs b, oj.op ≠ .select cs b) {K : Act → World → Prop} {a : Act} {w : World}
    (hy : YldC P ops S any oi v a) (h : opC P ops S T j K (a.put oi.dst v) w) :
    opC P ops S T j (fun a' w' => YldC P ops S any oi v a' ∧ K (a'.put oi.dst v) w') a w := by
  obtain ⟨h1, h2, h3⟩ := Oper.apart_spec hap
  have keep : ∀ (a : Act), YldC P ops S any oi v a → ∀ u, YldC P ops S any oi v (a.put oj.dst u) := fun a hy u =>
    hy.of_same (execOp_put oi hsi a oj.dst u h3) (wanted_put oi a oj.dst u h3)
  have keepD : ∀ d, YldC P ops S any oi v { a with defers := d :: a.defers } := fun d => hy.of_same rfl rfl
  unfold opC wpOp at *
  simp only [hj] at *
  rw [wanted_put oj a oi.dst v h1] at h
  split
  · rename_i hw
    simp only [hw, if_true] at h
    rcases h with h | ⟨_, _, _, h⟩
    case inr => exact h.elim
    refine .inl ?_
    unfold Oper.wp at *
    rw [execOp_put oj hsj a oi.dst v h1] at h
    generalize (execOp a.eval oj).run P w = r at *
    cases r with
    | ok n w' =>
      cases n <;> simp only [Oper.upon] at h ⊢
      case value u => exact ⟨h.1, keep a hy u, by rw [← Act.put_comm a v u h2]; exact h.2⟩
      case skip => exact ⟨h.1, keep a hy _, by rw [← Act.put_comm a v undef h2]; exact h.2⟩
      case defer d =>
        refine ⟨h.1, keep _ (keepD d) _, ?_⟩
        rw [← Act.put_comm _ v undef h2, ← Act.put_defers]
        exact h.2
      case enter f args =>
        refine Calls.mono h fun e w'' he => ?_
        cases e with
        | returned u => exact ⟨he.1, keep a hy u, by rw [← Act.put_comm a v u h2]; exact he.2⟩
        | panicked c => exact he
        | outgrown => exact he
      case row row args => exact Rows.mono h fun u w'' he => ⟨he.1, keep a hy u, by rw [← Act.put_comm a v u h2]; exact he.2⟩
    | halt x w' =>
      cases x <;> simp only [Oper.upon] at h ⊢
      case panic u => exact h
  · rename_i hw
    simp only [hw] at h
    exact ⟨h.1, keep a hy _, by rw [← Act.put_comm a v undef h2]; exact h.2⟩

theorem opC_mono {j : Nat} {K K' : Act → World → Prop} {a : Act} {w : World} (hk : ∀ a' w', (j ∉ T → S w → S w') → K a' w' → K' a' w') (h : opC P ops S T j K a w) : opC P ops S T j K' a w :=
  wpOp_mono (fun a' w' h' => ⟨h'.1, hk a' w' h'.1 h'.2⟩) h

/-- An operation that only reads may be taken first. -/
theorem wpAnyC_first {any : Bool} {Q : Act → World → Prop} {i : Nat} {oi : Oper} {v : Value} (hi : ops[i]? = some oi) (hsel : ∀ (j : Nat) (o : Oper) cs b, ops[j]? = some o → o.op ≠ .select cs b)
    (hT : any = true ∨ ∀ j ∈ T, waitsT ops 6 i j = true) :
    ∀ (fuel : Nat) (listed : Array Bool) (a : Act) (w : World), ClosedL ops listed →
      (∀ j oj, ops[j]? = some oj → j ≠ i → listed.getD j true = false → (∀ e ∈ oj.after, Region.binds .any e = true → e.on ≠ i) → oi.apart ops oj = true) →
      i ∈ Region.ready .any ops listed → YldC P ops S any oi v a → (any = true ∨ S w) →
      wpAnyC P ops S T Q fuel (listed.setIfInBounds i true) (a.put oi.dst v) w → wpAnyC P ops S T Q (fuel + 1) listed a w := by
  intro fuel
  induction fuel with
  | zero =>
    intro listed a w hcl _ hr hy hS H
    refine ⟨fun h => (by rw [h] at hr; cases hr), fun j hj => ?_⟩
    by_cases hji : j = i
    · subst hji; exact hy.opC hi hS H
    · have := ready_mono hj hji
      rw [H.1] at this
      cases this
  | succ fuel ih =>
    intro listed a w hcl hfree hr hy hS H
    refine ⟨fun h => (by rw [h] at hr; cases hr), fun j hj => ?_⟩
    by_cases hji : j = i
    · subst hji; exact hy.opC hi hS H
    · have h1 := H.2 j (ready_mono hj hji)
      obtain ⟨hjun, oj, hoj, hall⟩ := mem_ready.1 hj
      have hnot : ∀ e ∈ oj.after, Region.binds .any e = true → e.on ≠ i := fun e he hb heq => by
        have h1 := hall e he hb
        have h0 := (mem_ready.1 hr).1
        rw [heq] at h1
        rcases Nat.lt_or_ge i listed.size with h' | h'
        · simp [h'] at h0 h1; rw [h0] at h1; cases h1
        · simp [Array.getElem?_eq_none h'] at h1
      have hjT : any = true ∨ j ∉ T := hT.imp id fun hT hmem => by
        have hw := hT j hmem
        have h0 := (mem_ready.1 hr).1
        rw [waitsT_not hcl (getD_tf h0) 6 j (fun o ho e he hb => by rw [hoj] at ho; cases ho; exact hall e he hb)] at hw
        cases hw
      have h2 := opC_put hoj (hfree j oj hoj hji hjun hnot) (fun cs b => hsel i oi cs b hi) (fun cs b => hsel j oj cs b hoj) hy h1
      have hfree' : ∀ k ok, ops[k]? = some ok → k ≠ i → (listed.setIfInBounds j true).getD k true = false →
          (∀ e ∈ ok.after, Region.binds .any e = true → e.on ≠ i) → oi.apart ops ok = true := fun k ok hk hki hun hno => by
        refine hfree k ok hk hki ?_ hno
        by_cases hjk : j = k
        · subst hjk; exact hjun
        · rw [getD_set_ne true hjk] at hun; exact hun
      refine opC_mono (fun a' w' hSS h3 => ih (listed.setIfInBounds j true) a' w' (hcl.set hoj hall) hfree' (ready_mono hr (Ne.symm hji)) h3.1 ?_ ?_) h2
      · rcases hS with h | h
        · exact .inl h
        · rcases hjT with h' | h'
          · exact .inl h'
          · exact .inr (hSS h' h)
      · rw [Array.setIfInBounds_comm _ _ hji]
        exact h3.2

def Plan.heads : Plan → List Nat
  | .eff i _ m => i :: m.heads
  | _ => []

def Plan.ok (ops : Array Oper) (T : List Nat) : Bool → Nat → Plan → Array Bool → Bool
  | true, _, .stop, _ => true
  | true, f + 1, .eff i p m, l => p.ok ops T false f (l.setIfInBounds i true) && m.ok ops T true (f + 1) l
  | false, _, .fin, l => (Region.ready .any ops l).isEmpty
  | false, f + 1, .pure any i p, l => (Region.ready .any ops l).contains i && Region.free .any ops l i && (any || T.all (waitsT ops 6 i)) && p.ok ops T false f (l.setIfInBounds i true)
  | false, f + 1, .eff i p m, l => !(Region.ready .any ops l).isEmpty && (Region.ready .any ops l).all (i :: m.heads).contains && p.ok ops T false f (l.setIfInBounds i true) && m.ok ops T true (f + 1) l
  | _, _, _, _ => false

def Plan.wp (P : Program) (ops : Array Oper) (S : World → Prop) (T : List Nat) (Q : Act → World → Prop) : Bool → Plan → Act → World → Prop
  | true, .eff i p m, a, w => opC P ops S T i (p.wp P ops S T Q false) a w ∧ m.wp P ops S T Q true a w
  | true, _, _, _ => True
  | false, .fin, a, w => Q a w
  | false, .pure any i p, a, w => ∃ o v, ops[i]? = some o ∧ YldC P ops S any o v a ∧ (any = true ∨ S w) ∧ p.wp P ops S T Q false (a.put o.dst v) w
  | false, .eff i p m, a, w => opC P ops S T i (p.wp P ops S T Q false) a w ∧ m.wp P ops S T Q true a w
  | false, .stop, _, _ => False

theorem Plan.branches {Q : Act → World → Prop} {a : Act} {w : World} {f : Nat} {l : Array Bool} {K : Nat → Act → World → Prop} :
    ∀ (p : Plan), p.ok ops T true (f + 1) l = true → p.wp P ops S T Q true a w →
    (∀ (p' : Plan) i a w, p'.ok ops T false f (l.setIfInBounds i true) = true → p'.wp P ops S T Q false a w → K i a w) →
    ∀ i ∈ p.heads, opC P ops S T i (K i) a w
  | .eff i p m, hok, hw, hK, j, hj => by
    simp only [Plan.ok, Bool.and_eq_true] at hok
    simp only [Plan.wp] at hw
    rcases List.mem_cons.1 hj with rfl | hj
    · exact opC_mono (fun a' w' _ h => hK p _ a' w' hok.1 h) hw.1
    · exact Plan.branches m hok.2 hw.2 hK j hj
  | .stop, _, _, _, j, hj => by cases hj
  | .fin, _, _, _, j, hj => by cases hj
  | .pure _ _ _, _, _, _, j, hj => by cases hj

theorem Plan.sound {Q : Act → World → Prop} (hs : Region.noSelect ops = true) : ∀ (f : Nat) (p : Plan) (l : Array Bool) (a : Act) (w : World), ClosedL ops l →
    p.ok ops T false f l = true → p.wp P ops S T Q false a w → wpAnyC P ops S T Q f l a w
  | f, .stop, l, a, w, _, hok, hw => by simp [Plan.wp] at hw
  | 0, .fin, l, a, w, _, hok, hw => ⟨by simpa [Plan.ok] using hok, hw⟩
  | f + 1, .fin, l, a, w, _, hok, hw => by
    have hr : Region.ready .any ops l = [] := by simpa [Plan.ok] using hok
    exact ⟨fun _ => hw, fun i hi => by rw [hr] at hi; cases hi⟩
  | 0, .pure _ _ _, _, _, _, _, hok, _ => by simp [Plan.ok] at hok
  | 0, .eff _ _ _, _, _, _, _, hok, _ => by simp [Plan.ok] at hok
  | f + 1, .pure any i p, l, a, w, hcl, hok, hw => by
    simp only [Plan.ok, Bool.and_eq_true] at hok
    obtain ⟨⟨⟨hr, hf⟩, hT⟩, hp⟩ := hok
    simp only [Plan.wp] at hw
    obtain ⟨o, v, ho, hy, hS, hw⟩ := hw
    exact wpAnyC_first ho (Region.noSelect_spec hs) (by simpa using hT) f l a w hcl (Region.free_spec ho hf) (by simpa using hr) hy hS (Plan.sound hs f p _ _ _ (hcl.ready (by simpa using hr)) hp hw)
  | f + 1, .eff i p m, l, a, w, hcl, hok, hw => by
    simp only [Plan.ok, Bool.and_eq_true] at hok
    obtain ⟨⟨⟨hne, hall⟩, hp⟩, hm⟩ := hok
    simp only [Plan.wp] at hw
    refine ⟨fun h => by simp [h] at hne, fun j hj => ?_⟩
    have hj' : j ∈ i :: m.heads := by
      have := List.all_eq_true.1 hall j hj
      simpa using this
    rcases List.mem_cons.1 hj' with rfl | hj'
    · exact opC_mono (fun a' w' _ h => Plan.sound hs f p _ a' w' (hcl.ready hj) hp h) hw.1
    · exact opC_mono (fun _ _ _ h => h hj) (Plan.branches (K := fun i a w => i ∈ Region.ready .any ops l → wpAnyC P ops S T Q f (l.setIfInBounds i true) a w) m hm hw.2 (fun p' i a w h1 h2 hi => Plan.sound hs f p' _ a w (hcl.ready hi) h1 h2) j hj')

/-- A region that draws its order, by a plan. -/
theorem wp_plan {id : Nat} {Q : Exit → Act → World → Prop} {a : Act} {w : World} {l : List Oper} (S : World → Prop) (T : List Nat) (p : Plan) (hm : P.follows .mixedOrders = true)
    (hok : (Region.noSelect l.toArray && p.ok l.toArray T false l.length (Array.replicate l.length false)) = true)
    (h : p.wp P l.toArray S T (Q .normal) false a w.drew) : (Code.region id l.toArray true).wp P Q a w := by
  simp only [Bool.and_eq_true] at hok
  refine wp_region_any hm (wpAny_of_C (S := S) (T := T) _ _ _ _ ?_)
  have := Plan.sound (P := P) (S := S) (Q := Q .normal) hok.1 l.length p _ a w.drew ClosedL.none hok.2 h
  simpa using this
end
end Go.Md
