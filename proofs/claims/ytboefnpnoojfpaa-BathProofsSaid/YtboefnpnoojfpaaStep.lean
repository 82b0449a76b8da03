/-
  Guarded operations, regions by a plan, function values, cuts. No condition: lemmas about the model.
-/
import Derived.Test.YtboefnpnoojfpaaRow
namespace Go.Md
open Go Go.RowKit

section
variable {P : Program} {Q : Exit → Act → World → Prop} {n : Nat} {L : Fr} {D : List Deferred} {w : World} {ops : Array Oper} {rest : List Oper}

/-- A guarded operation that does not run. -/
theorem gfn {o : Oper} {j : Nat} {b : Bool} {oj : Oper} {t d : Nat} (hg : o.guard = some (j, b)) (hj : ops[j]? = some oj) (hd : oj.dst = some t) (ht : Nat.blt t n = true)
    (hv : L t ≠ .bool b) (hdd : o.dst = some d) (h : wpList P ops Q rest (act n (upd L d undef) D) w) : wpList P ops Q (o :: rest) (act n L D) w := by
  have hw : Region.wanted o (yielded ops (act n L D).tmps) = false := by
    simp only [Region.wanted, hg, yielded, hj, hd, Option.bind_some, tmps_act n L D t ht]
    cases hL : L t <;> simp
    rename_i c
    intro e
    exact hv (by rw [hL, e])
  unfold wpList
  rw [if_neg (by simp [hw]), hdd, put_act]
  exact h

/-- A guarded operation that reads alone; 'W' says whether it runs. -/
theorem gv {o : Oper} {j : Nat} {b W : Bool} {oj : Oper} {t d : Nat} {v : Value} (hg : o.guard = some (j, b)) (hj : ops[j]? = some oj) (hd : oj.dst = some t) (ht : Nat.blt t n = true)
    (hw : (W = true → L t = .bool b) ∧ (W = false → L t ≠ .bool b)) (hdd : o.dst = some d) (h : W = true → (execOp (ev n L) o).run P w = .ok (.value v) w)
    (k : wpList P ops Q rest (act n (upd L d (bif W then v else undef)) D) w) : wpList P ops Q (o :: rest) (act n L D) w := by
  cases hW : W with
  | true =>
    subst hW
    refine gt (b := b) hg hj hd ht (hw.1 rfl) (vl (o := { o with guard := none }) rfl hdd (v := v) ?_ (by simpa using k))
    exact h rfl
  | false =>
    subst hW
    exact gfn hg hj hd ht (hw.2 rfl) hdd (by simpa using k)

/-- A guarded call. -/
theorem gc {o : Oper} {j : Nat} {b W : Bool} {oj : Oper} {t d : Nat} {g : FuncId} {args : Array Value} {R : Value → World → Prop} (hg : o.guard = some (j, b)) (hj : ops[j]? = some oj) (hd : oj.dst = some t) (ht : Nat.blt t n = true)
    (hw : (W = true → L t = .bool b) ∧ (W = false → L t ≠ .bool b)) (hdd : o.dst = some d) (h : W = true → (execOp (ev n L) o).run P w = .ok (.enter g args) w) (hc : W = true → Calls P g args w (Ret R))
    (k : ∀ v w', (W = true → R v w') → (W = false → v = undef ∧ w' = w) → wpList P ops Q rest (act n (upd L d v) D) w') : wpList P ops Q (o :: rest) (act n L D) w := by
  cases hW : W with
  | true => exact gt (b := b) hg hj hd ht (hw.1 hW) (cl (o := { o with guard := none }) rfl hdd (g := g) (args := args) (R := R) (h hW) (hc hW) fun v w' hr => k v w' (fun _ => hr) (fun h => by simp [hW] at h))
  | false => exact gfn hg hj hd ht (hw.2 hW) hdd (k undef w (fun h => by simp [hW] at h) (fun _ => ⟨rfl, rfl⟩))

/-- A guarded operation that makes memory: whatever it is, step by step. -/
theorem gm {o : Oper} {j : Nat} {b W : Bool} {oj : Oper} {t d : Nat} (R : Value → World → Prop) (hg : o.guard = some (j, b)) (hj : ops[j]? = some oj) (hd : oj.dst = some t) (ht : Nat.blt t n = true)
    (hw : (W = true → L t = .bool b) ∧ (W = false → L t ≠ .bool b)) (hdd : o.dst = some d)
    (h : W = true → wpList P ops (fun e a w => match e with | .normal => ∃ v, a = act n (upd L d v) D ∧ R v w | _ => False) [{ o with guard := none }] (act n L D) w)
    (k : ∀ v w', (W = true → R v w') → (W = false → v = undef ∧ w' = w) → wpList P ops Q rest (act n (upd L d v) D) w') : wpList P ops Q (o :: rest) (act n L D) w := by
  cases hW : W with
  | true =>
    refine gt (b := b) hg hj hd ht (hw.1 hW) ?_
    have h1 := h hW
    unfold wpList at h1 ⊢
    rw [if_pos (by simp [Region.wanted])] at h1 ⊢
    rcases h1 with h1 | ⟨_, _, _, h1⟩
    case inr => exact h1.elim
    refine .inl ?_
    unfold Oper.wp at *
    generalize (execOp (act n L D).eval { o with guard := none }).run P w = r at *
    have fin : ∀ a' w', wpList P ops (fun e a w => match e with | .normal => ∃ v, a = act n (upd L d v) D ∧ R v w | _ => False) [] a' w' → wpList P ops Q rest a' w' := by
      intro a' w' hh
      unfold wpList at hh
      obtain ⟨v, rfl, hr⟩ := hh
      exact k v w' (fun _ => hr) (fun h => by simp [hW] at h)
    cases r with
    | ok m w' =>
      cases m <;> simp only [Oper.upon] at h1 ⊢ <;>
        first
          | exact fin _ _ h1
          | exact Calls.mono h1 (fun e w'' he => by cases e <;> first | exact fin _ _ he | exact he.elim | (obtain ⟨_, _, he⟩ := he; exact he.elim))
          | exact Rows.mono h1 (fun _ _ he => fin _ _ he)
    | halt x w' => cases x <;> simp only [Oper.upon] at h1
  | false => exact gfn hg hj hd ht (hw.2 hW) hdd (k undef w (fun h => by simp [hW] at h) (fun _ => ⟨rfl, rfl⟩))

/-- A guard's own slot: does the operation run? -/
theorem gw1 {t : Nat} {g : Bool} (hv : L t = .bool g) : (g = true → L t = .bool true) ∧ (g = false → L t ≠ .bool true) := by
  rw [hv]; cases g <;> simp
theorem gw0 {t : Nat} {g : Bool} (hv : L t = .bool g) : ((!g) = true → L t = .bool false) ∧ ((!g) = false → L t ≠ .bool false) := by
  rw [hv]; cases g <;> simp
theorem gn1 {t : Nat} {W g : Bool} (hv : L t = bif W then .bool g else undef) : ((W && g) = true → L t = .bool true) ∧ ((W && g) = false → L t ≠ .bool true) := by
  rw [hv]; cases W <;> cases g <;> simp [undef]
theorem gn0 {t : Nat} {W g : Bool} (hv : L t = bif W then .bool g else undef) : ((W && !g) = true → L t = .bool false) ∧ ((W && !g) = false → L t ≠ .bool false) := by
  rw [hv]; cases W <;> cases g <;> simp [undef]
theorem mv {W : Bool} {y v u : Value} (hc : W = true) (h : y = bif W then v else u) : y = v := by subst hc; exact h
theorem mvn {W g : Bool} {y v u : Value} (hc : W = true) (h : y = bif W && g then v else u) : y = bif g then v else u := by subst hc; simpa using h
theorem and1 {a b : Bool} (h : (a && b) = true) : a = true := by cases a <;> simp_all
theorem and2 {a b : Bool} (h : (a && b) = true) : b = true := by cases a <;> simp_all
theorem mkw {W : Bool} {v a : Value} (h1 : W = true → v = a) (h2 : W = false → v = undef) : v = bif W then a else undef := by cases W <;> simp_all
theorem gx {W : Bool} {A : Prop} (h1 : W = true → A) (h2 : W = false → A) : A := by cases hW : W; exact h2 hW; exact h1 hW
theorem xpa {c q : Bool} {ty : TypeId} {pos : String} {af : Array Edge} {dst : Option Nat} {gd : Option (Nat × Bool)} {x y z : Operand} (hx : ev n L x = .bool c) (hy : ev n L y = bif c then .bool q else undef) (hz : ev n L z = .bool false) :
    (execOp (ev n L) { dst := dst, op := .pick x y z, type := ty, pos := pos, after := af, guard := gd }).run P w = .ok (.value (.bool (c && q))) w := by
  rw [xpk hx, hy, hz]; cases c <;> rfl
theorem xpo {c q : Bool} {ty : TypeId} {pos : String} {af : Array Edge} {dst : Option Nat} {gd : Option (Nat × Bool)} {x y z : Operand} (hx : ev n L x = .bool c) (hz : ev n L z = bif !c then .bool q else undef) (hy : ev n L y = .bool true) :
    (execOp (ev n L) { dst := dst, op := .pick x y z, type := ty, pos := pos, after := af, guard := gd }).run P w = .ok (.value (.bool (c || q))) w := by
  rw [xpk hx, hy, hz]; cases c <;> rfl

/-- A cut within a region's operations. -/
theorem ctl {l1 l2 : List Oper} (R : Fr → World → Prop) (h : wpList P ops (fun e a w => match e with | .normal => ∃ L', a = act n L' D ∧ R L' w | e => Q e a w) l1 (act n L D) w)
    (k : ∀ L' w', R L' w' → wpList P ops Q l2 (act n L' D) w') : wpList P ops Q (l1 ++ l2) (act n L D) w := by
  have key : ∀ (l1 : List Oper) (a : Act) (w : World), wpList P ops (fun e a w => match e with | .normal => ∃ L', a = act n L' D ∧ R L' w | e => Q e a w) l1 a w → wpList P ops Q (l1 ++ l2) a w := by
    intro l1
    induction l1 with
    | nil =>
      intro a w h
      obtain ⟨L', rfl, hr⟩ := h
      exact k L' w hr
    | cons o l1 ih =>
      intro a w h
      rw [List.cons_append]
      unfold wpList at h ⊢
      split
      · rename_i hw
        rw [if_pos hw] at h
        rcases h with h | ⟨h1, a0, w0, h2⟩
        · refine .inl ?_
          unfold Oper.wp at *
          generalize (execOp a.eval o).run P w = r at *
          cases r with
          | ok m w' =>
            cases m <;> simp only [Oper.upon] at h ⊢ <;>
              first
                | exact ih _ _ h
                | exact Calls.mono h (fun e w'' he => by cases e <;> first | exact ih _ _ he | exact he)
                | exact Rows.mono h (fun _ _ he => ih _ _ he)
          | halt x w' => cases x <;> simp only [Oper.upon] at h ⊢; exact h
        · exact .inr ⟨h1, a0, w0, h2⟩
      · rename_i hw
        rw [if_neg hw] at h
        exact ih _ _ h
  exact key l1 _ _ h

/-! ### Plans -/
variable {S : World → Prop} {T : List Nat} {QQ : Act → World → Prop}

theorem wpl {id : Nat} {l : List Oper} (T : List Nat) (p : Plan) (hm : P.follows .mixedOrders = true)
    (hok : (Region.noSelect l.toArray && p.ok l.toArray T false l.length (Array.replicate l.length false)) = true)
    (h : ∀ wd, Ext w wd → p.wp P l.toArray (fun w' => Ext wd w') T (Q .normal) false (act n L D) wd) : (Code.region id l.toArray true).wp P Q (act n L D) w :=
  wp_plan _ T p hm hok (h w.drew (Ext.drew w))

theorem pv {any : Bool} {i : Nat} {p : Plan} {o : Oper} {d : Nat} {v : Value} (ho : ops[i]? = some o) (hg : o.guard = none) (hd : o.dst = some d)
    (h : ∀ w', (any = true ∨ S w') → (execOp (ev n L) o).run P w' = .ok (.value v) w') (hS : any = true ∨ S w) (k : p.wp P ops S T QQ false (act n (upd L d v) D) w) :
    Plan.wp P ops S T QQ false (.pure any i p) (act n L D) w := by
  refine ⟨o, v, ho, .inl ⟨by simp [Region.wanted, hg], fun w' hw' => by rw [ev_act]; exact h w' hw'⟩, hS, ?_⟩
  rw [hd, put_act]
  exact k

theorem pgv {any : Bool} {i : Nat} {p : Plan} {o : Oper} {j : Nat} {b W : Bool} {oj : Oper} {t d : Nat} {v : Value} (ho : ops[i]? = some o) (hg : o.guard = some (j, b)) (hj : ops[j]? = some oj) (hd : oj.dst = some t) (ht : Nat.blt t n = true)
    (hw : (W = true → L t = .bool b) ∧ (W = false → L t ≠ .bool b)) (hdd : o.dst = some d) (h : W = true → ∀ w', (any = true ∨ S w') → (execOp (ev n L) o).run P w' = .ok (.value v) w') (hS : any = true ∨ S w)
    (k : p.wp P ops S T QQ false (act n (upd L d (bif W then v else undef)) D) w) :
    Plan.wp P ops S T QQ false (.pure any i p) (act n L D) w := by
  refine ⟨o, (bif W then v else undef), ho, ?_, hS, by rw [hdd, put_act]; exact k⟩
  cases hW : W with
  | true =>
    refine .inl ⟨by simp [Region.wanted, hg, yielded, hj, hd, tmps_act n L D t ht, hw.1 hW], fun w' hw' => ?_⟩
    rw [ev_act]
    exact h hW w' hw'
  | false =>
    refine .inr ⟨?_, rfl⟩
    have hv := hw.2 hW
    simp only [Region.wanted, hg, yielded, hj, hd, Option.bind_some, tmps_act n L D t ht]
    cases hL : L t <;> simp
    rename_i c
    intro e
    exact hv (by rw [hL, e])

theorem pe {i : Nat} {p m : Plan} {o : Oper} (ho : ops[i]? = some o)
    (h : wpList P ops (fun e a' w' => match e with | .normal => (i ∉ T → S w → S w') ∧ p.wp P ops S T QQ false a' w' | _ => False) [o] (act n L D) w) (hm : m.wp P ops S T QQ true (act n L D) w) :
    Plan.wp P ops S T QQ false (.eff i p m) (act n L D) w := by
  refine ⟨?_, hm⟩
  unfold opC wpOp
  simp only [ho]
  unfold wpList at h
  split
  · rename_i hw
    rw [if_pos hw] at h
    rcases h with h | ⟨_, _, _, h⟩
    case inr => exact h.elim
    refine .inl ?_
    unfold Oper.wp at *
    generalize (execOp (act n L D).eval o).run P w = r at *
    have fin : ∀ a' w', wpList P ops (fun e a' w' => match e with | .normal => (i ∉ T → S w → S w') ∧ p.wp P ops S T QQ false a' w' | _ => False) [] a' w' → (i ∉ T → S w → S w') ∧ p.wp P ops S T QQ false a' w' := by
      intro a' w' hh
      unfold wpList at hh
      exact hh
    cases r with
    | ok q w' =>
      cases q <;> simp only [Oper.upon] at h ⊢ <;>
        first
          | exact fin _ _ h
          | exact Calls.mono h (fun e w'' he => by cases e <;> first | exact fin _ _ he | exact he.elim | (obtain ⟨_, _, he⟩ := he; exact he.elim))
          | exact Rows.mono h (fun _ _ he => fin _ _ he)
    | halt x w' => cases x <;> simp only [Oper.upon] at h
  · rename_i hw
    rw [if_neg hw] at h
    unfold wpList at h
    exact h

theorem pm {i : Nat} {p m : Plan} {o : Oper} (ho : ops[i]? = some o)
    (h : wpList P ops (fun e a' w' => match e with | .normal => (i ∉ T → S w → S w') ∧ p.wp P ops S T QQ false a' w' | _ => False) [o] (act n L D) w) (hm : m.wp P ops S T QQ true (act n L D) w) :
    Plan.wp P ops S T QQ true (.eff i p m) (act n L D) w := by
  have := pe (p := p) (m := .stop) ho h (show Plan.wp P ops S T QQ true .stop (act n L D) w from trivial)
  exact ⟨this.1, hm⟩
theorem pe1 {i : Nat} {p : Plan} {o : Oper} (ho : ops[i]? = some o)
    (h : wpList P ops (fun e a' w' => match e with | .normal => (i ∉ T → S w → S w') ∧ p.wp P ops S T QQ false a' w' | _ => False) [o] (act n L D) w) :
    Plan.wp P ops S T QQ false (.eff i p .stop) (act n L D) w := pe ho h trivial
end

/-- v is a function value that answers b for x where p x is b, and leaves all memory as it is. -/
def FnB (P : Program) (α : Type) [Enc α] (w : World) (v : Value) (p : α → Option Bool) : Prop :=
  ∃ g fs cs, v = .func (.func g) (List.toArray fs) (List.toArray cs) ∧ Callable P g ∧ ∀ w' u x b, Ext w w' → RV w' u x → p x = some b →
    Calls P g (fs ++ [u] ++ cs).toArray w' (Ret fun r w'' => r = .bool b ∧ Ext w' w'')
theorem FnB.ext {P : Program} {α : Type} [Enc α] {w w' : World} {v : Value} {p : α → Option Bool} (h : FnB P α w v p) (k : Ext w w') : FnB P α w' v p :=
  let ⟨g, fs, cs, e, c, h⟩ := h
  ⟨g, fs, cs, e, c, fun w2 u x b h2 => h w2 u x b (k.tr h2)⟩

/-- The index of the first element for which p holds. -/
def idxFrom {α : Type} (p : α → Option Bool) : List α → Int → Option Int
  | [], _ => some (-1)
  | x :: t, k => do
    let b ← p x
    if b = true then some k else idxFrom p t (w64 (k + 1))

/-- Under a condition: what there is. -/
theorem cex {c b : Bool} {α : Type} [Inhabited α] {R : α → Prop} (h : c = b → ∃ x, R x) : ∃ x, c = b → R x := by
  by_cases hc : c = b
  · obtain ⟨x, hx⟩ := h hc; exact ⟨x, fun _ => hx⟩
  · exact ⟨default, fun h => (hc h).elim⟩
end Go.Md

namespace Go.Md
open Go Go.RowKit
/-! ### Results -/
inductive RVs (P : Program) (w : World) (n : Nat) (L : Fr) : List ResultVar → List Value → Prop
  | nil : RVs P w n L [] []
  | tmp {t : Nat} {v : Value} {rs : List ResultVar} {vs : List Value} (hv : L t = v) (ht : Nat.blt t n = true) (h : RVs P w n L rs vs) : RVs P w n L (.tmp t :: rs) (v :: vs)
  | cell {t : Nat} {ty : TypeId} {b o m bytes : Nat} {z cs : List Value} {rs : List ResultVar} {vs : List Value} (hv : L t = .pointer (some ⟨b, o, none⟩)) (ht : Nat.blt t n = true) (hi : TI P ty true m bytes z) (hl : cs.length = m)
      (hc : Cs w b o cs) (h : RVs P w n L rs vs) : RVs P w n L (.cell t ty :: rs) (.agg cs.toArray :: vs)
  | cell1 {t : Nat} {ty : TypeId} {b o m bytes : Nat} {z : List Value} {c : Value} {rs : List ResultVar} {vs : List Value} (hv : L t = .pointer (some ⟨b, o, none⟩)) (ht : Nat.blt t n = true) (hi : TI P ty false m bytes z)
      (hc : w.cell? ⟨b, o, none⟩ = some c) (h : RVs P w n L rs vs) : RVs P w n L (.cell t ty :: rs) (c :: vs)

def res : List Value → Value
  | [v] => v
  | vs => .tuple vs.toArray

def rvOf (tmps : Array Value) (r : ResultVar) : Sem Value := match r with
  | .tmp t => pure (tmps.getD t undef)
  | .cell a t => do loadVar t (← asAddr (tmps.getD a undef))

theorem getD_act (n : Nat) (L : Fr) (D : List Deferred) (t : Nat) (h : Nat.blt t n = true) : (act n L D).tmps.getD t undef = L t := by
  simp [Array.getD_eq_getD_getElem?, tmps_act n L D t h]

theorem RVs.run {P : Program} {w : World} {n : Nat} {L : Fr} {D : List Deferred} : ∀ {rs : List ResultVar} {vs : List Value}, RVs P w n L rs vs →
    (rs.mapM (rvOf (act n L D).tmps)).run P w = Result.ok vs w
  | _, _, .nil => by simp
  | _, _, .tmp (t := t) (v := v) hv ht h => by
    have ih := RVs.run (D := D) h
    have h1 : (rvOf (act n L D).tmps (.tmp t)).run P w = .ok v w := by simp only [rvOf, getD_act n L D t ht, hv]; rfl
    simp only [List.mapM_cons, Sem.run_bind, h1, Result.andThen_ok, ih, Sem.run_pure]
  | _, _, .cell (t := t) (ty := ty) (b := b) (o := o) (cs := cs) hv ht hi hl hc h => by
    have ih := RVs.run (D := D) h
    have hld := run_loadCells_list (P := P) w ⟨b, o, none⟩ cs (fun j v hv => by rw [add_mk]; exact hc j v hv)
    rw [hl] at hld
    have h1 : (rvOf (act n L D).tmps (.cell t ty)).run P w = .ok (.agg cs.toArray) w := by
      simp [rvOf, getD_act n L D t ht, hv, asAddr, loadVar, hi.ag, hi.size, hld, -Array.getD_eq_getD_getElem?]
    simp only [List.mapM_cons, Sem.run_bind, h1, Result.andThen_ok, ih, Sem.run_pure]
  | _, _, .cell1 (t := t) (ty := ty) (b := b) (o := o) (c := c) hv ht hi hc h => by
    have ih := RVs.run (D := D) h
    have h1 : (rvOf (act n L D).tmps (.cell t ty)).run P w = .ok c w := by
      simp [rvOf, getD_act n L D t ht, hv, asAddr, loadVar, hi.ag, hc, -Array.getD_eq_getD_getElem?]
    simp only [List.mapM_cons, Sem.run_bind, h1, Result.andThen_ok, ih, Sem.run_pure]

section
variable {P : Program} {w : World} {n : Nat} {L : Fr}
theorem RVs.results {D : List Deferred} {fn : Func} {rs : List ResultVar} {vs : List Value} (hr : fn.results = rs.toArray) (h : RVs P w n L rs vs) : (results fn (act n L D).tmps).run P w = .ok (res vs) w := by
  have h1 := RVs.run (D := D) h
  have e : Go.results fn (act n L D).tmps = (do
      let vs ← fn.results.mapM (rvOf (act n L D).tmps)
      pure (if h : vs.size = 1 then vs[0] else .tuple vs)) := rfl
  rw [e, hr, List.mapM_toArray]
  simp only [Sem.run_bind, Sem.run_map, h1, Result.andThen_ok, Sem.run_pure]
  congr 1
  match vs with
  | [] => rfl
  | [v] => rfl
  | _ :: _ :: _ => simp [res]

theorem rt {fn : Func} {R : Value → World → Prop} {rs : List ResultVar} {vs : List Value} (hr : fn.results = rs.toArray) (h : RVs P w n L rs vs) (hR : R (res vs) w) : bodyPost P fn (Ret R) .ret (act n L []) w :=
  ⟨rfl, _, h.results hr, _, rfl, hR⟩
theorem rtn {fn : Func} {R : Value → World → Prop} {rs : List ResultVar} {vs : List Value} (hr : fn.results = rs.toArray) (h : RVs P w n L rs vs) (hR : R (res vs) w) : bodyPost P fn (Ret R) .normal (act n L []) w :=
  ⟨rfl, _, h.results hr, _, rfl, hR⟩
end
end Go.Md

namespace Go.Md
open Go Go.RowKit
/-! ### Small words for the generated walks -/
section
variable {P : Program} {Q : Exit → Act → World → Prop} {n : Nat} {L : Fr} {D : List Deferred} {w : World} {ops : Array Oper} {rest : List Oper}
variable {ty : TypeId} {pos : String} {af : Array Edge} {dst : Option Nat} {gdd : Option (Nat × Bool)} {x y : Operand}

theorem mn : ([] : List Operand).map (ev n L) = [] := rfl
theorem mc {x : Operand} {xs : List Operand} {v : Value} {vs : List Value} (h : ev n L x = v) (h2 : xs.map (ev n L) = vs) : (x :: xs).map (ev n L) = v :: vs := by rw [List.map_cons, h, h2]
theorem xc {g : FuncId} {os : List Operand} {l : List Value} {tys : Array TypeId} (h : Callable P g) (hl : os.map (ev n L) = l) :
    (execOp (ev n L) { dst := dst, op := .call { callee := .value (.func g), args := os.toArray, argTypes := tys }, type := ty, pos := pos, after := af, guard := gdd }).run P w = .ok (.enter g l.toArray) w := hl ▸ xcl h
theorem xcv {g : FuncId} {fs cs l l' : List Value} {os : List Operand} {tys : Array TypeId} (hx : ev n L x = .func (.func g) fs.toArray cs.toArray) (h : Callable P g) (hl : os.map (ev n L) = l) (he : fs ++ l ++ cs = l') :
    (execOp (ev n L) { dst := dst, op := .call { callee := .value x, args := os.toArray, argTypes := tys }, type := ty, pos := pos, after := af, guard := gdd }).run P w = .ok (.enter g l'.toArray) w :=
  xclv hx h (by rw [hl]; exact he)
theorem xmf {f : Fn} {fs cs : List Operand} {l k : List Value} (h1 : fs.map (ev n L) = l) (h2 : cs.map (ev n L) = k) :
    (execOp (ev n L) { dst := dst, op := .makeFunc f fs.toArray cs.toArray, type := ty, pos := pos, after := af, guard := gdd }).run P w = .ok (.value (.func f l.toArray k.toArray)) w := by subst h1; subst h2; exact xmkf
theorem lf {R : Fr → World → Prop} (h : R L w) : Mt R n D (act n L D) w := ⟨L, rfl, h⟩
theorem lq {I : Nat → Fr → World → Prop} {m : Nat} (m' : Nat) (hlt : m' < m) (h : I m' L w) : Rnd I m n D (act n L D) w := ⟨m', L, hlt, rfl, h⟩
theorem xmva {v : Value} (h : ev n L x = v) : (execOp (ev n L) { dst := dst, op := .move x, type := ty, pos := pos, after := af, guard := gdd }).run P w = .ok (.value v) w := h ▸ xmv
theorem xasa {v : Value} (h : ev n L x = v) : (execOp (ev n L) { dst := dst, op := .assign x, type := ty, pos := pos, after := af, guard := gdd }).run P w = .ok (.value v) w := h ▸ xas

theorem run_eqb {t : TypeId} {a b : Bool} (ht : P.underlying t = some .bool) : (Op.equal t (.bool a) (.bool b)).run P w = .ok (a == b) w := by
  show (Op.equalIn (9999 + 1) t _ _).run P w = _
  rw [Op.equalIn]
  simp only [Sem.run_bind, run_underlying ht, Result.andThen_ok]
  rfl
theorem xeqb {t t' : TypeId} {a b : Bool} (ht : P.underlying t = some .bool) (hx : ev n L x = .bool a) (hy : ev n L y = .bool b) : (execOp (ev n L) { dst := dst, op := .binOp .eql t x y t', type := ty, pos := pos, after := af, guard := gdd }).run P w = .ok (.value (.bool (a == b))) w := by
  simp only [execOp, hx, hy, eqGuard, Go.binOp, Sem.run_bind, run_eqb ht]
  rfl
theorem xneb {t t' : TypeId} {a b : Bool} (ht : P.underlying t = some .bool) (hx : ev n L x = .bool a) (hy : ev n L y = .bool b) : (execOp (ev n L) { dst := dst, op := .binOp .neq t x y t', type := ty, pos := pos, after := af, guard := gdd }).run P w = .ok (.value (.bool (!(a == b)))) w := by
  simp only [execOp, hx, hy, eqGuard, Go.binOp, Sem.run_bind, run_eqb ht]
  rfl
end

theorem Ext.chg {a w w' : World} {b : Nat} (h : Ext a w) (c : Chg b w w') (hb : a.heap.size ≤ b) : Ext a w' := h.trans (c.below hb)
theorem Ext.grow {a b w w' : World} (h : Ext a w) (hab : a.heap.size ≤ b.heap.size) (c : Below b.heap.size w w') : Ext a w' := h.trans (c.mono hab)
theorem Cs.sub {w : World} {b o : Nat} {cs : List Value} (h : Cs w b o cs) (k m : Nat) : Cs w b (o + k) ((cs.drop k).take m) := fun j c hc => by
  have hj : j < m := by
    rcases Nat.lt_or_ge j m with h' | h'
    · exact h'
    · rw [List.getElem?_take, if_neg (by omega)] at hc; cases hc
  rw [List.getElem?_take, if_pos hj, List.getElem?_drop] at hc
  have := h (k + j) c hc
  rwa [← Nat.add_assoc] at this
theorem ix2 {α : Type} [Enc α] {w : World} {b off n cap : Nat} {l : List α} {i : Int} {x : α} (h : RV w (.slice (some ⟨b, off, none⟩) n cap) l) (hi : ix l i = some x) :
    ∃ cs, 0 ≤ i ∧ i < l.length ∧ Enc.rep (fun _ => True) w cs x ∧ Cs w b (off + i.toNat * Enc.n α) cs := by
  obtain ⟨b', off', cs, e, h0, h1, h2, h3⟩ := h.els.ix hi
  cases e
  exact ⟨cs, h0, h1, h2, h3⟩
theorem ble {a b : Nat} (h : Nat.ble a b = true) : a ≤ b := Nat.le_of_ble_eq_true h

theorem SP.mk' {P : Program} {t : TypeId} {pl : List (Nat × Nat)} {fs : Array Field} (hu : P.underlying t = some (.struct fs)) (hs : fs.toList.map (fun f => (f.offset, (P.info? f.type).map (·.size))) = pl.map (fun p => (p.1, some p.2))) : SP P t pl := by
  refine ⟨fun w => ⟨fs, hu, ?_⟩⟩
  have key : ∀ (l : List Field) (pl : List (Nat × Nat)), l.map (fun f => (f.offset, (P.info? f.type).map (·.size))) = pl.map (fun p => (p.1, some p.2)) →
      (l.mapM (fun (f : Field) => (do pure (f.offset, ← sizeOf f.type) : Sem (Nat × Nat)))).run P w = .ok pl w := by
    intro l
    induction l with
    | nil => intro pl h; cases pl <;> simp_all
    | cons f l ih =>
      intro pl h
      cases pl with
      | nil => simp at h
      | cons p pl =>
        simp only [List.map_cons, List.cons.injEq, Prod.mk.injEq] at h
        obtain ⟨⟨h1, h2⟩, h3⟩ := h
        obtain ⟨i, hi, hsz⟩ := Option.map_eq_some_iff.1 h2
        have h4 := ih pl h3
        have h5 : (sizeOf f.type).run P w = .ok p.2 w := by simp [sizeOf, typeInfo, hi, hsz]
        simp only [List.mapM_cons, Sem.run_bind, h5, Result.andThen_ok, h4, Sem.run_pure, h1]
  have e : fs = fs.toList.toArray := by simp
  rw [e, List.mapM_toArray, Sem.run_map, key _ pl hs]
  rfl
end Go.Md

namespace Go.Md
open Go Go.RowKit
section
variable {P : Program} {Q : Exit → Act → World → Prop} {n : Nat} {L : Fr} {D : List Deferred} {w : World} {ops : Array Oper} {rest : List Oper}
variable {ty : TypeId} {pos : String} {af : Array Edge} {dst : Option Nat} {gdd : Option (Nat × Bool)} {x y : Operand}

theorem pn : ([] : List (Nat × Operand)).map (fun p => (p.1, ev n L p.2)) = [] := rfl
theorem pc {i : Nat} {x : Operand} {xs : List (Nat × Operand)} {v : Value} {vs : List (Nat × Value)} (h : ev n L x = v) (h2 : xs.map (fun p => (p.1, ev n L p.2)) = vs) :
    ((i, x) :: xs).map (fun p => (p.1, ev n L p.2)) = (i, v) :: vs := by rw [List.map_cons, h2, h]

theorem xbdv {t : TypeId} {ps : List (Nat × Operand)} {l : List (Nat × Value)} {m bytes : Nat} {z r : List Value} {pl : List (Nat × Nat)} (ht : TI P t true m bytes z) (hp : SP P t pl) (hl : ps.map (fun p => (p.1, ev n L p.2)) = l)
    (hr : fillL (pl[·]?) z (l.map fun p => (p.1, p.2.cells.toList)) = some r) :
    (execOp (ev n L) { dst := dst, op := .build t ps.toArray, type := ty, pos := pos, after := af, guard := gdd }).run P w = .ok (.value (.agg r.toArray)) w := by
  subst hl
  exact xbd ht hp (by simpa [List.map_map, Function.comp_def] using hr)

theorem xbdav {t e len : TypeId} {ps : List (Nat × Operand)} {l : List (Nat × Value)} {m bytes m' bytes' : Nat} {agg : Bool} {z z' r : List Value} (ht : TI P t true m bytes z) (hu : P.underlying t = some (.array len e)) (he : TI P e agg m' bytes' z')
    (hl : ps.map (fun p => (p.1, ev n L p.2)) = l) (hr : fillL (fun i => some (i * m', m')) z (l.map fun p => (p.1, p.2.cells.toList)) = some r) :
    (execOp (ev n L) { dst := dst, op := .build t ps.toArray, type := ty, pos := pos, after := af, guard := gdd }).run P w = .ok (.value (.agg r.toArray)) w := by
  subst hl
  exact xbda ht hu he (by simpa [List.map_map, Function.comp_def] using hr)

theorem sbsv {d : Nat} {t e : TypeId} {agg : Bool} {m bytes : Nat} {z : List Value} {ps : List (Nat × Operand)} {r : List (Nat × Value)} {len : Nat} {cs : List Value} (ht : P.underlying t = some (.slice e)) (he : TI P e agg m bytes z) (hm : Nat.ble 1 m = true)
    (hl : ps.map (fun p => (p.1, ev n L p.2)) = r) (hz : r = (r.map (·.2)).zipIdx.map (fun x => (x.2, x.1))) (hlen : r.length = len) (h24 : Nat.ble (len * m) 16777216 = true) (hs : r.all (fun p => Nat.beq p.2.cells.size m) = true)
    (hcs : r.flatMap (fun p => p.2.cells.toList) = cs)
    (k : ∀ b w', Ext w w' → w.heap.size ≤ b → Bx w' b e cs → wpList P ops Q rest (act n (upd L d (.slice (some ⟨b, 0, none⟩) len len)) D) w') :
    wpList P ops Q ({ dst := some d, op := .buildSlice t len ps.toArray, type := ty, pos := pos, after := af, guard := none } :: rest) (act n L D) w := by
  have hps : ps.length = r.length := by rw [← hl]; simp
  refine sbs (vs := ps.map (·.2)) ht he hm ?_ (by simpa [hps] using hlen) h24 ?_ ?_ k
  · -- the indices are 0, 1, ..
    have h1 : ps.map (·.1) = r.map (·.1) := by rw [← hl]; simp [List.map_map, Function.comp_def]
    have h2 : r.map (·.1) = List.range r.length := by
      have := congrArg (List.map (·.1)) hz
      rw [List.map_map] at this
      rw [this]
      apply List.ext_getElem?
      intro i
      by_cases hi : i < r.length <;> simp [hi]
    apply List.ext_getElem?
    intro i
    have h3 := congrArg (·[i]?) (h1.trans h2)
    by_cases hi : i < ps.length
    · simp [hi, hps ▸ hi] at h3 ⊢
      ext
      · simpa using h3
      · rfl
    · simp [hi, Nat.le_of_not_lt hi]
  · rw [← hl] at hs
    simpa [List.all_map, Function.comp_def] using hs
  · rw [← hl] at hcs
    rw [← hcs]
    simp [List.flatMap_map, List.map_map, Function.comp_def]
end
end Go.Md

namespace Go.Md
open Go Go.RowKit
section
variable {P : Program} {Q : Exit → Act → World → Prop} {n : Nat} {L : Fr} {D : List Deferred} {w : World} {ops : Array Oper} {rest : List Oper}
variable {ty : TypeId} {pos : String} {af : Array Edge} {dst : Option Nat} {gdd : Option (Nat × Bool)} {x y z : Operand}

theorem xquov {t t' : TypeId} {a b r : Int} (hx : ev n L x = .int .i64 a) (hy : ev n L y = .int .i64 b) (h : quo a b = some r) : (execOp (ev n L) { dst := dst, op := .binOp .quo t x y t', type := ty, pos := pos, after := af, guard := gdd }).run P w = .ok (.value (.int .i64 r)) w :=
  (quo_spec h).2 ▸ xquo hx hy (quo_spec h).1
theorem xremv {t t' : TypeId} {a b r : Int} (hx : ev n L x = .int .i64 a) (hy : ev n L y = .int .i64 b) (h : rem a b = some r) : (execOp (ev n L) { dst := dst, op := .binOp .rem t x y t', type := ty, pos := pos, after := af, guard := gdd }).run P w = .ok (.value (.int .i64 r)) w :=
  (rem_spec h).2 ▸ xrem hx hy (rem_spec h).1

/-! ### Arrays, and rows that are written -/
theorem ixar {α : Type} [Enc α] [Flat α] {m : Nat} {X : Ar m α} {b o : Nat} {i : Int} {y : α} (h : Cs w b o (X.l.flatMap Flat.enc)) (hi : ix X.l i = some y) :
    0 ≤ i ∧ i < m ∧ Cs w b (o + i.toNat * Enc.n α) (Flat.enc y) := by
  obtain ⟨h0, h1, h2⟩ := ix_spec hi
  rw [X.h] at h1
  refine ⟨h0, h1, fun j c hc => ?_⟩
  rw [Nat.add_assoc]
  exact h _ _ (flat_at X.l _ y j c h2 hc)

theorem splice_set {α : Type} [Enc α] [Flat α] (l : List α) (i : Nat) (v : α) (hi : i < l.length) : splice (l.flatMap Flat.enc) (i * Enc.n α) (Flat.enc v) = (l.set i v).flatMap Flat.enc := by
  induction l generalizing i with
  | nil => simp at hi
  | cons x l ih =>
    cases i with
    | zero =>
      simp only [splice, Nat.zero_mul, List.take_zero, List.nil_append, Nat.zero_add, List.set_cons_zero, List.flatMap_cons, Flat.len]
      rw [List.drop_append_of_le_length (by rw [Flat.len]; exact Nat.le_refl _), List.drop_of_length_le (by rw [Flat.len]; exact Nat.le_refl _)]
      rfl
    | succ i =>
      have := ih i (by simpa using hi)
      simp only [splice, List.set_cons_succ, List.flatMap_cons] at this ⊢
      rw [← this]
      have e : (i + 1) * Enc.n α = (Flat.enc x).length + i * Enc.n α := by rw [Flat.len, Nat.add_mul]; omega
      rw [e, List.take_append, List.take_of_length_le (by omega), show (Flat.enc x).length + i * Enc.n α - (Flat.enc x).length = i * Enc.n α by omega,
        show (Flat.enc x).length + i * Enc.n α + (Flat.enc v).length = (Flat.enc x).length + (i * Enc.n α + (Flat.enc v).length) by omega, List.drop_append, List.drop_of_length_le (by omega),
        show (Flat.enc x).length + (i * Enc.n α + (Flat.enc v).length) - (Flat.enc x).length = i * Enc.n α + (Flat.enc v).length by omega]
      simp [List.append_assoc]

/-- A store into an element of an array of the call's own. -/
theorem ssta {α : Type} [Enc α] [Flat α] {m : Nat} {X : Ar m α} {i : Int} {y0 v : α} {t T : TypeId} {agg : Bool} {b bytes : Nat} {z : List Value} {vv : Value} (hp : ev n L x = .pointer (some ⟨b, 0 + i.toNat * Enc.n α, none⟩)) (hy : ev n L y = vv) (hv : vv.cells = (Flat.enc v).toArray)
    (ht : TI P t agg (Enc.n α) bytes z) (hb : Bx w b T (X.l.flatMap Flat.enc)) (hi : ix X.l i = some y0)
    (k : ∀ w', Chg b w w' → Bx w' b T ((aset X i v).l.flatMap Flat.enc) → wpList P ops Q rest (act n L D) w') :
    wpList P ops Q ({ dst := none, op := .store t x y, type := ty, pos := pos, after := af, guard := none } :: rest) (act n L D) w := by
  obtain ⟨h0, h1, h2⟩ := ix_spec hi
  have hil : i.toNat < X.l.length := (List.getElem?_eq_some_iff.1 h2).1
  have e := splice_set X.l i.toNat v hil
  refine sst hp hy hv ht hb (Flat.len v) (List.all_eq_true.2 (Flat.one v)) ?_ fun w' hc hb' => k w' hc ?_
  · rw [Flat.len, Flat.flen, Nat.zero_add]
    have := Nat.mul_le_mul_right (Enc.n α) (show i.toNat + 1 ≤ X.l.length from hil)
    rw [Nat.add_mul] at this
    omega
  · rw [Nat.zero_add, e] at hb'
    exact hb'

theorem Row.ge {α : Type} [Enc α] [Flat α] {e : TypeId} {base b off len cap : Nat} {l : List α} (h : Row e base w (.slice (some ⟨b, off, none⟩) len cap) l) : base ≤ b := by
  rcases h.2 with ⟨h, _⟩ | ⟨g, cap', cur, e1, hb, _⟩
  · cases h
  · cases e1; exact hb

theorem splice_get {cur vs : List Value} {o : Nat} (hf : o + vs.length ≤ cur.length) (j : Nat) : (splice cur o vs)[j]? = if o ≤ j ∧ j < o + vs.length then vs[j - o]? else cur[j]? := by
  unfold splice
  have h1 : (cur.take o).length = o := by rw [List.length_take]; omega
  by_cases h : j < o
  · rw [if_neg (by omega), List.append_assoc, List.getElem?_append_left (by omega), List.getElem?_take, if_pos h]
  · by_cases h2 : j < o + vs.length
    · rw [if_pos (by omega), List.append_assoc, List.getElem?_append_right (by omega), List.getElem?_append_left (by omega), h1]
    · rw [if_neg (by omega), List.append_assoc, List.getElem?_append_right (by omega), List.getElem?_append_right (by omega), List.getElem?_drop, h1]
      congr 1
      omega

/-- A store into an element of a row of the call's own. -/
theorem sstr {α : Type} [Enc α] [Flat α] {l : List α} {i : Int} {y0 v : α} {t e : TypeId} {agg : Bool} {b off len cap base bytes : Nat} {z : List Value} {vv : Value} (hp : ev n L x = .pointer (some ⟨b, off + i.toNat * Enc.n α, none⟩)) (hy : ev n L y = vv) (hv : vv.cells = (Flat.enc v).toArray)
    (ht : TI P t agg (Enc.n α) bytes z) (hr : Row e base w (.slice (some ⟨b, off, none⟩) len cap) l) (hi : ix l i = some y0)
    (k : ∀ w', Chg b w w' → Row e base w' (.slice (some ⟨b, off, none⟩) len cap) (rset l i v) → wpList P ops Q rest (act n L D) w') :
    wpList P ops Q ({ dst := none, op := .store t x y, type := ty, pos := pos, after := af, guard := none } :: rest) (act n L D) w := by
  obtain ⟨h0, h1, h2⟩ := ix_spec hi
  have hil : i.toNat < l.length := (List.getElem?_eq_some_iff.1 h2).1
  have hlen := hr.1
  rcases hr.2 with ⟨hn, _⟩ | ⟨g, cap', cur, e1, hb, hg, hnc, hcm, hsz, hcur⟩
  · cases hn
  · cases e1
    have hle := Nat.mul_le_mul_right (Enc.n α) (show i.toNat + 1 ≤ l.length from hil)
    have hle2 := Nat.mul_le_mul_right (Enc.n α) hnc
    rw [Nat.add_mul, Nat.one_mul] at hle
    have hcl : cur.toList.length = cap * Enc.n α := by simpa using hsz
    have hg' : Bx w b e cur.toList := by simpa [Bx] using hg
    refine sst hp hy hv ht hg' (Flat.len v) (List.all_eq_true.2 (Flat.one v)) (by rw [Flat.len, hcl]; omega) fun w' hc hb' => k w' hc ?_
    refine ⟨Flat.flen _, .inr ⟨b, cap, _, by rw [rset, List.length_set], hb, hb', by rw [rset, List.length_set]; exact hnc, hcm, ?_, ?_⟩⟩
    · simp only [splice, List.size_toArray, List.length_append, List.length_take, List.length_drop, Flat.len]
      omega
    · rw [rset, List.length_set, ← splice_set l i.toNat v hil]
      have hxl : (l.flatMap Flat.enc).length = l.length * Enc.n α := Flat.flen l
      apply List.ext_getElem?
      intro j
      rw [show (splice cur.toList (0 + i.toNat * Enc.n α) (Flat.enc v)).toArray.toList = splice cur.toList (0 + i.toNat * Enc.n α) (Flat.enc v) from rfl, List.getElem?_take, splice_get (by rw [Flat.len, hcl]; omega), splice_get (by rw [Flat.len, hxl]; omega), ← hcur, List.getElem?_take]
      rw [Flat.len]
      by_cases hj : j < l.length * Enc.n α
      · rw [if_pos hj, if_pos hj]; simp only [Nat.zero_add]
      · rw [if_neg hj, if_neg (by omega), if_neg hj]
end
end Go.Md
