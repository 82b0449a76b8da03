/-
  A walk inside the body of a range over a function: what holds of a region outside a round holds of it in a round. No condition: lemmas about the model.
-/
import Derived.Test.YtboefnpnoojfpaaObj
import Derived.RangeFuncCalls
import Derived.OrdersIn
namespace Go.Md
open Go Go.RowKit

def RF (l : Nat) : Fence := Fence.wide.inRound l
def onlyN (K : Act → World → Prop) : Exit → Act → World → Prop := fun e a w => match e with
  | .normal => K a w
  | _ => False

section
variable {P : Program} {Q : Exit → Act → World → Prop} {l m n : Nat} {L : Fr} {D : List Deferred} {w : World} {ops : Array Oper} {rest : List Oper}

theorem opR {o : Oper} {a : Act} {K K' : Act → World → Prop} (hd : ∀ c, o.op ≠ .defer c) (h : o.wp P a w K (onlyN K')) : o.wpIn (RF l) m P a w K Q := by
  unfold Oper.wpIn
  refine ⟨fun _ _ => trivial, ?_⟩
  rw [Oper.semAt_eq _ _ _ hd]
  unfold Oper.wp at h
  generalize (execOp a.eval o).run P w = r at *
  have hdep : (RF l).depth.isSome = true → 1 ≤ m := fun h => by simp [RF, Fence.wide] at h
  cases r with
  | ok x w' =>
    cases x <;> simp only [Oper.upon, Oper.uponIn] at h ⊢
    case value => exact h
    case skip => exact h
    case defer => exact h
    case enter f args =>
      refine ⟨hdep, CallsIn.inRound l ((callsIn_wide.2 h).mono fun e w'' he => ?_)⟩
      cases e with
      | returned v => exact he
      | panicked c => exact he.elim
      | outgrown => obtain ⟨_, _, he⟩ := he; exact he.elim
    case row row args =>
      refine ⟨hdep, fun c cs _ => ?_⟩
      obtain ⟨v, w'', hr, hs⟩ := h c cs
      exact ⟨v, w'', hr, by rw [RF, fenced_inRound]; exact stepsIn_wide.2 hs⟩
  | halt x w' => cases x <;> simp only [Oper.upon] at h; exact h.elim

theorem opsR (hd : ∀ (i : Nat) (o : Oper) c, ops[i]? = some o → o.op ≠ .defer c) : ∀ (is : List Nat) (a : Act) (w : World), wpOps P ops (onlyN (Q .normal)) is a w → wpOpsIn (RF l) m P ops Q is a w
  | [], a, w, h => h
  | i :: is, a, w, h => by
    simp only [wpOps] at h
    simp only [wpOpsIn]
    cases ho : ops[i]? with
    | none => simp only [ho] at h; exact opsR hd is a w h
    | some o =>
      simp only [ho] at h ⊢
      split
      · rename_i hw
        rw [if_pos hw] at h
        rcases h with h | ⟨_, _, _, h⟩
        · exact Oper.wpIn_mono (fun a w h => opsR hd is a w h) (opR (K' := Q .normal) (fun c => hd i o c ho) h)
        · exact h.elim
      · rename_i hw
        rw [if_neg hw] at h
        exact ⟨fun _ _ => trivial, opsR hd is _ w h⟩

def noDefer (l : List Oper) : Bool := l.all fun o => match o.op with | .defer _ => false | _ => true
theorem noDefer_spec {k : List Oper} (h : noDefer k = true) : ∀ (i : Nat) (o : Oper) c, k.toArray[i]? = some o → o.op ≠ .defer c := by
  intro i o c ho e
  have := List.all_eq_true.1 h o (by
    simp only [List.getElem?_toArray] at ho
    exact List.mem_of_getElem? ho)
  rw [e] at this
  cases this

theorem rgR {id : Nat} {k : List Oper} (hd : noDefer k = true) (h : wpList P k.toArray (onlyN (Q .normal)) k (act n L D) w) : (Code.region id k.toArray false).wpIn (RF l) m P Q (act n L D) w := by
  refine wpIn_region (opsR (noDefer_spec hd) _ _ _ ?_)
  have e := wpOps_eq_wpList (P := P) (ops := k.toArray) (Q := onlyN (Q .normal)) k 0 (fun j => by simp)
  rw [List.range_eq_range']
  have : k.toArray.size = k.length := by simp
  rw [this, e]
  exact h

theorem anyR (hd : ∀ (i : Nat) (o : Oper) c, ops[i]? = some o → o.op ≠ .defer c) : ∀ (f : Nat) (listed : Array Bool) (a : Act) (w : World), wpAny P .any ops (onlyN (Q .normal)) f listed a w → wpAnyIn (RF l) m P .any ops Q f listed a w
  | 0, _, _, _, h => h
  | f + 1, listed, a, w, h => ⟨h.1, fun i hi => by
      have h1 := h.2 i hi
      unfold wpOp at h1
      unfold wpOpIn
      cases ho : ops[i]? with
      | none => simp only [ho] at h1; exact anyR hd f _ a w h1
      | some o =>
        simp only [ho] at h1 ⊢
        split
        · rename_i hw
          rw [if_pos hw] at h1
          rcases h1 with h1 | ⟨_, _, _, h1⟩
          · exact Oper.wpIn_mono (fun a w h => anyR hd f _ a w h) (opR (K' := Q .normal) (fun c => hd i o c ho) h1)
          · exact h1.elim
        · rename_i hw
          rw [if_neg hw] at h1
          exact ⟨fun _ _ => trivial, anyR hd f _ _ w h1⟩⟩

theorem wplR {id : Nat} {k : List Oper} (T : List Nat) (p : Plan) (hm : P.follows .mixedOrders = true)
    (hok : (noDefer k && (Region.noSelect k.toArray && p.ok k.toArray T false k.length (Array.replicate k.length false))) = true)
    (h : ∀ wd, Ext w wd → p.wp P k.toArray (fun w' => Ext wd w') T (Q .normal) false (act n L D) wd) : (Code.region id k.toArray true).wpIn (RF l) m P Q (act n L D) w := by
  simp only [Bool.and_eq_true] at hok
  refine wpIn_region_any hm (anyR (noDefer_spec hok.1) _ _ _ _ ?_)
  have := Plan.sound (P := P) (S := fun w' => Ext w.drew w') (T := T) (Q := Q .normal) hok.2.1 k.length p _ (act n L D) w.drew ClosedL.none hok.2.2 (h w.drew (Ext.drew w))
  have := wpAny_of_C (Q := onlyN (Q .normal)) (S := fun w' => Ext w.drew w') (T := T) k.length (Array.replicate k.length false) (act n L D) w.drew this
  simpa using this

theorem cndR {c : Operand} {x y : Code} {b : Bool} (hc : ev n L c = .bool b) (ht : b = true → x.wpIn (RF l) m P Q (act n L D) w) (hf : b = false → y.wpIn (RF l) m P Q (act n L D) w) :
    (Code.cond c x y).wpIn (RF l) m P Q (act n L D) w :=
  wpIn_cond_split (by rw [ev_act]; exact hc) ht hf

theorem ctR {c : Code} (R : Fr → World → Prop) (h : c.wpIn (RF l) m P (Exit.then (Mt R n D) Q) (act n L D) w)
    (k : ∀ L' w', R L' w' → Q .normal (act n L' D) w') : c.wpIn (RF l) m P Q (act n L D) w :=
  wpIn_mono h fun e a w' hq => by
    cases e with
    | normal => obtain ⟨L', rfl, hr⟩ := hq; exact k L' w' hr
    | _ => exact hq
end
end Go.Md
