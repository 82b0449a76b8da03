/-
  Loops over a function in printed walks: the loop's variable, marks of deferred calls, what a round keeps. No condition: lemmas about the model.
-/
import Derived.Test.YtboefnpnoojfpaaRange
namespace Go.Md
open Go Go.RowKit

/-! ### From the iterator's world to the body's: the assign code has run, the loop's record is busy -/
def Asg (B : Nat) (A W : World) : Prop := ∃ W1 l o, B ≤ l ∧ Ext A W1 ∧ W1.heap[l]? = some o ∧ o.isCells = false ∧ (∀ ds, o ≠ .deferred ds) ∧ Chg l W1 W
section
variable {B : Nat} {A W : World}
theorem Asg.size (k : Asg B A W) : A.heap.size ≤ W.heap.size := by
  obtain ⟨W1, l, o, _, h1, _, _, _, h2⟩ := k
  rw [h2.size]
  exact h1.size
theorem Bx.asg {b : Nat} {T : TypeId} {cs : List Value} (h : Bx A b T cs) (k : Asg B A W) : Bx W b T cs := by
  obtain ⟨W1, l, o, _, h1, h2, h3, _, h4⟩ := k
  exact (h.ext h1).putne h2 h3 h4
theorem Row.asg {α : Type} [Enc α] [Flat α] {e : TypeId} {base : Nat} {v : Value} {x : List α} (h : Row e base A v x) (k : Asg B A W) : Row e base W v x := by
  obtain ⟨W1, l, o, _, h1, h2, h3, _, h4⟩ := k
  exact (h.ext h1).putne h2 h3 h4
theorem Below.asg {w : World} (h : Ext w A) (k : Asg B A W) (hB : w.heap.size ≤ B) : Ext w W := by
  obtain ⟨W1, l, o, hl, h1, h2, h3, _, h4⟩ := k
  exact (h.tr h1).chg h4 (Nat.le_trans hB hl)
theorem Mp.asg {κ ν : Type} [DecidableEq κ] [Enc κ] [Flat κ] [Key κ] [Enc ν] [Flat ν] {b : Nat} {x : List (κ × ν)} (h : Mp A b x) (k : Asg B A W) (hb : b < B) : Mp W b x := by
  obtain ⟨W1, l, o, hl, h1, h2, h3, _, h4⟩ := k
  exact (h.ext h1).chg h4 (by omega)
end

/-! ### Marks -/
def mkD (r : Nat) : Deferred := { target := .collected r, args := #[] }
theorem mkD_inj : ∀ {a b : List Nat}, a.map mkD = b.map mkD → a = b
  | [], [], _ => rfl
  | [], _ :: _, h => by cases h
  | _ :: _, [], h => by cases h
  | x :: a, y :: b, h => by
    simp only [List.map_cons, List.cons.injEq] at h
    have h1 : x = y := by have := h.1; unfold mkD at this; cases this; rfl
    rw [h1, mkD_inj h.2]
/-- D is a list of marks, of blocks from B on. -/
def Mks (B : Nat) (D : List Deferred) (w : World) : Prop := ∃ rs : List Nat, D = rs.map mkD ∧ rs.Nodup ∧ ∀ r ∈ rs, B ≤ r ∧ w.heap[r]? = some (.deferred (some []))
section
variable {B : Nat} {D : List Deferred} {w w' : World}
theorem Mks.nil : Mks B [] w := ⟨[], rfl, List.nodup_nil, by simp⟩
theorem Mks.ext (h : Mks B D w) (k : Ext w w') : Mks B D w' := by
  obtain ⟨rs, e, hn, h⟩ := h
  exact ⟨rs, e, hn, fun r hr => ⟨(h r hr).1, (k.block r (Array.getElem?_eq_some_iff.1 (h r hr).2).1).trans (h r hr).2⟩⟩
theorem Mks.chg {b : Nat} (h : Mks B D w) (k : Chg b w w') (hc : ∃ o : Obj, w.heap[b]? = some o ∧ ∀ ds, o ≠ .deferred ds) : Mks B D w' := by
  obtain ⟨rs, e, hn, h⟩ := h
  obtain ⟨o, ho, hd⟩ := hc
  refine ⟨rs, e, hn, fun r hr => ⟨(h r hr).1, (k.other r fun e => ?_).trans (h r hr).2⟩⟩
  subst e
  have := (h r hr).2
  rw [ho] at this
  cases this
  exact hd _ rfl
theorem Mks.gr {row : Option Nat} (h : Mks B D w) (k : w.grownBy w' row) (hc : ∀ b, row = some b → ∃ o : Obj, w.heap[b]? = some o ∧ ∀ ds, o ≠ .deferred ds) : Mks B D w' := by
  obtain ⟨rs, e, hn, h⟩ := h
  refine ⟨rs, e, hn, fun r hr => ⟨(h r hr).1, (k.block r (Array.getElem?_eq_some_iff.1 (h r hr).2).1 fun e => ?_).trans (h r hr).2⟩⟩
  obtain ⟨o, ho, hd⟩ := hc r e.symm
  have := (h r hr).2
  rw [ho] at this
  cases this
  exact hd _ rfl
theorem Mks.asg {C : Nat} (h : Mks B D w) (k : Asg C w w') : Mks B D w' := by
  obtain ⟨W1, l, o, _, h1, h2, _, h3, h4⟩ := k
  exact (h.ext h1).chg h4 ⟨o, h2, h3⟩
theorem Bx.nd {b : Nat} {T : TypeId} {cs : List Value} (h : Bx w b T cs) : ∃ o : Obj, w.heap[b]? = some o ∧ ∀ ds, o ≠ .deferred ds := ⟨_, h, nofun⟩
theorem Row.nd {α : Type} [Enc α] [Flat α] {e : TypeId} {base : Nat} {v : Value} {l : List α} (h : Row e base w v l) : ∀ b, v.ownBlock = some b → ∃ o : Obj, w.heap[b]? = some o ∧ ∀ ds, o ≠ .deferred ds := fun b hb => by
  rcases h.2 with ⟨rfl, _⟩ | ⟨g, cap, cur, rfl, _, hh, _⟩
  · cases hb
  · cases hb
    exact ⟨_, hh, nofun⟩
theorem Mp.nd {κ ν : Type} [DecidableEq κ] [Enc κ] [Flat κ] [Key κ] [Enc ν] [Flat ν] {b : Nat} {x : List (κ × ν)} (h : Mp w b x) : ∃ o : Obj, w.heap[b]? = some o ∧ ∀ ds, o ≠ .deferred ds := by
  obtain ⟨es, c, h, _⟩ := h
  exact ⟨_, h, nofun⟩
theorem Okb.mks {C : Nat} (h : Mks B D w) (hC : w.heap.size = C) : Okb C (fun w => Mks B D w) := ⟨fun h k => h.ext k, fun {A W l o} h1 hl ho hc k => by
  obtain ⟨rs, e, hn, h1⟩ := h1
  obtain ⟨rs', e', _, h2⟩ := h
  have : rs = rs' := mkD_inj (e.symm.trans e')
  subst this
  refine ⟨rs, e, hn, fun r hr => ⟨(h1 r hr).1, (k.other r ?_).trans (h1 r hr).2⟩⟩
  have := (Array.getElem?_eq_some_iff.1 (h2 r hr).2).1
  omega⟩
/-- A loop over a function adds a mark. -/
theorem Mks.cons {D' : Nat} (h : Mks B D w) (h' : Mks B D w') (hb : B ≤ w.heap.size) (hD : w.heap.size ≤ D') (hk : w'.heap[D']? = some (.deferred (some []))) : Mks B ({ target := .collected D', args := #[] } :: D) w' := by
  obtain ⟨rs, e, hn, h⟩ := h
  obtain ⟨rs', e', _, h'⟩ := h'
  have : rs = rs' := mkD_inj (e.symm.trans e')
  subst this
  refine ⟨D' :: rs, by rw [e]; rfl, List.nodup_cons.2 ⟨fun hr => ?_, hn⟩, fun r hr => ?_⟩
  · have := (Array.getElem?_eq_some_iff.1 (h D' hr).2).1
    omega
  · rcases List.mem_cons.1 hr with rfl | hr
    · exact ⟨by omega, hk⟩
    · exact h' r hr

/-- The marks have been taken. -/
structure Tak (B : Nat) (w w' : World) : Prop where
  os : w'.os = w.os
  tape : w'.tape = w.tape
  output : w'.output = w.output
  size : w'.heap.size = w.heap.size
  low : ∀ k, k < B → w'.heap[k]? = w.heap[k]?
  old : ∀ (k : Nat) (o : Obj), w.heap[k]? = some o → (∀ ds, o ≠ .deferred ds) → w'.heap[k]? = some o
theorem Tak.refl : Tak B w w := ⟨rfl, rfl, rfl, rfl, fun _ _ => rfl, fun _ _ h _ => h⟩
theorem Bx.tak {b : Nat} {T : TypeId} {cs : List Value} (h : Bx w b T cs) (k : Tak B w w') : Bx w' b T cs := k.old _ _ h nofun
theorem Row.tak {α : Type} [Enc α] [Flat α] {e : TypeId} {base : Nat} {v : Value} {l : List α} (h : Row e base w v l) (k : Tak B w w') : Row e base w' v l := by
  refine ⟨h.1, ?_⟩
  rcases h.2 with hn | ⟨g, cap, cur, e1, hb, hg, r⟩
  · exact .inl hn
  · exact .inr ⟨g, cap, cur, e1, hb, k.old _ _ hg nofun, r⟩
theorem Below.tak {a : World} (h : Ext a w) (k : Tak B w w') (hB : a.heap.size ≤ B) : Ext a w' :=
  ⟨k.os.trans h.os, k.tape.trans h.tape, k.output.trans h.output, by rw [k.size]; exact h.size, fun q hq => (k.low q (by omega)).trans (h.block q hq)⟩
theorem Mp.tak {κ ν : Type} [DecidableEq κ] [Enc κ] [Flat κ] [Key κ] [Enc ν] [Flat ν] {b : Nat} {x : List (κ × ν)} (h : Mp w b x) (k : Tak B w w') : Mp w' b x := by
  obtain ⟨es, c, h, r⟩ := h
  exact ⟨es, c, k.old _ _ h nofun, r⟩
end

section
variable {P : Program} {Q : Exit → Act → World → Prop} {n B : Nat} {L : Fr} {D : List Deferred} {w : World}

theorem leavesM {fn : Func} {tmps : Array Value} {m : Nat} {R : Ending → World → Prop} : ∀ (rs : List Nat) (w : World), rs.Nodup → (∀ r ∈ rs, B ≤ r ∧ w.heap[r]? = some (.deferred (some []))) →
    (∀ w', Tak B w w' → LeavesInM Fence.wide m P fn tmps R [] .returning w') → LeavesInM Fence.wide m P fn tmps R (rs.map mkD) .returning w
  | [], w, _, _, h => h w Tak.refl
  | r :: rs, w, hn, hr, h => by
    obtain ⟨hB, hd⟩ := hr r (by simp)
    have hn' := List.nodup_cons.1 hn
    refine ⟨by simp, .inl ⟨r, _, rfl, run_takeDeferred hd, ?_⟩⟩
    have hc := chg_put (o' := .deferred none) hd
    refine leavesM rs _ hn'.2 (fun q hq => ?_) fun w' hk => h w' ?_
    · obtain ⟨h1, h2⟩ := hr q (by simp [hq])
      exact ⟨h1, (hc.other q fun e => hn'.1 (e ▸ hq)).trans h2⟩
    · refine ⟨hk.os.trans hc.os, hk.tape.trans hc.tape, hk.output.trans hc.output, hk.size.trans hc.size, fun q hq => (hk.low q hq).trans (hc.other q (by omega)), fun q o ho hdd => hk.old q o ((hc.other q fun e => ?_).trans ho) hdd⟩
      subst e
      rw [hd] at ho
      cases ho
      exact hdd _ rfl

/-- A return behind loops over functions. -/
theorem rtMs {fn : Func} {m : Nat} {R : Value → World → Prop} {rs : List ResultVar} (hr : fn.results = rs.toArray) (hm : Mks B D w)
    (h : ∀ w', Tak B w w' → ∃ vs, RVs P w' n L rs vs ∧ R (res vs) w') : bodyPostM Fence.wide m P fn (Ret R) .ret (act n L D) w := by
  obtain ⟨ds, rfl, hn, hd⟩ := hm
  refine leavesM ds w hn hd fun w' hk => ?_
  obtain ⟨vs, h1, h2⟩ := h w' hk
  exact ⟨_, h1.results (D := []) hr, _, rfl, h2⟩
theorem rtMn {fn : Func} {m : Nat} {R : Value → World → Prop} {rs : List ResultVar} (hr : fn.results = rs.toArray) (hm : Mks B D w)
    (h : ∀ w', Tak B w w' → ∃ vs, RVs P w' n L rs vs ∧ R (res vs) w') : bodyPostM Fence.wide m P fn (Ret R) .normal (act n L D) w := rtMs hr hm h

/-! ### Cuts with marks -/
def MtM (B : Nat) (R : Fr → World → Prop) (n : Nat) (a : Act) (w : World) : Prop := ∃ L' D', a = act n L' D' ∧ Mks B D' w ∧ R L' w
def RndM (B : Nat) (I : Nat → Fr → World → Prop) (m n : Nat) (a : Act) (w : World) : Prop := ∃ m' L' D', m' < m ∧ a = act n L' D' ∧ Mks B D' w ∧ I m' L' w
theorem lfM {R : Fr → World → Prop} (hm : Mks B D w) (h : R L w) : MtM B R n (act n L D) w := ⟨L, D, rfl, hm, h⟩
theorem lqM {I : Nat → Fr → World → Prop} {m : Nat} (m' : Nat) (hlt : m' < m) (hm : Mks B D w) (h : I m' L w) : RndM B I m n (act n L D) w := ⟨m', L, D, hlt, rfl, hm, h⟩
theorem ctM {c : Code} (B : Nat) (R : Fr → World → Prop) (h : c.wp P (Exit.then (MtM B R n) Q) (act n L D) w)
    (k : ∀ L' D' w', Mks B D' w' → R L' w' → Q .normal (act n L' D') w') : c.wp P Q (act n L D) w :=
  wp_mono h fun e a w' hq => by
    cases e with
    | normal => obtain ⟨L', D', rfl, hm, hr⟩ := hq; exact k L' D' w' hm hr
    | _ => exact hq
theorem lpM {c : Code} (B : Nat) {I : Nat → Fr → World → Prop} (m : Nat) (hm : Mks B D w) (h0 : I m L w)
    (round : ∀ m L D w, Mks B D w → I m L w → c.wp P (Exit.then (RndM B I m n) Q) (act n L D) w) : (Code.loop c).wp P Q (act n L D) w := by
  intro b k cs
  have key : ∀ m L D w, Mks B D w → I m L w → ∃ e a' w', Q e a' w' ∧ Arrives P (lone (b.at (act n L D) (.code c :: .inLoop c :: k)) cs w) b k cs e a' w' := by
    intro m
    induction m using Nat.strongRecOn with
    | _ m ih =>
      intro L D w hM hI
      obtain ⟨e, a₁, w₁, hq, harr⟩ := round m L D w hM hI b (.inLoop c :: k) cs
      cases e with
      | normal =>
        obtain ⟨m', L', D', hlt, rfl, hM₁, hI₁⟩ := hq
        obtain ⟨e₂, a₂, w₂, hq₂, harr₂⟩ := ih m' hlt L' D' w₁ hM₁ hI₁
        exact ⟨e₂, a₂, w₂, hq₂, .of_steps (Steps.trans harr (.one step_inLoop)) harr₂⟩
      | exit id => exact ⟨_, a₁, w₁, hq, .pass (x := .inLoop c) rfl (fun _ _ => .inl (by simp)) harr⟩
      | goto l => exact ⟨_, a₁, w₁, hq, .pass (x := .inLoop c) rfl (fun _ _ => .inl (by simp)) harr⟩
      | ret => exact ⟨_, a₁, w₁, hq, .pass (x := .inLoop c) rfl (fun _ _ => .inl (by simp)) harr⟩
      | panic ch => exact ⟨_, a₁, w₁, hq, .pass (x := .inLoop c) rfl (fun _ _ => .inl (by simp)) harr⟩
      | outgrown => exact ⟨_, a₁, w₁, hq, .pass (x := .inLoop c) rfl (fun _ _ => .inl (by simp)) harr⟩
  obtain ⟨e, a', w', hq, harr⟩ := key _ _ _ _ hm h0
  exact ⟨e, a', w', hq, .of_steps (.one step_loop) harr⟩

/-! ### The loop's variable -/
theorem cells_fv {α : Type} [Enc α] [Flat α] (x : α) : (fv x).cells = (Flat.enc x).toArray := Enc.cells (ok := fun _ => True) (w := default) (Flat.iff.2 rfl)

/-- The loop's variable is a slot. -/
theorem rangeA {α : Type} [Enc α] [Flat α] {g : Operand} {p d id : Nat} {body : Code} {xs : List α} {Kp : World → World → Prop} {v : Value} {pos : String} {ty : TypeId} {af : Array Edge} {m : Nat} (hm : 8 ≤ m) (hg : ev n L g = v) (hKp : KpOk w.heap.size Kp) (hs : ∃ gf cs, v = .func (.func gf) #[] cs ∧ Callable P gf ∧ SeqP P Kp (m - 1) gf cs (xs.map fun x => #[fv x]) w) (hp : Nat.blt p n = true)
    (I : Nat → World → Prop) (Ix : Code → World → Prop) (hI : ∀ k, Okb w.heap.size (I k)) (hIx : ∀ c, Okb w.heap.size (Ix c)) (h0 : I 0 w)
    (hround : ∀ (l k : Nat) (x : α) (A W : World), xs[k]? = some x → I k A → Asg w.heap.size A W →
      body.wpIn (RF l) (m - 2) P (RPost w.heap.size Kp (I (k + 1)) Ix W) (act n (upd (upd L p (fv x)) d (fv x)) []) W)
    (hdone : ∀ D' W, w.heap.size ≤ D' → I xs.length W → W.heap[D']? = some (.deferred (some [])) → Q .normal (act n L ({ target := .collected D', args := #[] } :: D)) W)
    (hstop : ∀ D' c W, w.heap.size ≤ D' → Ix c W → W.heap[D']? = some (.deferred (some [])) → c.wp P Q (act n L ({ target := .collected D', args := #[] } :: D)) W) :
    (Code.rangeFunc g #[p] (.region id #[{ dst := some d, op := .assign (.tmp p), type := ty, pos := pos, after := af, guard := none }] false) body).wp P Q (act n L D) w := by
  obtain ⟨gf, cs, rfl, hc, hs⟩ := hs
  refine rangeW (m := m) (ps := [p]) (by omega) hKp hg hc hs (fun u hu => by obtain ⟨x, _, rfl⟩ := List.mem_map.1 hu; rfl) I Ix hI hIx h0 (fun l k u A K hl hu hi hK => ?_) (fun D' W h1 h2 h3 => hdone D' W h1 (by rwa [List.length_map] at h2) h3) hstop
  rw [List.getElem?_map] at hu
  obtain ⟨x, hx, rfl⟩ := Option.map_eq_some_iff.1 hu
  refine rgR rfl <| vl rfl rfl (xasa (v := fv x) (by simp [ev, hp, upd])) <| nl <| hK _ A (Ext.refl _) fun W2 o ho hc2 hnd hch => ?_
  exact hround l k x A W2 hx hi ⟨A, l, o, by omega, Ext.refl _, ho, hc2, hnd, hch⟩

/-- The loop's variable is a box. -/
theorem rangeB {α : Type} [Enc α] [Flat α] {g : Operand} {p d id T bytes k' : Nat} {agg : Bool} {z : List Value} {body : Code} {xs : List α} {Kp : World → World → Prop} {v : Value} {pos pos' : String} {ty ty' : TypeId} {af af' : Array Edge} {m : Nat} (hm : 8 ≤ m) (hg : ev n L g = v) (hKp : KpOk w.heap.size Kp) (hs : ∃ gf cs, v = .func (.func gf) #[] cs ∧ Callable P gf ∧ SeqP P Kp (m - 1) gf cs (xs.map fun x => #[fv x]) w) (hp : Nat.blt p n = true) (hd : Nat.blt d n = true) (hpd : Nat.beq p d = false)
    (hT : TI P T agg k' bytes z) (hk' : k' = Enc.n α)
    (I : Nat → World → Prop) (Ix : Code → World → Prop) (hI : ∀ k, Okb w.heap.size (I k)) (hIx : ∀ c, Okb w.heap.size (Ix c)) (h0 : I 0 w)
    (hround : ∀ (l k : Nat) (x : α) (A W : World) (b : Nat), xs[k]? = some x → I k A → Asg w.heap.size A W → A.heap.size ≤ b → w.heap.size ≤ b → Bx W b T (Flat.enc x) →
      body.wpIn (RF l) (m - 2) P (RPost w.heap.size Kp (I (k + 1)) Ix W) (act n (upd (upd L p (fv x)) d (.pointer (some ⟨b, 0, none⟩))) []) W)
    (hsz : ∀ k A, I k A → w.heap.size ≤ A.heap.size)
    (hdone : ∀ D' W, w.heap.size ≤ D' → I xs.length W → W.heap[D']? = some (.deferred (some [])) → Q .normal (act n L ({ target := .collected D', args := #[] } :: D)) W)
    (hstop : ∀ D' c W, w.heap.size ≤ D' → Ix c W → W.heap[D']? = some (.deferred (some [])) → c.wp P Q (act n L ({ target := .collected D', args := #[] } :: D)) W) :
    (Code.rangeFunc g #[p] (.region id #[{ dst := some d, op := .alloc T, type := ty, pos := pos, after := af, guard := none }, { dst := none, op := .store T (.tmp d) (.tmp p), type := ty', pos := pos', after := af', guard := none }] false) body).wp P Q (act n L D) w := by
  obtain ⟨gf, cs, rfl, hc, hs⟩ := hs
  refine rangeW (m := m) (ps := [p]) (by omega) hKp hg hc hs (fun u hu => by obtain ⟨x, _, rfl⟩ := List.mem_map.1 hu; rfl) I Ix hI hIx h0 (fun l k u A K hl hu hi hK => ?_) (fun D' W h1 h2 h3 => hdone D' W h1 (by rwa [List.length_map] at h2) h3) hstop
  rw [List.getElem?_map] at hu
  obtain ⟨x, hx, rfl⟩ := Option.map_eq_some_iff.1 hu
  have hzl := hT.zlen
  refine rgR rfl <| sal hT fun b w1 hx1 hg1 hb1 => ?_
  have e1 : ev n (upd (upd L p (fv x)) d (.pointer (some ⟨b, 0, none⟩))) (.tmp d) = .pointer (some ⟨b, 0, none⟩) := by simp [ev, hd, upd]
  have e2 : ev n (upd (upd L p (fv x)) d (.pointer (some ⟨b, 0, none⟩))) (.tmp p) = fv x := by
    simp only [ev, hp, upd, cond_true, hpd, cond_false]
    simp
  refine sst e1 e2 (cells_fv x) hT hb1 (by rw [Flat.len, hk']) (List.all_eq_true.2 (Flat.one x)) (by rw [Flat.len, ← hk', hzl]; omega) fun w2 hch hb2 => nl <| hK _ w2 (hx1.chg hch hg1) fun W2 o ho hc2 hnd hc3 => ?_
  have hb3 : Bx w2 b T (Flat.enc x) := by
    have : splice z 0 (Flat.enc x) = Flat.enc x := by simp [splice, Flat.len, ← hk', ← hzl]
    rwa [this] at hb2
  exact hround l k x A W2 b hx hi ⟨w2, l, o, by omega, hx1.chg hch hg1, ho, hc2, hnd, hc3⟩ hg1 (Nat.le_trans (hsz k A hi) hg1) (hb3.putne ho hc2 hc3)

theorem SeqV.go {a t m : Nat} {v : Value} {us : List (Array Value)} (hm : 8 ≤ m) (h : SeqV P a t w v us) : ∃ gf cs, v = .func (.func gf) #[] cs ∧ Callable P gf ∧ SeqP P (BelI a t w.heap.size) (m - 1) gf cs us w := by
  obtain ⟨g, cs, e, hc, h⟩ := h
  exact ⟨g, cs, e, hc, h _ _ (by omega) BelI.refl⟩
theorem SeqS.go {a t m : Nat} {v : Value} {us : List (Array Value)} (hm : 8 ≤ m) (h : SeqS P a t w v us) : ∃ gf cs, v = .func (.func gf) #[] cs ∧ Callable P gf ∧ SeqP P (KeepC a t) (m - 1) gf cs us w := by
  obtain ⟨g, cs, e, hc, h⟩ := h
  exact ⟨g, cs, e, hc, h _ _ (by omega) KeepC.refl⟩
theorem drop_at {α : Type} {xs : List α} {k : Nat} {x : α} (h : xs[k]? = some x) : xs.drop k = x :: xs.drop (k + 1) := by
  obtain ⟨hk, rfl⟩ := List.getElem?_eq_some_iff.1 h
  exact List.drop_eq_getElem_cons hk

theorem Bx.isc {b : Nat} {T : TypeId} {cs : List Value} {w : World} (h : Bx w b T cs) : ∃ o : Obj, w.heap[b]? = some o ∧ o.isCells = true := ⟨_, h, rfl⟩
/-- Where a row's block lies, for the iterator. -/
def Out (t N : Nat) (v : Value) : Prop := ∀ q, v.ownBlock = some q → q < t ∨ N ≤ q
theorem Out.old {α : Type} [Enc α] [Flat α] {e : TypeId} {base t N : Nat} {w : World} {v : Value} {l : List α} (h : Row e base w v l) (ht : w.heap.size ≤ t) : Out t N v := fun q hq => .inl (by have := h.lt q hq; omega)
theorem Out.new {α : Type} [Enc α] [Flat α] {e : TypeId} {base t N : Nat} {w : World} {v : Value} {l : List α} (h : Row e base w v l) (hN : N ≤ base) : Out t N v := fun q hq => .inr (by have := h.lt q hq; omega)
theorem Out.nil {t N : Nat} : Out t N (.slice none 0 0) := fun _ h => by cases h
theorem Out.app {t N : Nat} {w : World} {v v' : Value} (h : Out t N v) (ho : v'.ownBlock = v.ownBlock ∨ ∃ g, v'.ownBlock = some g ∧ w.heap.size ≤ g) (hN : N ≤ w.heap.size) : Out t N v' := fun q hq => by
  rcases ho with e | ⟨g, e, hg⟩
  · exact h q (e ▸ hq)
  · rw [e] at hq
    cases hq
    exact .inr (by omega)
theorem Out.bi {α : Type} [Enc α] [Flat α] {e : TypeId} {base a t N : Nat} {w : World} {v : Value} {l : List α} (h : Out t N v) (r : Row e base w v l) (ha : a ≤ base) : ∀ q, v.ownBlock = some q → (a ≤ q ∧ q < t) ∨ N ≤ q := fun q hq => by
  have h1 := (r.lt q hq).1
  rcases h q hq with h2 | h2
  · exact .inl ⟨by omega, h2⟩
  · exact .inr h2
end
end Go.Md

/-! ### What a round keeps -/
namespace Go
open Go.RowKit Go.Md
variable {B : Nat}
theorem KeepsFrom.ext {w0 w1 w2 : World} (h : KeepsFrom B w0 w1) (k : Ext w1 w2) : KeepsFrom B w0 w2 := h.trans k.kf
theorem KeepsFrom.chgc {b : Nat} {w0 w1 w2 : World} (h : KeepsFrom B w0 w1) (k : Chg b w1 w2) (hc : b < B ∨ ∃ o : Obj, w1.heap[b]? = some o ∧ o.isCells = true) : KeepsFrom B w0 w2 :=
  h.trans ⟨by rw [k.size]; exact Nat.le_refl _, fun q o hB hq hoc => (k.other q fun e => by
    subst e
    rcases hc with hc | ⟨o', h1, h2⟩
    · omega
    · rw [hq] at h1
      cases h1
      rw [hoc] at h2
      cases h2).trans hq⟩
theorem KeepsFrom.grc {row : Option Nat} {w0 w1 w2 : World} (h : KeepsFrom B w0 w1) (k : w1.grownBy w2 row) (hc : ∀ b, row = some b → ∃ o : Obj, w1.heap[b]? = some o ∧ o.isCells = true) : KeepsFrom B w0 w2 :=
  h.trans ⟨k.size, fun q o _ hq hoc => (k.block q (Array.getElem?_eq_some_iff.1 hq).1 fun e => by
    obtain ⟨o', h1, h2⟩ := hc q e.symm
    rw [hq] at h1
    cases h1
    rw [hoc] at h2
    cases h2).trans hq⟩
end Go

/-! ### An iterator's region with a call of yield under a guard -/
namespace Go.Md
open Go Go.RowKit
section
variable {P : Program} {Q : Exit → Act → World → Prop} {m n : Nat} {L : Fr} {D : List Deferred} {w : World} {ops : Array Oper} {rest : List Oper}
theorem gtW {o : Oper} {j : Nat} {b : Bool} {oj : Oper} {t : Nat} {v : Value} (hg : o.guard = some (j, b)) (hj : ops[j]? = some oj) (hd : oj.dst = some t) (ht : Nat.blt t n = true)
    (hv : L t = v) (hb : v = .bool b) (h : wpListIn Fence.wide m P ops Q ({ o with guard := none } :: rest) (act n L D) w) : wpListIn Fence.wide m P ops Q (o :: rest) (act n L D) w := by
  have hw : Region.wanted o (yielded ops (act n L D).tmps) = true := by
    simp [Region.wanted, hg, yielded, hj, hd, tmps_act n L D t ht, hv, hb]
  unfold wpListIn at h ⊢
  rw [if_pos hw]
  rw [if_pos (by simp [Region.wanted])] at h
  exact h
theorem gfW {o : Oper} {j : Nat} {b : Bool} {oj : Oper} {t d : Nat} {v : Value} (hg : o.guard = some (j, b)) (hj : ops[j]? = some oj) (hd : oj.dst = some t) (ht : Nat.blt t n = true)
    (hv : L t = v) (hb : v ≠ .bool b) (hdd : o.dst = some d) (h : wpListIn Fence.wide m P ops Q rest (act n (upd L d undef) D) w) : wpListIn Fence.wide m P ops Q (o :: rest) (act n L D) w := by
  have hw : Region.wanted o (yielded ops (act n L D).tmps) = false := by
    simp only [Region.wanted, hg, yielded, hj, hd, Option.bind_some, tmps_act n L D t ht, hv]
    cases v <;> simp
    rename_i c
    intro e
    exact hb (by rw [e])
  unfold wpListIn
  rw [if_neg (by simp [hw]), hdd, put_act]
  exact ⟨fun _ _ => trivial, h⟩
theorem clW {o : Oper} {d : Nat} {g : FuncId} {args : Array Value} {R : Value → World → Prop} (hg : o.guard = none) (hd : o.dst = some d) (hdf : ∀ c, o.op ≠ .defer c)
    (h : (execOp (ev n L) o).run P w = .ok (.enter g args) w) (hc : Calls P g args w (Ret R))
    (k : ∀ v w', R v w' → wpListIn Fence.wide m P ops Q rest (act n (upd L d v) D) w') : wpListIn Fence.wide m P ops Q (o :: rest) (act n L D) w := by
  refine wpListIn_plain hg fun K hK => ?_
  unfold Oper.wpIn
  refine ⟨fun _ _ => trivial, ?_⟩
  rw [Oper.semAt_eq _ _ _ hdf]
  simp only [ev_act, h, Oper.uponIn]
  refine ⟨fun h => by simp [Fence.wide] at h, (callsIn_wide.2 hc).mono fun e w' he => ?_⟩
  obtain ⟨v, rfl, hr⟩ := he
  simp only [hd, put_act]
  exact hK _ _ (k v w' hr)
end
end Go.Md

/-! ### Rows that lie apart -/
namespace Go.Md
open Go Go.RowKit
def Apart (v1 v2 : Value) : Prop := ∀ q, v1.ownBlock = some q → v2.ownBlock ≠ some q
section
variable {w w' wb : World} {v v' v1 v2 : Value}
theorem Apart.symm (h : Apart v1 v2) : Apart v2 v1 := fun q h2 h1 => h q h1 h2
theorem Apart.nil1 : Apart (.slice none 0 0) v2 := fun q h => by cases h
theorem Apart.nil2 : Apart v1 (.slice none 0 0) := fun q _ h => by cases h
theorem Apart.old {α β : Type} [Enc α] [Flat α] [Enc β] [Flat β] {e1 e2 : TypeId} {b1 : Nat} {l1 : List α} {l2 : List β} (h1 : Row e1 b1 wb v1 l1) (h2 : Row e2 wb.heap.size w v2 l2) : Apart v1 v2 := fun q a b => by
  have := h1.lt q a
  have := h2.lt q b
  omega
theorem Apart.app (ho : v'.ownBlock = v.ownBlock ∨ ∃ g, v'.ownBlock = some g ∧ w.heap.size ≤ g) (h : Apart v v2) (h2 : ∀ q, v2.ownBlock = some q → q < w.heap.size) : Apart v' v2 := fun q a b => by
  rcases ho with e | ⟨g, e, hg⟩
  · exact h q (e ▸ a) b
  · rw [e] at a
    cases a
    have := h2 _ b
    omega
theorem Row.gra {α : Type} [Enc α] [Flat α] {e : TypeId} {base : Nat} {l : List α} (h : Row e base w v2 l) (g : w.grownBy w' v.ownBlock) (ha : Apart v v2) : Row e base w' v2 l := h.grn g fun q hq e => ha q e hq
end
end Go.Md
