/-
  Loops over a function whose iterator changes memory that was there, and tells what stands at each round. No condition: lemmas about the model.
-/
import Derived.Test.YtboefnpnoojfpaaMark
import Derived.Test.YtboefnpnoojfpaaMapw
namespace Go.Md
open Go Go.RowKit

/-- An iterator that hands these lists of values to yield, one after another, and changes block bs and what it makes; at each round St holds, and at the end. Its caller keeps what Kp says. -/
def SeqQ (P : Program) (bs : Nat) (Kp : World → World → Prop) (St : Nat → World → Prop) (m : Nat) (g : FuncId) (cs : Array Value) (us : List (Array Value)) (w : World) : Prop :=
  ∀ (l : Nat) (J : Nat → World → Prop) (Jx : World → Prop) (W : World), Ext w W → (∀ k A B, J k A → BelX W.heap.size bs bs A B → J k B) → (∀ A B, Jx A → Ext A B → Jx B) →
    (∀ k u A, us[k]? = some u → J k A → St k A → YieldAt Fence.wide (m - 1) P l u A fun e B =>
      (e = .returned (.bool true) ∧ J (k + 1) B ∧ Kp A B) ∨ (e = .returned (.bool false) ∧ Jx B)) →
    J 0 W → CallsIn Fence.wide m P g (#[.func (.yield l) #[] #[]] ++ cs) W fun e B => (∃ v, e = .returned v) ∧ ((J us.length B ∧ St us.length B) ∨ Jx B)

section
variable {P : Program} {Q : Exit → Act → World → Prop} {m n : Nat} {L : Fr} {D : List Deferred} {w : World}

/-- A loop over such a function in a walk. -/
theorem rangeM {g : Operand} {ps : List Nat} {assign body : Code} {gf : FuncId} {cs : Array Value} {us : List (Array Value)} {bs : Nat} {Kp : World → World → Prop} {St : Nat → World → Prop} (hm : 1 ≤ m) (hbs : bs < w.heap.size) (hKp : KpOk w.heap.size Kp)
    (hg : ev n L g = .func (.func gf) #[] cs) (hc : Callable P gf) (hseq : SeqQ P bs Kp St (m - 1) gf cs us w) (hps : ∀ u ∈ us, u.size = ps.length)
    (I : Nat → World → Prop) (Ix : Code → World → Prop) (hI : ∀ k, Okb w.heap.size (I k)) (hIb : ∀ k A C, I k A → BelX w.heap.size bs bs A C → I k C) (hSt : ∀ (k : Nat) (A C : World) (l : Nat) (r : Loop), St k A → A.heap[l]? = some (.loop r) → Chg l A C → St k C) (hIx : ∀ c, Okb w.heap.size (Ix c)) (h0 : I 0 w)
    (hround : ∀ (l k : Nat) (u : Array Value) (A : World) (K : Act → World → Prop), w.heap.size < l → us[k]? = some u → I k A → St k A →
      (∀ a' W, Ext A W → (∀ W2 r, W.heap[l]? = some (.loop r) → Chg l W W2 → body.wpIn (RF l) (m - 1 - 1) P (RPost w.heap.size Kp (I (k + 1)) Ix W2) a' W2) → K a' W) →
      assign.wpIn (RF l) (m - 1 - 1) P (Exit.then K (fun _ _ _ => False)) (act n ((ps.zip u.toList).foldl (fun L (p, v) => upd L p v) L) []) A)
    (hdone : ∀ D' W, w.heap.size ≤ D' → I us.length W → St us.length W → W.heap[D']? = some (.deferred (some [])) → Q .normal (act n L ({ target := .collected D', args := #[] } :: D)) W)
    (hstop : ∀ D' c W, w.heap.size ≤ D' → Ix c W → W.heap[D']? = some (.deferred (some [])) → c.wp P Q (act n L ({ target := .collected D', args := #[] } :: D)) W) :
    (Code.rangeFunc g ps.toArray assign body).wp P Q (act n L D) w := by
  refine (wpIn_wide (n := m)).1 (wpIn_rangeFunc fun fn hfn => ?_)
  generalize hrec : (fun (st : LoopState) (pe : Option Code) => ({ state := st, pending := pe, fn := fn, tmps := (act n L D).tmps, params := ps.toArray, assign := assign, body := body, defers := w.heap.size } : Loop)) = rec
  have hrec' : ∀ st pe, rec st pe = { state := st, pending := pe, fn := fn, tmps := (act n L D).tmps, params := ps.toArray, assign := assign, body := body, defers := w.heap.size } := fun st pe => by rw [← hrec]
  generalize hB : w.heap.size = B at *
  -- the two blocks of the loop's own
  have hx1 : Ext w (w.alloc (.deferred (some []))) := Ext.alloc _ _
  have hx2 := hx1.tr (Ext.alloc (w.alloc (.deferred (some []))) (.loop (rec .ready none)))
  have hL1 : ((w.alloc (.deferred (some []))).alloc (.loop (rec .ready none))).heap[B + 1]? = some (.loop (rec .ready none)) := by
    have := World.alloc_heap_new (w.alloc (.deferred (some []))) (.loop (rec .ready none))
    rwa [World.size_alloc, hB] at this
  have hK1 : ((w.alloc (.deferred (some []))).alloc (.loop (rec .ready none))).heap[B]? = some (.deferred (some [])) := by
    have := World.alloc_heap_new w (.deferred (some []))
    rw [hB] at this
    exact ((Ext.alloc (w.alloc (.deferred (some []))) (.loop (rec .ready none))).block B (by simp [hB])).trans this
  have hW1s : B + 2 = ((w.alloc (.deferred (some []))).alloc (.loop (rec .ready none))).heap.size := by rw [World.size_alloc, World.size_alloc, hB]
  generalize hW1 : (w.alloc (.deferred (some []))).alloc (.loop (rec .ready none)) = W1 at *
  refine ⟨B + 1, [{ target := .collected B, args := #[] }], W1, { target := .fn (.func gf) cs, args := #[.func (.yield (B + 1)) #[] #[]] }, W1, gf, #[.func (.yield (B + 1)) #[] #[]] ++ cs, W1, ?_, ?_, ?_, ?_, fun _ => hm, ?_⟩
  · rw [show Fence.wide.round = none from rfl, run_enterLoop_outer, hB, ← hrec', hW1]
  · simp only [ev_act, resolve, Deferred.ofValue, hg]
    simp [ev]
  · intro f' _
    exact trivial
  · simp [invoke, run_callFunc hc]
  -- the iterator's word, with the loop's record beside
  refine (hseq (B + 1) (fun k A => I k A ∧ A.heap[B + 1]? = some (.loop (rec .ready none)) ∧ A.heap[B]? = some (.deferred (some [])))
    (fun A => ∃ c, Ix c A ∧ A.heap[B + 1]? = some (.loop (rec .done (some c))) ∧ A.heap[B]? = some (.deferred (some []))) W1 hx2
    (fun k A C h e => ⟨hIb k A C h.1 (e.mono (by rw [← hW1s]; omega)), (e.block _ (by rw [← hW1s]; omega) (by omega) (by omega)).trans h.2.1, (e.block _ (by rw [← hW1s]; omega) (by omega) (by omega)).trans h.2.2⟩)
    (fun A C ⟨c, h1, h2, h3⟩ e => ⟨c, (hIx c).ext h1 e, (e.block _ (Array.getElem?_eq_some_iff.1 h2).1).trans h2, (e.block _ (Array.getElem?_eq_some_iff.1 h3).1).trans h3⟩)
    ?_ ⟨(hI 0).ext h0 hx2, hL1, hK1⟩).mono ?_
  · -- one round
    rintro k u A hu ⟨hi, hl, hk⟩ hst
    have hy := run_yield (P := P) (args := u) hl (by rw [hrec']; simpa using hps u (List.mem_of_getElem? hu))
    rw [hrec'] at hy
    refine ⟨fn, _, assign, body, hy, roundIn_of_wpIn hfn ?_⟩
    have hact : ({ tmps := ((ps.toArray.zip u).foldl (fun t (p, v) => t.setIfInBounds p v) (act n L D).tmps), defers := [] } : Act) = act n ((ps.zip u.toList).foldl (fun L (p, v) => upd L p v) L) [] := by
      have := act_round (n := n) (D := D) (ps := ps) (vs := u.toList) L
      rw [← Array.foldl_toList, Array.toList_zip]
      simp only at this ⊢
      rw [this]
      rfl
    refine (congrArg (fun q => Code.wpIn (RF (B + 1)) (m - 1 - 1) P assign _ q A) hact).mpr ?_
    refine hround (B + 1) k u A _ (Nat.lt_succ_self _) hu hi hst fun a' W hAW hbd => ?_
    have hl1 := (hAW.block _ (Array.getElem?_eq_some_iff.1 hl).1).trans hl
    have hk1 := (hAW.block _ (Array.getElem?_eq_some_iff.1 hk).1).trans hk
    refine ⟨_, run_beginRound hl1 (by rw [hrec']), ?_⟩
    obtain ⟨c1, c2⟩ := chgp (o' := .loop { rec .ready none with state := .busy }) hl1
    have hk2 := (c1.other B (by omega)).trans hk1
    generalize hW2 : W.putObj (B + 1) (.loop { rec .ready none with state := .busy }) = W2 at *
    refine wpIn_mono (hbd W2 _ hl1 c1) ?_
    have fin : ∀ (jump : Option Code) (W3 : World), KeepsFrom B W2 W3 → (Instr.endRound (B + 1) jump).run P W3 = .ok (.bool jump.isNone) (W3.putObj (B + 1) (.loop (rec (if jump.isNone then .ready else .done) jump))) ∧
        W3.heap[B + 1]? = some (.loop { rec .ready none with state := .busy }) ∧ Chg (B + 1) W3 (W3.putObj (B + 1) (.loop (rec (if jump.isNone then .ready else .done) jump))) ∧
        (W3.putObj (B + 1) (.loop (rec (if jump.isNone then .ready else .done) jump))).heap[B + 1]? = some (.loop (rec (if jump.isNone then .ready else .done) jump)) ∧
        (W3.putObj (B + 1) (.loop (rec (if jump.isNone then .ready else .done) jump))).heap[B]? = some (.deferred (some [])) := fun jump W3 hk3 => by
      have hl3 := hk3.same _ _ (by omega) c2 rfl
      have hd3 := hk3.same _ _ (Nat.le_refl _) hk2 rfl
      have he := run_endRound (P := P) jump hl3
      obtain ⟨e1, e2⟩ := chgp (o' := .loop (rec (if jump.isNone then .ready else .done) jump)) hl3
      refine ⟨?_, hl3, e1, e2, (e1.other B (by omega)).trans hd3⟩
      simp only [hrec'] at he ⊢
      exact he
    rintro e a3 W3 hp
    cases e with
    | normal =>
      obtain ⟨hk3, hb3, hi3⟩ := hp
      obtain ⟨hr, hl3, e1, hl4, hd4⟩ := fin none W3 hk3
      have hBA : B ≤ A.heap.size := Nat.le_of_lt (Nat.lt_of_succ_lt (Array.getElem?_eq_some_iff.1 hl).1)
      exact ⟨_, _, hr, .inl ⟨rfl, ⟨(hI (k + 1)).put hi3 (by omega) hl3 rfl e1, hl4, hd4⟩, hKp.trans (hKp.ext hBA hAW) (hKp.trans (hKp.put (by omega) hl1 c1) (hKp.trans hb3 (hKp.put (by omega) hl3 e1)))⟩⟩
    | ret =>
      obtain ⟨hk3, hi3⟩ := hp
      obtain ⟨hr, hl3, e1, hl4, hd4⟩ := fin (some .ret) W3 hk3
      exact ⟨_, _, hr, .inr ⟨rfl, .ret, (hIx _).put hi3 (by omega) hl3 rfl e1, hl4, hd4⟩⟩
    | exit id =>
      obtain ⟨hk3, hi3⟩ := hp
      obtain ⟨hr, hl3, e1, hl4, hd4⟩ := fin (some (.exit id)) W3 hk3
      exact ⟨_, _, hr, .inr ⟨rfl, .exit id, (hIx _).put hi3 (by omega) hl3 rfl e1, hl4, hd4⟩⟩
    | goto t => exact hp.elim
    | panic ch => exact hp.elim
    | outgrown => exact hp.elim
  · -- behind the iterator
    rintro e W2 ⟨⟨v, rfl⟩, ⟨⟨hi, hl, hk⟩, hst⟩ | ⟨c, hi, hl, hk⟩⟩
    · obtain ⟨e1, _⟩ := chgp (o' := .loop { rec .ready none with state := .exhausted }) hl
      exact ⟨none, _, by have := run_endLoop (P := P) hl (by rw [hrec']; simp); simpa only [hrec'] using this, hdone B _ (Nat.le_refl _) ((hI _).put hi (by omega) hl rfl e1) (hSt _ _ _ _ _ hst hl e1) ((e1.other B (by omega)).trans hk)⟩
    · obtain ⟨e1, _⟩ := chgp (o' := .loop { rec .done (some c) with state := .exhausted }) hl
      exact ⟨some c, _, by have := run_endLoop (P := P) hl (by rw [hrec']; simp); simpa only [hrec'] using this, wpIn_wide.2 (hstop B c _ (Nat.le_refl _) ((hIx c).put hi (by omega) hl rfl e1) ((e1.other B (by omega)).trans hk))⟩

theorem asgm {A W W2 : World} {l : Nat} {r : Loop} {I : World → Prop} {B : Nat} (hI : Okb B I) (h : I A) (hB : B ≤ l) (k : Ext A W) (hl : W.heap[l]? = some (.loop r)) (hc : Chg l W W2) : I W2 := hI.put (hI.ext h k) hB hl rfl hc

/-- The loop's variable is not used. -/
theorem rangeM0 {α : Type} [Enc α] [Flat α] {g : Operand} {p : Nat} {body : Code} {xs : List α} {bs : Nat} {gf : FuncId} {cs : Array Value} {Kp : World → World → Prop} {St : Nat → World → Prop} (hm : 8 ≤ m) (hbs : bs < w.heap.size) (hKp : KpOk w.heap.size Kp) (hg : ev n L g = .func (.func gf) #[] cs) (hc : Callable P gf) (hs : SeqQ P bs Kp St (m - 1) gf cs (xs.map fun x => #[fv x]) w)
    (I : Nat → World → Prop) (Ix : Code → World → Prop) (hI : ∀ k, Okb w.heap.size (I k)) (hIb : ∀ k A C, I k A → BelX w.heap.size bs bs A C → I k C) (hSt : ∀ (k : Nat) (A C : World) (l : Nat) (r : Loop), St k A → A.heap[l]? = some (.loop r) → Chg l A C → St k C) (hIx : ∀ c, Okb w.heap.size (Ix c)) (h0 : I 0 w)
    (hround : ∀ (l k : Nat) (x : α) (W : World), xs[k]? = some x → I k W → St k W → body.wpIn (RF l) (m - 2) P (RPost w.heap.size Kp (I (k + 1)) Ix W) (act n (upd L p (fv x)) []) W)
    (hdone : ∀ D' W, w.heap.size ≤ D' → I xs.length W → St xs.length W → W.heap[D']? = some (.deferred (some [])) → Q .normal (act n L ({ target := .collected D', args := #[] } :: D)) W)
    (hstop : ∀ D' c W, w.heap.size ≤ D' → Ix c W → W.heap[D']? = some (.deferred (some [])) → c.wp P Q (act n L ({ target := .collected D', args := #[] } :: D)) W) :
    (Code.rangeFunc g #[p] .skip body).wp P Q (act n L D) w := by
  refine rangeM (m := m) (ps := [p]) (by omega) hbs hKp hg hc hs (fun u hu => by obtain ⟨x, _, rfl⟩ := List.mem_map.1 hu; rfl) I Ix hI hIb hSt hIx h0 (fun l k u A K hl hu hi hst hK => ?_) (fun D' W h1 h2 h3 h4 => hdone D' W h1 (by rwa [List.length_map] at h2) (by rwa [List.length_map] at h3) h4) hstop
  rw [List.getElem?_map] at hu
  obtain ⟨x, hx, rfl⟩ := Option.map_eq_some_iff.1 hu
  refine wpIn_skip <| hK _ A (Ext.refl _) fun W2 r ho hch => ?_
  exact hround l k x W2 hx ((hI k).put hi (by omega) ho rfl hch) (hSt _ _ _ _ _ hst ho hch)

/-- The loop's variable is a box. -/
theorem rangeMB {α : Type} [Enc α] [Flat α] {g : Operand} {p d id T bytes k' : Nat} {agg : Bool} {z : List Value} {body : Code} {xs : List α} {bs : Nat} {gf : FuncId} {cs : Array Value} {Kp : World → World → Prop} {St : Nat → World → Prop} {pos pos' : String} {ty ty' : TypeId} {af af' : Array Edge} (hm : 8 ≤ m) (hbs : bs < w.heap.size) (hKp : KpOk w.heap.size Kp) (hg : ev n L g = .func (.func gf) #[] cs) (hc : Callable P gf) (hs : SeqQ P bs Kp St (m - 1) gf cs (xs.map fun x => #[fv x]) w)
    (hp : Nat.blt p n = true) (hd : Nat.blt d n = true) (hpd : Nat.beq p d = false) (hT : TI P T agg k' bytes z) (hk' : k' = Enc.n α)
    (I : Nat → World → Prop) (Ix : Code → World → Prop) (hI : ∀ k, Okb w.heap.size (I k)) (hIb : ∀ k A C, I k A → BelX w.heap.size bs bs A C → I k C) (hSx : ∀ (k : Nat) (A C : World), St k A → Ext A C → St k C) (hSt : ∀ (k : Nat) (A C : World) (l : Nat) (r : Loop), St k A → A.heap[l]? = some (.loop r) → Chg l A C → St k C) (hIx : ∀ c, Okb w.heap.size (Ix c)) (h0 : I 0 w)
    (hsz : ∀ k A, I k A → w.heap.size ≤ A.heap.size)
    (hround : ∀ (l k : Nat) (x : α) (W : World) (b : Nat), xs[k]? = some x → I k W → St k W → w.heap.size ≤ b → Bx W b T (Flat.enc x) → body.wpIn (RF l) (m - 2) P (RPost w.heap.size Kp (I (k + 1)) Ix W) (act n (upd (upd L p (fv x)) d (.pointer (some ⟨b, 0, none⟩))) []) W)
    (hdone : ∀ D' W, w.heap.size ≤ D' → I xs.length W → St xs.length W → W.heap[D']? = some (.deferred (some [])) → Q .normal (act n L ({ target := .collected D', args := #[] } :: D)) W)
    (hstop : ∀ D' c W, w.heap.size ≤ D' → Ix c W → W.heap[D']? = some (.deferred (some [])) → c.wp P Q (act n L ({ target := .collected D', args := #[] } :: D)) W) :
    (Code.rangeFunc g #[p] (.region id #[{ dst := some d, op := .alloc T, type := ty, pos := pos, after := af, guard := none }, { dst := none, op := .store T (.tmp d) (.tmp p), type := ty', pos := pos', after := af', guard := none }] false) body).wp P Q (act n L D) w := by
  refine rangeM (m := m) (ps := [p]) (by omega) hbs hKp hg hc hs (fun u hu => by obtain ⟨x, _, rfl⟩ := List.mem_map.1 hu; rfl) I Ix hI hIb hSt hIx h0 (fun l k u A K hl hu hi hst hK => ?_) (fun D' W h1 h2 h3 h4 => hdone D' W h1 (by rwa [List.length_map] at h2) (by rwa [List.length_map] at h3) h4) hstop
  rw [List.getElem?_map] at hu
  obtain ⟨x, hx, rfl⟩ := Option.map_eq_some_iff.1 hu
  have hzl := hT.zlen
  refine rgR rfl <| sal hT fun b w1 hx1 hg1 hb1 => ?_
  have e1 : ev n (upd (upd L p (fv x)) d (.pointer (some ⟨b, 0, none⟩))) (.tmp d) = .pointer (some ⟨b, 0, none⟩) := by simp [ev, hd, upd]
  have e2 : ev n (upd (upd L p (fv x)) d (.pointer (some ⟨b, 0, none⟩))) (.tmp p) = fv x := by
    simp only [ev, hp, upd, cond_true, hpd, cond_false]
    simp
  refine sst e1 e2 (cells_fv x) hT hb1 (by rw [Flat.len, hk']) (List.all_eq_true.2 (Flat.one x)) (by rw [Flat.len, ← hk', hzl]; omega) fun w2 hch hb2 => nl <| hK _ w2 (hx1.chg hch hg1) fun W2 r ho hc3 => ?_
  have hb3 : Bx w2 b T (Flat.enc x) := by
    have : splice z 0 (Flat.enc x) = Flat.enc x := by simp [splice, Flat.len, ← hk', ← hzl]
    rwa [this] at hb2
  have kx := hx1.chg hch hg1
  exact hround l k x W2 b hx ((hI k).put ((hI k).ext hi kx) (by omega) ho rfl hc3) (hSt _ _ _ _ _ (hSx _ _ _ hst kx) ho hc3) (Nat.le_trans (hsz k A hi) hg1) (hb3.putne ho rfl hc3)
end
end Go.Md
