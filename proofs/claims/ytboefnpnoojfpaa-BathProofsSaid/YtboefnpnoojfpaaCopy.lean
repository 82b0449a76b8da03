/-
  copy into an array of the call's own. No condition: lemmas about the model.
-/
import Derived.Test.YtboefnpnoojfpaaObj
namespace Go.Md
open Go Go.RowKit

def acopy {m : Nat} {α : Type} (X : Ar m α) (lo : Nat) (l : List α) : Ar m α :=
  ⟨X.l.take lo ++ l.take (m - lo) ++ X.l.drop (lo + (l.take (m - lo)).length), by
    have := X.h
    simp only [List.length_append, List.length_take, List.length_drop]
    omega⟩

theorem arlen {m : Nat} {α : Type} [Enc α] [Flat α] (X : Ar m α) : (X.l.flatMap Flat.enc).length = m * Enc.n α := by rw [Flat.flen, X.h]

section
variable {P : Program} {Q : Exit → Act → World → Prop} {n : Nat} {L : Fr} {D : List Deferred} {w : World} {ops : Array Oper} {rest : List Oper}
variable {ty : TypeId} {pos : String} {af : Array Edge} {dst : Option Nat} {gdd : Option (Nat × Bool)} {x y z : Operand}

/-- a[lo:] of an array. -/
theorem xsla {t e m k bytes : Nat} {agg : Bool} {zz : List Value} {b o lo : Nat} (hx : ev n L x = .pointer (some ⟨b, o, none⟩)) (hy : ev n L y = .int .i64 (lo : Int)) (ht : P.underlying t = some (.array m e)) (he : TI P e agg k bytes zz) (hlo : Nat.blt lo m = true) :
    (execOp (ev n L) { dst := dst, op := .slice t x (some y) none none, type := ty, pos := pos, after := af, guard := gdd }).run P w = .ok (.value (.slice (some ⟨b, o + lo * k, none⟩) (m - lo) (m - lo))) w := by
  have h1 : lo < m := by simpa [Nat.blt_eq] using hlo
  have h3 : ¬ (m = lo) := by omega
  simp [execOp, hx, hy, Instr.sliceAt, Instr.sureAddr, run_underlying ht, Instr.sliceBounds, Instr.sliceBound, asIntOf, he.size, h3, add_mk]
  intro h
  omega

theorem scp {α : Type} [Enc α] [Flat α] {d m lo o : Nat} {X : Ar m α} {dT sT e : TypeId} {agg : Bool} {bytes b T cap : Nat} {zz : List Value} {a : Option Addr} {l : List α} (hs : ev n L x = .slice (some ⟨b, o, none⟩) (m - lo) (m - lo)) (ho : o = lo) (hy : ev n L y = .slice a l.length cap)
    (ht : P.underlying dT = some (.slice e)) (h1 : Enc.n α = 1) (he : TI P e agg 1 bytes zz) (hb : Bx w b T (X.l.flatMap Flat.enc)) (hl : RV w (.slice a l.length cap) l) (hlo : Nat.blt lo m = true)
    (k : ∀ w' c, Chg b w w' → Bx w' b T ((acopy X lo l).l.flatMap Flat.enc) → wpList P ops Q rest (act n (upd L d (.int .i64 c)) D) w') :
    wpList P ops Q ({ dst := some d, op := .call { callee := .builtin .copy, args := #[x, y], argTypes := #[dT, sT] }, type := ty, pos := pos, after := af, guard := none } :: rest) (act n L D) w := by
  subst ho
  have hlo' : o < m := by simpa [Nat.blt_eq] using hlo
  obtain ⟨i, v, hi, hn, _⟩ := he.info
  have hxl : (X.l.flatMap Flat.enc).length = m := by rw [Flat.flen, X.h, h1, Nat.mul_one]
  rcases hl.els with rfl | ⟨b2, off2, rfl, _, _, h2⟩
  · have hrun : (Builtin.copy_ #[dT, sT] ty #[.slice (some ⟨b, o, none⟩) (m - o) (m - o), .slice a 0 cap]).run P w = .ok (goInt 0) w := by
      cases a <;> simp [Builtin.copy_, run_underlying ht, Builtin.lenOf, Builtin.firstCells, sizeOf, typeInfo, hi, storeCells, loadCells, loadCellsFrom]
    refine vl rfl rfl (v := .int .i64 0) (w' := w) (by simp [execOp, resolve, invoke, Go.builtin, hs, hy, hrun, goInt]) (k w 0 ⟨rfl, rfl, rfl, rfl, fun _ _ => rfl⟩ ?_)
    have : (acopy X o ([] : List α)).l = X.l := by simp [acopy]
    rw [this]
    exact hb
  · have hcs : ∀ (q : List α), (q.flatMap Flat.enc).length = q.length := fun q => by rw [Flat.flen, h1, Nat.mul_one]
    have hsrc : ∀ j u, ((l.take (m - o)).flatMap Flat.enc)[j]? = some u → w.cell? ((⟨b2, off2, none⟩ : Addr).add j) = some u := by
      intro j u hj
      rw [add_mk]
      have := news (w := w) (b := b2) (off := off2) (l.take (m - o)) 0 (fun i x hx => by
        rw [List.getElem?_take] at hx
        split at hx
        · obtain ⟨cs, h3, h4⟩ := h2 i x hx
          rw [Flat.iff.1 h3] at h4
          simpa using h4
        · cases hx) j u hj
      simpa using this
    have hone : ∀ u ∈ (l.take (m - o)).flatMap Flat.enc, u.oneCell' = true := fun u hu => by obtain ⟨y, _, hy⟩ := List.mem_flatMap.1 hu; exact Flat.one y u hy
    have hlen : ((l.take (m - o)).flatMap Flat.enc).length = Nat.min l.length (m - o) := by rw [hcs, List.length_take, Nat.min_comm]
    have hrun := run_copy_row (P := P) w dT sT ty e b (o) (m - o) (m - o) ⟨b2, off2, none⟩ l.length cap (X.l.flatMap Flat.enc).toArray T ((l.take (m - o)).flatMap Flat.enc) ht (by simp [hi, hn]) hb hlen hsrc
      (by rw [hcs, List.length_take, List.size_toArray, hxl]; omega) hone
    have step : ∀ (c : Nat) (w3 : World), (Builtin.copy_ #[dT, sT] ty #[.slice (some ⟨b, o, none⟩) (m - o) (m - o), .slice (some ⟨b2, off2, none⟩) l.length cap]).run P w = .ok (goInt c) w3 → Chg b w w3 → Bx w3 b T ((acopy X o l).l.flatMap Flat.enc) →
        wpList P ops Q ({ dst := some d, op := .call { callee := .builtin .copy, args := #[x, y], argTypes := #[dT, sT] }, type := ty, pos := pos, after := af, guard := none } :: rest) (act n L D) w := fun c w3 hr h3 h4 =>
      vl rfl rfl (v := goInt c) (w' := w3) (by simp [execOp, resolve, invoke, Go.builtin, hs, hy, hr]) (k w3 c h3 h4)
    refine step _ _ hrun ⟨rfl, rfl, rfl, by simp, fun k hk => setRow_other _ _ _ _ hk⟩ ?_
    have hset := setRow_heap w b (X.l.flatMap Flat.enc).toArray ((X.l.flatMap Flat.enc).toArray.toList.take (o) ++ (l.take (m - o)).flatMap Flat.enc ++ (X.l.flatMap Flat.enc).toArray.toList.drop (o + ((l.take (m - o)).flatMap Flat.enc).length)).toArray T _ hb
    refine Eq.trans hset ?_
    have htk : ∀ (q : List α) (j : Nat), (q.flatMap Flat.enc).take j = (q.take j).flatMap Flat.enc := by
      intro q
      induction q with
      | nil => intro j; simp
      | cons a q ih =>
        intro j
        have ha : (Flat.enc a).length = 1 := by rw [Flat.len, h1]
        cases j with
        | zero => simp
        | succ j => rw [List.flatMap_cons, List.take_succ_cons, List.flatMap_cons, List.take_append, List.take_of_length_le (by omega), ha, ← ih]; simp
    have hdr : ∀ (q : List α) (j : Nat), (q.flatMap Flat.enc).drop j = (q.drop j).flatMap Flat.enc := by
      intro q
      induction q with
      | nil => intro j; simp
      | cons a q ih =>
        intro j
        have ha : (Flat.enc a).length = 1 := by rw [Flat.len, h1]
        cases j with
        | zero => simp
        | succ j => rw [List.flatMap_cons, List.drop_succ_cons, List.drop_append, List.drop_of_length_le (by omega), ha, ← ih]; simp
    simp only [htk, hdr, hcs, acopy, List.flatMap_append]
end
end Go.Md
