/-
  make and copy for rows of the call's own. No condition: lemmas about the model.
-/
import Derived.Test.YtboefnpnoojfpaaMark
namespace Go.Md
open Go Go.RowKit

/-- So many zeros. -/
def mks {α : Type} (bytes : Nat) (c : Int) (z : α) : Option (List α) := if 0 ≤ c ∧ c.toNat * bytes ≤ 140737488355328 then some (List.replicate c.toNat z) else none
/-- l with k laid over its beginning. -/
def rcopy {α : Type} (l k : List α) : List α := k.take l.length ++ l.drop k.length
theorem rcopy_len {α : Type} (l k : List α) : (rcopy l k).length = l.length := by
  simp only [rcopy, List.length_append, List.length_take, List.length_drop]; omega

theorem made_rep {α : Type} [Enc α] [Flat α] (hm : 1 ≤ Enc.n α) (z : α) (c : Nat) : (madeCells (Flat.enc z).toArray (c * Enc.n α)).toList = (List.replicate c z).flatMap Flat.enc := by
  have hl := Flat.len z
  apply List.ext_getElem?
  intro j
  have hlen : ((List.replicate c z).flatMap Flat.enc).length = c * Enc.n α := by rw [Flat.flen, List.length_replicate]
  by_cases hj : j < c * Enc.n α
  · have h1 : (madeCells (Flat.enc z).toArray (c * Enc.n α)).toList[j]? = some ((Flat.enc z).toArray[j % (Flat.enc z).toArray.size]!) := by
      simp [madeCells, hj]
    have hq : j / Enc.n α < c := Nat.div_lt_of_lt_mul (by rwa [Nat.mul_comm] at hj)
    have hr : j % Enc.n α < (Flat.enc z).length := by rw [hl]; exact Nat.mod_lt _ hm
    have h2 := flat_at (List.replicate c z) (j / Enc.n α) z (j % Enc.n α) (Flat.enc z)[j % Enc.n α] (by rw [List.getElem?_replicate, if_pos hq]) (List.getElem?_eq_getElem hr)
    rw [show j / Enc.n α * Enc.n α + j % Enc.n α = j by rw [Nat.mul_comm]; exact Nat.div_add_mod j _] at h2
    rw [h1, h2]
    simp only [List.size_toArray, hl]
    rw [getElem!_pos _ _ (by simpa using hr)]
    simp
  · rw [List.getElem?_eq_none (by simp [madeCells]; omega), List.getElem?_eq_none (by omega)]

theorem flat_take {α : Type} [Enc α] [Flat α] : ∀ (q : List α) (j : Nat), (q.flatMap Flat.enc).take (j * Enc.n α) = (q.take j).flatMap Flat.enc
  | [], j => by simp
  | a :: q, 0 => by simp
  | a :: q, j + 1 => by
    rw [List.flatMap_cons, List.take_succ_cons, List.flatMap_cons, List.take_append, List.take_of_length_le (by rw [Flat.len, Nat.add_mul]; omega), Flat.len, ← flat_take q j]
    congr 2
    rw [Nat.add_mul]; omega
theorem flat_drop {α : Type} [Enc α] [Flat α] : ∀ (q : List α) (j : Nat), (q.flatMap Flat.enc).drop (j * Enc.n α) = (q.drop j).flatMap Flat.enc
  | [], j => by simp
  | a :: q, 0 => by simp
  | a :: q, j + 1 => by
    rw [List.flatMap_cons, List.drop_succ_cons, List.drop_append, List.drop_of_length_le (by rw [Flat.len, Nat.add_mul]; omega), Flat.len, ← flat_drop q j, List.nil_append]
    congr 1
    rw [Nat.add_mul]; omega

section
variable {P : Program} {Q : Exit → Act → World → Prop} {n : Nat} {L : Fr} {D : List Deferred} {w : World} {ops : Array Oper} {rest : List Oper}
variable {ty : TypeId} {pos : String} {af : Array Edge} {dst : Option Nat} {gdd : Option (Nat × Bool)} {x y z : Operand}
variable {α : Type} [Enc α] [Flat α]

theorem smks {d : Nat} {t e : TypeId} {agg : Bool} {bytes : Nat} {zc : List Value} {kl kc : IntKind} {c : Int} {z0 : α} {r : List α} (hx : ev n L x = .int kl c) (hy : ev n L y = .int kc c) (ht : P.underlying t = some (.slice e)) (he : TI P e agg (Enc.n α) bytes zc)
    (hz : zc = Flat.enc z0) (hm : Nat.ble 1 (Enc.n α) = true) (hb1 : Nat.ble 1 bytes = true) (hr : mks bytes c z0 = some r)
    (k : ∀ b w', Ext w w' → Row e w.heap.size w' (.slice (some ⟨b, 0, none⟩) r.length r.length) r → wpList P ops Q rest (act n (upd L d (.slice (some ⟨b, 0, none⟩) r.length r.length)) D) w') :
    wpList P ops Q ({ dst := some d, op := .makeSlice t x y, type := ty, pos := pos, after := af, guard := none } :: rest) (act n L D) w := by
  subst hz
  unfold mks at hr
  split at hr
  case isFalse => cases hr
  rename_i hc
  cases hr
  obtain ⟨h0, hb⟩ := hc
  have hm' : 1 ≤ Enc.n α := Nat.le_of_ble_eq_true hm
  have hb1' : 1 ≤ bytes := Nat.le_of_ble_eq_true hb1
  obtain ⟨i, zv, hi, hn, hby, hzz, hzc, _⟩ := he.info
  obtain ⟨C, rfl⟩ : ∃ C : Nat, c = (C : Int) := ⟨c.toNat, by omega⟩
  simp only [Int.toNat_natCast] at hb k ⊢
  have hC : C ≤ C * bytes := Nat.le_mul_of_pos_right _ hb1'
  have hmx : C ≤ maxLen := by unfold maxLen; omega
  have hrun := run_make (P := P) w t e i zv ht hi hzz kl kc (C : Int) (C : Int) (by omega) (Int.le_refl _) (by rw [hby, ← Int.natCast_mul, Nat.mul_comm]; omega) (by omega)
  simp only [Int.toNat_natCast, hzc, hn] at hrun
  have hlen : (List.replicate C z0).length = C := List.length_replicate
  rw [hlen] at k
  refine vl rfl rfl (v := .slice (some ⟨w.heap.size, 0, none⟩) C C) (w' := w.alloc (.cells (madeCells (Flat.enc z0).toArray (C * Enc.n α)) e)) (by simp [execOp, hx, hy, hrun]) (k _ _ (Ext.alloc _ _) ?_)
  refine Row.lit (Nat.le_refl _) ?_ hlen hmx
  have h1 := Bx.new w e ((List.replicate C z0).flatMap Flat.enc)
  rw [show madeCells (Flat.enc z0).toArray (C * Enc.n α) = ((List.replicate C z0).flatMap Flat.enc).toArray by rw [← made_rep hm']]
  exact h1

theorem run_copy_rows (w : World) (dT sT ty elem : TypeId) (g dLen dCap : Nat) (a : Addr) (sLen sCap : Nat) (cur : Array Value) (t : TypeId) (cs : List Value) (sz : Nat)
    (hu : P.underlying dT = some (.slice elem)) (hs : (P.info? elem).map (·.size) = some sz)
    (hg : w.heap[g]? = some (.cells cur t (0, 0))) (hn : cs.length = Nat.min sLen dLen * sz)
    (hsrc : ∀ j v, cs[j]? = some v → w.cell? (a.add j) = some v) (hfit : cs.length ≤ cur.size) (h1 : ∀ v ∈ cs, v.oneCell' = true) :
    (Builtin.copy_ #[dT, sT] ty #[.slice (some ⟨g, 0, none⟩) dLen dCap, .slice (some a) sLen sCap]).run P w =
      .ok (goInt (Nat.min sLen dLen)) (w.setRow g (cs ++ cur.toList.drop cs.length).toArray) := by
  have hl := run_loadCells_list (P := P) w a cs hsrc
  have hst := run_storeCells_at P g 0 t cs 0 cur w hg (by simpa using hfit) h1
  simp only [List.take_zero, List.nil_append, Nat.zero_add, Nat.add_zero] at hst
  cases hq : P.info? elem with
  | none => simp [hq] at hs
  | some i =>
    have hi : i.size = sz := by simpa [hq] using hs
    simp [Builtin.copy_, run_underlying hu, Builtin.lenOf, Builtin.firstCells, sizeOf, typeInfo, hq, hi, ← hn, hl, hst]

/-- copy into a row of the call's own. -/
theorem scpr {d : Nat} {dT sT e : TypeId} {agg : Bool} {bytes base len cap cap2 b : Nat} {zz : List Value} {a : Option Addr} {l k : List α} (hs : ev n L x = .slice (some ⟨b, 0, none⟩) len cap) (hy : ev n L y = .slice a k.length cap2)
    (ht : P.underlying dT = some (.slice e)) (he : TI P e agg (Enc.n α) bytes zz) (hr : Row e base w (.slice (some ⟨b, 0, none⟩) len cap) l) (hk : RV w (.slice a k.length cap2) k)
    (cont : ∀ w' c, Chg b w w' → Row e base w' (.slice (some ⟨b, 0, none⟩) len cap) (rcopy l k) → wpList P ops Q rest (act n (upd L d (.int .i64 c)) D) w') :
    wpList P ops Q ({ dst := some d, op := .call { callee := .builtin .copy, args := #[x, y], argTypes := #[dT, sT] }, type := ty, pos := pos, after := af, guard := none } :: rest) (act n L D) w := by
  obtain ⟨i, v, hi, hn, _⟩ := he.info
  obtain ⟨hsz, hcase⟩ := hr
  have hlen : len = l.length := by
    obtain ⟨_, _, e1, _⟩ := (show RV w _ l from Row.rv ⟨hsz, hcase⟩).sl
    cases e1
    rfl
  subst hlen
  rcases hcase with ⟨h, _⟩ | ⟨g, cap', cur, e1, hb, hg, hnc, hcm, hcs, htk⟩
  · cases h
  cases e1
  rcases hk.els with rfl | ⟨b2, off2, rfl, _, _, h2⟩
  · have hrun : (Builtin.copy_ #[dT, sT] ty #[.slice (some ⟨b, 0, none⟩) l.length cap, .slice a 0 cap2]).run P w = .ok (goInt 0) w := by
      cases a <;> simp [Builtin.copy_, run_underlying ht, Builtin.lenOf, Builtin.firstCells, sizeOf, typeInfo, hi, storeCells, loadCells, loadCellsFrom]
    refine vl rfl rfl (v := .int .i64 0) (w' := w) (by simp [execOp, resolve, invoke, Go.builtin, hs, hy, hrun, goInt]) (cont w 0 ⟨rfl, rfl, rfl, rfl, fun _ _ => rfl⟩ ?_)
    have : rcopy l ([] : List α) = l := by simp [rcopy]
    rw [this]
    exact ⟨hsz, .inr ⟨b, cap, cur, rfl, hb, hg, hnc, hcm, hcs, htk⟩⟩
  · have hsrc : ∀ j u, ((k.take l.length).flatMap Flat.enc)[j]? = some u → w.cell? ((⟨b2, off2, none⟩ : Addr).add j) = some u := by
      intro j u hj
      rw [add_mk]
      have := news (w := w) (b := b2) (off := off2) (k.take l.length) 0 (fun i x hx => by
        rw [List.getElem?_take] at hx
        split at hx
        · obtain ⟨cs, h3, h4⟩ := h2 i x hx
          rw [Flat.iff.1 h3] at h4
          simpa using h4
        · cases hx) j u hj
      simpa using this
    have hone : ∀ u ∈ (k.take l.length).flatMap Flat.enc, u.oneCell' = true := fun u hu => by obtain ⟨y, _, hy⟩ := List.mem_flatMap.1 hu; exact Flat.one y u hy
    have hlen2 : ((k.take l.length).flatMap Flat.enc).length = Nat.min k.length l.length * Enc.n α := by rw [Flat.flen, List.length_take, Nat.min_comm]
    have hfit : ((k.take l.length).flatMap Flat.enc).length ≤ cur.size := by
      rw [hlen2, hcs]
      exact Nat.mul_le_mul_right _ (Nat.le_trans (Nat.min_le_right _ _) hnc)
    have hrun := run_copy_rows (P := P) w dT sT ty e b l.length cap ⟨b2, off2, none⟩ k.length cap2 cur e ((k.take l.length).flatMap Flat.enc) (Enc.n α) ht (by simp [hi, hn]) hg hlen2 hsrc hfit hone
    refine vl rfl rfl (v := goInt (Nat.min k.length l.length)) (w' := w.setRow b ((k.take l.length).flatMap Flat.enc ++ cur.toList.drop ((k.take l.length).flatMap Flat.enc).length).toArray) (by simp only [execOp, resolve, invoke, Go.builtin, List.map_toArray, List.map_cons, List.map_nil, hs, hy, Sem.run_bind, Sem.run_pure, hrun, Result.andThen]) (cont _ _ ⟨rfl, rfl, rfl, by simp, fun k hk => setRow_other _ _ _ _ hk⟩ ?_)
    have hset := setRow_heap w b cur ((k.take l.length).flatMap Flat.enc ++ cur.toList.drop ((k.take l.length).flatMap Flat.enc).length).toArray e _ hg
    refine ⟨by rw [rcopy_len]; exact Flat.flen _ |>.trans (by rw [rcopy_len]), .inr ⟨b, cap, _, by rw [rcopy_len], hb, hset, by rw [rcopy_len]; exact hnc, hcm, ?_, ?_⟩⟩
    · simp only [List.size_toArray, List.length_append, List.length_drop, Array.length_toList]
      omega
    · rw [rcopy_len]
      simp only [List.toList_toArray]
      rw [List.take_append, List.take_of_length_le (by rw [hlen2]; exact Nat.mul_le_mul_right _ (Nat.min_le_right _ _)), rcopy, List.flatMap_append]
      congr 1
      have e1 : ((k.take l.length).flatMap Flat.enc).length = min l.length k.length * Enc.n α := by rw [Flat.flen, List.length_take]
      have e2 : cur.toList.take (l.length * Enc.n α) = l.flatMap Flat.enc := htk
      rw [e1, ← List.drop_take, e2, flat_drop]
      congr 1
      rcases Nat.le_total k.length l.length with h | h
      · rw [Nat.min_eq_right h]
      · rw [Nat.min_eq_left h, List.drop_of_length_le (Nat.le_refl _), List.drop_of_length_le h]
end
end Go.Md
