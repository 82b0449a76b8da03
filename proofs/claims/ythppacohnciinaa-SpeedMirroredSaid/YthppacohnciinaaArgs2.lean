/-
  How more types of the laws' arguments read. No condition: facts about the program's types.
-/
import Derived.Test.YthppacohnciinaaArgs
namespace Go.Md
open Go Go.RowKit
theorem OpT.ar {P : Program} {t e : TypeId} {m : Nat} {α : Type} [Enc α] [Flat α] {Rg : α → Prop} (ht : P.underlying t = some (.array m e)) (hn : P.cellsOf t = m * Enc.n α) (h : OpT P e α Rg) : OpT P t (Ar m α) (fun x => ∀ y ∈ x.l, Rg y) := ⟨hn, by
  intro H enc W sp held fuel cs x hx
  cases fuel with
  | zero => cases hx
  | succ fuel =>
    unfold DataW.trod at hx
    rw [ht] at hx
    simp only at hx
    split at hx
    case isFalse => cases hx
    rename_i hl
    obtain ⟨xs, hxs, _⟩ := Option.map_eq_some_iff.1 hx
    have build : ∀ j, j ≤ m → ∃ l : List α, l.length = j ∧ (∀ y ∈ l, Rg y) ∧ cs.take (j * Enc.n α) = l.flatMap Flat.enc := by
      intro j
      induction j with
      | zero => intro _; exact ⟨[], rfl, by simp, by simp⟩
      | succ j ih =>
        intro hj
        obtain ⟨l, h1, h2, h3⟩ := ih (by omega)
        obtain ⟨y, hy, _⟩ := mapM_at hxs j j (by simp [show j < m by omega])
        rw [h.n] at hy
        obtain ⟨a, ha, hr⟩ := h.run hy
        rw [Flat.iff] at ha
        refine ⟨l ++ [a], by simp [h1], fun z hz => ?_, ?_⟩
        · rcases List.mem_append.1 hz with hz | hz
          · exact h2 z hz
          · rw [List.mem_singleton.1 hz]; exact hr
        · rw [Nat.succ_mul, List.take_add, h3, ha]
          simp
    obtain ⟨l, h1, h2, h3⟩ := build m (Nat.le_refl _)
    refine ⟨⟨l, h1⟩, ?_, h2⟩
    show cs = _
    rw [← h3, List.take_of_length_le (by rw [hl, hn]; exact Nat.le_refl _)]⟩
theorem wf_u8 {x : Int} (h : (Lit.int .u8 x).wf = true) : 0 ≤ x ∧ x ≤ 255 := by
  simp only [Lit.wf, Bool.and_eq_true, decide_eq_true_eq] at h
  exact h
theorem wf_u16 {x : Int} (h : (Lit.int .u16 x).wf = true) : 0 ≤ x ∧ x ≤ 65535 := by
  simp only [Lit.wf, Bool.and_eq_true, decide_eq_true_eq] at h
  exact h
theorem wf_u32 {x : Int} (h : (Lit.int .u32 x).wf = true) : 0 ≤ x ∧ x ≤ 4294967295 := by
  simp only [Lit.wf, Bool.and_eq_true, decide_eq_true_eq] at h
  exact h
end Go.Md
namespace Go.Proofs.Ythppacohnciinaa
open Go Go.Md Go.RowKit
theorem ot4 : OpT Try.prog 4 Bool (fun _ => True) := OpT.bool Try.underlying4 (by kernel_rfl)
theorem ot5 : OpT Try.prog 5 (KI .u8) (fun x => (Lit.int .u8 x.v).wf = true) := OpT.ki Try.underlying5 (by kernel_rfl)
theorem ot62 : OpT Try.prog 62 (KI .u32) (fun x => (Lit.int .u32 x.v).wf = true) := OpT.ki Try.underlying62 (by kernel_rfl)
theorem ot98 : OpT Try.prog 98 (KI .u16) (fun x => (Lit.int .u16 x.v).wf = true) := OpT.ki Try.underlying98 (by kernel_rfl)
theorem ot49 : OpT Try.prog 49 (List (KI .u16)) (fun l => (∀ x ∈ l, (Lit.int .u16 x.v).wf = true) ∧ l.length ≤ maxLen) := OpT.sl Try.underlying49 (by kernel_rfl) rfl ot98
theorem ot72 : OpT Try.prog 72 (Ar 3 (KI .u8)) (fun x => ∀ y ∈ x.l, (Lit.int .u8 y.v).wf = true) := OpT.ar Try.underlying72 (by kernel_rfl) ot5
end Go.Proofs.Ythppacohnciinaa
