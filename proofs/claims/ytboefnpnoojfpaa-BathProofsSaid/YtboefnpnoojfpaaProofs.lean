/-
  BathProofs returns true: weights and mixtures are what the definitions say. No condition.
-/
import Derived.Test.YtboefnpnoojfpaaRows
import Derived.Test.YtboefnpnoojfpaaArgs
import Derived.Test.YtboefnpnoojfpaaWalkD
import Derived.Test.YtboefnpnoojfpaaSpecY
namespace Go.Proofs.Ytboefnpnoojfpaa
namespace BathProofsP
open Go Go.Md Go.ChangeShapes Go.WideShapes Go.ChangeAt Go.RowKit
set_option linter.unusedVariables false

theorem own : ownKnob Try.prog.godebug = none := by kernel_rfl

set_option maxRecDepth 100000 in
theorem lifted (os : Os) (started : os.Started) (H : Type) (enc : TypeId × Value → H) :
    ReturnsInHanded {} Try.checked os 9 .any (Rows.bathProofsSpec.pre6 enc Try.prog Try.f9 Rows.bathProofsRow.domain false) (Rows.bathProofsSpec.post enc Try.prog Try.f9 false true false false) := by
  refine returnsInHanded_of_change (C := Try.checked) own started (by kernel_rfl) Try.func9
    (ChangeSpec.witness6 (enc := enc) (C := Try.checked) false ⟨#[], #[.agg #[.slice none 0 0, .slice none 0 0], .slice none 0 0, .slice none 0 0, .slice none 0 0, .agg #[.slice none 0 0, .int .i64 0]], []⟩ 8 (by kernel_rfl) (by kernel_rfl) (by kernel_rfl) (by kernel_rfl)) ?_
  intro W base args ds gs before hval0 hW hcnd _
  have hval : ∀ (j : Nat) t v, Try.f9.params[j]? = some t → args[j]? = some v → Value.okWide Try.prog W .any base t v := hval0
  have hW' := hW
  obtain ⟨p, q, hA0, hV, hps, hfz, hnd⟩ := hW
  have hA : DataW.TrodAll enc Try.prog W 0 (fun _ => true) true Try.f9.params.toList args.toList ds p := hA0
  rw [Try.params9] at hA hval
  clear hA0 hval0
  obtain ⟨v0, vs0, d0, ds0, p0, q0, hargs, rfl, rfl, t0, hA⟩ := trodAll_cons hA
  obtain ⟨v1, vs1, d1, ds1, p1, q1, rfl, rfl, rfl, t1, hA⟩ := trodAll_cons hA
  obtain ⟨v2, vs2, d2, ds2, p2, q2, rfl, rfl, rfl, t2, hA⟩ := trodAll_cons hA
  obtain ⟨v3, vs3, d3, ds3, p3, q3, rfl, rfl, rfl, t3, hA⟩ := trodAll_cons hA
  obtain ⟨v4, vs4, d4, ds4, p4, q4, rfl, rfl, rfl, t4, hA⟩ := trodAll_cons hA
  obtain ⟨rfl, rfl, rfl⟩ := trodAll_nil hA
  obtain rfl : args = #[v0, v1, v2, v3, v4] := by cases args; simp_all
  obtain ⟨x0, r0, g0⟩ := OpT.argA ot25 rfl Try.underlying25 rfl t0 (hval 0 _ v0 rfl rfl)
  obtain ⟨x1, r1, g1⟩ := OpT.arg1 ot22 rfl Try.underlying22 rfl t1 (hval 1 _ v1 rfl rfl)
  obtain ⟨x2, r2, g2⟩ := OpT.arg1 ot22 rfl Try.underlying22 rfl t2 (hval 2 _ v2 rfl rfl)
  obtain ⟨x3, r3, g3⟩ := OpT.arg1 ot22 rfl Try.underlying22 rfl t3 (hval 3 _ v3 rfl rfl)
  obtain ⟨x4, r4, g4⟩ := OpT.argA ot62 rfl Try.underlying62 rfl t4 (hval 4 _ v4 rfl rfl)
  refine (c9 (F := FF) (r := true) r0 r1 r2 r3 r4 (proofs_law ffok works)).mono fun e W' ⟨v, he, hv, hg⟩ => ?_
  subst he
  subst hv
  exact ⟨_, rfl, post_law (by kernel_rfl) (by kernel_rfl) hW' rfl hg rfl Try.underlying4 rfl⟩

theorem over : Rows.bathProofsRow.holds Try.pinned (OpenSpec.ofChange Rows.bathProofsSpec) :=
  OpenClaim.holds_of_wide 9 Try.f9 rfl rfl rfl rfl rfl rfl rfl ⟨rfl, rfl, rfl, rfl, rfl⟩ rfl rfl rfl rfl rfl (by kernel_rfl) Try.func9 (by kernel_rfl)
    (of_decide_eq_true (by kernel_rfl)) (by unfold Func.isWrapper; first | (rw [if_pos (by decide +kernel)]; kernel_rfl) | (rw [if_neg (by decide +kernel)]; exact ⟨rfl, rfl⟩))
    (fun os started H enc _ => lifted os started H enc)
end BathProofsP
theorem bathProofs_holds : Rows.BathProofsSaid := BathProofsP.over
#print axioms bathProofs_holds
end Go.Proofs.Ytboefnpnoojfpaa
