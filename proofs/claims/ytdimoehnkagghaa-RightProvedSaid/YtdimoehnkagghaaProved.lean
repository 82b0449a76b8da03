/-
  RightProved returns true: the most grants and the conflicts that are found prove each other. No condition.
-/
import Derived.Test.YtdimoehnkagghaaRows
import Derived.Test.YtdimoehnkagghaaArgs
import Derived.Test.YtdimoehnkagghaaWalkP
import Derived.Test.YtdimoehnkagghaaLawU
import Derived.Test.YtdimoehnkagghaaWorks
namespace Go.Proofs.Ytdimoehnkagghaa
namespace RightProvedP
open Go Go.Md Go.ChangeShapes Go.WideShapes Go.ChangeAt Go.RowKit
set_option linter.unusedVariables false

theorem own : ownKnob Try.prog.godebug = none := by kernel_rfl

set_option maxRecDepth 100000 in
theorem lifted (os : Os) (started : os.Started) (H : Type) (enc : TypeId × Value → H) :
    ReturnsInHanded {} Try.checked os 9 .any (Rows.rightProvedSpec.pre6 enc Try.prog Try.f9 Rows.rightProvedRow.domain false) (Rows.rightProvedSpec.post enc Try.prog Try.f9 false true false false) := by
  refine returnsInHanded_of_change (C := Try.checked) own started (by kernel_rfl) Try.func9
    (ChangeSpec.witness6 (enc := enc) (C := Try.checked) false ⟨#[], #[.agg #[.int .i64 0, .slice none 0 0, .slice none 0 0, .slice none 0 0, .slice none 0 0], .int .u16 0, .slice none 0 0], []⟩ 8 (by kernel_rfl) (by kernel_rfl) (by kernel_rfl) (by kernel_rfl)) ?_
  intro W base args ds gs before hval0 hW hcnd _
  have hval : ∀ (j : Nat) t v, Try.f9.params[j]? = some t → args[j]? = some v → Value.okWide Try.prog W .any base t v := hval0
  have hW' := hW
  obtain ⟨p, q, hA0, hV, hps, hfz, hnd⟩ := hW
  have hA : DataW.TrodAll enc Try.prog W 0 (fun _ => true) true Try.f9.params.toList args.toList ds p := hA0
  rw [Try.params9] at hA hval
  clear hA0 hval0
  obtain ⟨v0, vs0, d0, ds0, p0, q0, hargs, rfl, rfl, t0, hA⟩ := trodAll_cons hA
  obtain ⟨v1, vs1, d1, ds1, p1, q1, rfl, rfl, rfl, t1, hA⟩ := trodAll_cons hA
  obtain ⟨v2, vs2, d2, ds2, p2, q2, rfl, rfl, rfl, t2, hA⟩ := trodAll_cons hA
  obtain ⟨rfl, rfl, rfl⟩ := trodAll_nil hA
  obtain rfl : args = #[v0, v1, v2] := by cases args; simp_all
  obtain ⟨x0, r0, g0⟩ := OpT.argA ot26 rfl Try.underlying26 rfl t0 (hval 0 _ v0 rfl rfl)
  obtain ⟨x1, r1, g1⟩ := OpT.arg1 ot46 rfl Try.underlying46 rfl t1 (hval 1 _ v1 rfl rfl)
  obtain ⟨_, rfl, rfl⟩ := r1
  obtain ⟨x2, r2, g2⟩ := OpT.arg1 ot58 rfl Try.underlying58 rfl t2 (hval 2 _ v2 rfl rfl)
  refine (c9 (F := FF) (r := true) r0 r2 (proved_law ffok works g1 g2.1)).mono fun e W' ⟨v, he, hv, hg⟩ => ?_
  subst he
  subst hv
  exact ⟨_, rfl, post_law (by kernel_rfl) (by kernel_rfl) hW' rfl hg rfl Try.underlying4 rfl⟩

theorem over : Rows.rightProvedRow.holds Try.pinned (OpenSpec.ofChange Rows.rightProvedSpec) :=
  OpenClaim.holds_of_wide 9 Try.f9 rfl rfl rfl rfl rfl rfl rfl ⟨rfl, rfl, rfl, rfl, rfl⟩ rfl rfl rfl rfl rfl (by kernel_rfl) Try.func9 (by kernel_rfl)
    (of_decide_eq_true (by kernel_rfl)) (by unfold Func.isWrapper; first | (rw [if_pos (by decide +kernel)]; kernel_rfl) | (rw [if_neg (by decide +kernel)]; exact ⟨rfl, rfl⟩))
    (fun os started H enc _ => lifted os started H enc)
end RightProvedP
theorem rightProved_holds : Rows.RightProvedSaid := RightProvedP.over
#print axioms rightProved_holds
end Go.Proofs.Ytdimoehnkagghaa
