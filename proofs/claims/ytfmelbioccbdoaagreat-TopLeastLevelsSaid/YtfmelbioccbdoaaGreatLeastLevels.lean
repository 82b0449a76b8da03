/-
  TopLeastLevels returns true: speeds of matches are true just if they are right levels; the least ones are the least levels. No condition.
-/
import Derived.Test.YtfmelbioccbdoaaGreatRows
import Derived.Test.YtfmelbioccbdoaaGreatLeastLevelsQj
namespace Go.Proofs.YtfmelbioccbdoaaGreat
namespace TopLeastLevelsP
open Go Go.Md Go.ChangeShapes Go.WideShapes Go.ChangeAt Go.RowKit
set_option linter.unusedVariables false

theorem own : ownKnob Tryz.prog.godebug = none := by kernel_rfl

set_option maxRecDepth 100000 in
theorem lifted (os : Os) (started : os.Started) (H : Type) (enc : TypeId × Value → H) :
    ReturnsInHanded {} Tryz.checked os 7 .any (Rows.topLeastLevelsSpec.pre6 enc Tryz.prog Tryz.f7 Rows.topLeastLevelsRow.domain false) (Rows.topLeastLevelsSpec.post enc Tryz.prog Tryz.f7 false true false false) := by
  refine returnsInHanded_of_change (C := Tryz.checked) own started (by kernel_rfl) Tryz.func7
    (ChangeSpec.witness6 (enc := enc) (C := Tryz.checked) false ⟨#[], #[.agg #[.slice none 0 0], .slice none 0 0, .slice none 0 0, .int .u8 0], []⟩ 8 (by kernel_rfl) (by kernel_rfl) (by kernel_rfl) (by kernel_rfl)) ?_
  intro W base args ds gs before hval0 hW hcnd _
  have hval : ∀ (j : Nat) t v, Tryz.f7.params[j]? = some t → args[j]? = some v → Value.okWide Tryz.prog W .any base t v := hval0
  have hW' := hW
  obtain ⟨p, q, hA0, hV, hps, hfz, hnd⟩ := hW
  have hA : DataW.TrodAll enc Tryz.prog W 0 (fun _ => true) true Tryz.f7.params.toList args.toList ds p := hA0
  rw [Tryz.params7] at hA hval
  clear hA0 hval0
  obtain ⟨v0, vs0, d0, ds0, p0, q0, hargs, rfl, rfl, t0, hA⟩ := trodAll_cons hA
  obtain ⟨v1, vs1, d1, ds1, p1, q1, rfl, rfl, rfl, t1, hA⟩ := trodAll_cons hA
  obtain ⟨v2, vs2, d2, ds2, p2, q2, rfl, rfl, rfl, t2, hA⟩ := trodAll_cons hA
  obtain ⟨v3, vs3, d3, ds3, p3, q3, rfl, rfl, rfl, t3, hA⟩ := trodAll_cons hA
  obtain ⟨rfl, rfl, rfl⟩ := trodAll_nil hA
  obtain rfl : args = #[v0, v1, v2, v3] := by cases args; simp_all
  obtain ⟨x0, r0, g0⟩ := OpT.argA ot84 rfl Tryz.underlying84 rfl t0 (hval 0 _ v0 rfl rfl)
  obtain ⟨x1, r1, g1⟩ := OpT.arg1 ot78 rfl Tryz.underlying78 rfl t1 (hval 1 _ v1 rfl rfl)
  obtain ⟨x2, r2, g2⟩ := OpT.arg1 ot49 rfl Tryz.underlying49 rfl t2 (hval 2 _ v2 rfl rfl)
  obtain ⟨x3, r3, g3⟩ := OpT.arg1 ot5 rfl Tryz.underlying5 rfl t3 (hval 3 _ v3 rfl rfl)
  obtain ⟨_, rfl, rfl⟩ := r3
  refine (c7 (F := FF) (r := true) r0 r1 r2 (L4.topLeastLevels_true _ _ g2.1 g3)).mono fun e W' ⟨v, he, hv, hg⟩ => ?_
  subst he
  subst hv
  exact ⟨_, rfl, post_law (by kernel_rfl) (by kernel_rfl) hW' rfl hg rfl Tryz.underlying4 rfl⟩

set_option maxRecDepth 100000 in
theorem closed : joinedFacts Tryz.pinned.checked.prog 7 Tryz.f7 Rows.topLeastLevelsSpec Rows.topLeastLevelsRow = true := by
  unfold joinedFacts
  exact band (band (band (band (band (band (band (band (band (band (band (band (band (band (band (band (band (band (band (band (band (band (band (band (band (band (band (band (band (band (band (jf0) jf1) jf2) jf3) jf4) jf5) jf6) jf7) jf8) jf9) jf10) jf11) jf12) jf13) jf14) jf15) jf16) jf17) jf18) jf19) jf20) jf21) jf22) jf23) jf24) jf25) jf26) jf27) jf28) jf29) jf30) jf31

theorem over : Rows.topLeastLevelsRow.holds Tryz.pinned (OpenSpec.ofChange Rows.topLeastLevelsSpec) :=
  OpenClaim.holds_of_wide 7 Tryz.f7 rfl rfl rfl rfl rfl rfl rfl ⟨rfl, rfl, rfl, rfl, rfl⟩ rfl rfl rfl rfl rfl named Tryz.func7 closed
    (of_decide_eq_true (by kernel_rfl)) (by unfold Func.isWrapper; first | (rw [if_pos (by decide +kernel)]; kernel_rfl) | (rw [if_neg (by decide +kernel)]; exact ⟨rfl, rfl⟩))
    (fun os started H enc _ => lifted os started H enc)
end TopLeastLevelsP
theorem topLeastLevels_holds : Rows.TopLeastLevelsSaid := TopLeastLevelsP.over
#print axioms topLeastLevels_holds
end Go.Proofs.YtfmelbioccbdoaaGreat
