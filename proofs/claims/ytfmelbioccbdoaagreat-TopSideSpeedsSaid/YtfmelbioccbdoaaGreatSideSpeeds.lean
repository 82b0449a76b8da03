/-
  TopSideSpeeds returns true: names are turns, and spans of speeds tell what all cheapest sides have. No condition.
-/
import Derived.Test.YtfmelbioccbdoaaGreatRows
import Derived.Test.YtfmelbioccbdoaaGreatSideSpeedsQn
namespace Go.Proofs.YtfmelbioccbdoaaGreat
namespace TopSideSpeedsP
open Go Go.Md Go.ChangeShapes Go.WideShapes Go.ChangeAt Go.RowKit
set_option linter.unusedVariables false

theorem own : ownKnob Tryz.prog.godebug = none := by kernel_rfl

set_option maxRecDepth 100000 in
theorem lifted (os : Os) (started : os.Started) (H : Type) (enc : TypeId × Value → H) :
    ReturnsInHanded {} Tryz.checked os 12 .any (Rows.topSideSpeedsSpec.pre6 enc Tryz.prog Tryz.f12 Rows.topSideSpeedsRow.domain false) (Rows.topSideSpeedsSpec.post enc Tryz.prog Tryz.f12 false true false false) := by
  refine returnsInHanded_of_change (C := Tryz.checked) own started (by kernel_rfl) Tryz.func12
    (ChangeSpec.witness6 (enc := enc) (C := Tryz.checked) false ⟨#[], #[.agg #[.int .i64 0, .slice none 0 0, .slice none 0 0, .slice none 0 0]], []⟩ 8 (by kernel_rfl) (by kernel_rfl) (by kernel_rfl) (by kernel_rfl)) ?_
  intro W base args ds gs before hval0 hW hcnd _
  have hval : ∀ (j : Nat) t v, Tryz.f12.params[j]? = some t → args[j]? = some v → Value.okWide Tryz.prog W .any base t v := hval0
  have hW' := hW
  obtain ⟨p, q, hA0, hV, hps, hfz, hnd⟩ := hW
  have hA : DataW.TrodAll enc Tryz.prog W 0 (fun _ => true) true Tryz.f12.params.toList args.toList ds p := hA0
  rw [Tryz.params12] at hA hval
  clear hA0 hval0
  obtain ⟨v0, vs0, d0, ds0, p0, q0, hargs, rfl, rfl, t0, hA⟩ := trodAll_cons hA
  obtain ⟨rfl, rfl, rfl⟩ := trodAll_nil hA
  obtain rfl : args = #[v0] := by cases args; simp_all
  obtain ⟨x0, r0, g0⟩ := OpT.argA ASc rfl Tryz.underlying137 rfl t0 (hval 0 _ v0 rfl rfl)
  refine (c12 (F := FF) (r := true) r0 (LS.AGA _)).mono fun e W' ⟨v, he, hv, hg⟩ => ?_
  subst he
  subst hv
  exact ⟨_, rfl, ANn (by kernel_rfl) (by kernel_rfl) hW' rfl hg rfl Tryz.underlying4 rfl⟩

set_option maxRecDepth 100000 in
theorem closed : joinedFacts Tryz.pinned.checked.prog 12 Tryz.f12 Rows.topSideSpeedsSpec Rows.topSideSpeedsRow = true := by
  unfold joinedFacts
  exact band (band (band (band (band (band (band (band (band (band (band (band (band (band (band (band (band (band (band (band (band (band (band (band (band (band (band (band (band (band (band (jf0) jf1) jf2) jf3) jf4) jf5) jf6) jf7) jf8) jf9) AUb) AUc) AUd) AUe) AUf) AUg) AUh) AUi) AUj) AUk) AUl) AUm) AUn) AUo) AUp) AUq) AUr) AUs) AUt) AUu) AUv) AUw

theorem over : Rows.topSideSpeedsRow.holds Tryz.pinned (OpenSpec.ofChange Rows.topSideSpeedsSpec) :=
  OpenClaim.holds_of_wide 12 Tryz.f12 rfl rfl rfl rfl rfl rfl rfl ⟨rfl, rfl, rfl, rfl, rfl⟩ rfl rfl rfl rfl rfl named Tryz.func12 closed
    (of_decide_eq_true (by kernel_rfl)) (by unfold Func.isWrapper; first | (rw [if_pos (by decide +kernel)]; kernel_rfl) | (rw [if_neg (by decide +kernel)]; exact ⟨rfl, rfl⟩))
    (fun os started H enc _ => lifted os started H enc)
end TopSideSpeedsP
theorem topSideSpeeds_holds : Rows.TopSideSpeedsSaid := TopSideSpeedsP.over
#print axioms topSideSpeeds_holds
end Go.Proofs.YtfmelbioccbdoaaGreat
