/-
  TopJoinedWords returns true: a longest passage of two MQ has at least as many words as pieces that follow each other by shared pairs. No condition.
-/
import Derived.Test.YtfmelbioccbdoaaGreatRows
import Derived.Test.YtfmelbioccbdoaaGreatJoinedWordsQl
namespace Go.Proofs.YtfmelbioccbdoaaGreat
namespace TopJoinedWordsP
open Go Go.Md Go.ChangeShapes Go.WideShapes Go.ChangeAt Go.RowKit
set_option linter.unusedVariables false

theorem own : ownKnob Tryz.prog.godebug = none := by kernel_rfl

set_option maxRecDepth 100000 in
theorem lifted (os : Os) (started : os.Started) (H : Type) (enc : TypeId × Value → H) :
    ReturnsInHanded {} Tryz.checked os 11 .any (Rows.topJoinedWordsSpec.pre6 enc Tryz.prog Tryz.f11 Rows.topJoinedWordsRow.domain false) (Rows.topJoinedWordsSpec.post enc Tryz.prog Tryz.f11 false true false false) := by
  refine returnsInHanded_of_change (C := Tryz.checked) own started (by kernel_rfl) Tryz.func11
    (ChangeSpec.witness6 (enc := enc) (C := Tryz.checked) false ⟨#[], #[.agg #[.slice none 0 0, .int .i64 0, .int .i64 0, .int .i64 0], .int .u16 0, .int .u16 0], []⟩ 8 (by kernel_rfl) (by kernel_rfl) (by kernel_rfl) (by kernel_rfl)) ?_
  intro W base args ds gs before hval0 hW hcnd _
  have hval : ∀ (j : Nat) t v, Tryz.f11.params[j]? = some t → args[j]? = some v → Value.okWide Tryz.prog W .any base t v := hval0
  have hW' := hW
  obtain ⟨p, q, hA0, hV, hps, hfz, hnd⟩ := hW
  have hA : DataW.TrodAll enc Tryz.prog W 0 (fun _ => true) true Tryz.f11.params.toList args.toList ds p := hA0
  rw [Tryz.params11] at hA hval
  clear hA0 hval0
  obtain ⟨v0, vs0, d0, ds0, p0, q0, hargs, rfl, rfl, t0, hA⟩ := trodAll_cons hA
  obtain ⟨v1, vs1, d1, ds1, p1, q1, rfl, rfl, rfl, t1, hA⟩ := trodAll_cons hA
  obtain ⟨v2, vs2, d2, ds2, p2, q2, rfl, rfl, rfl, t2, hA⟩ := trodAll_cons hA
  obtain ⟨rfl, rfl, rfl⟩ := trodAll_nil hA
  obtain rfl : args = #[v0, v1, v2] := by cases args; simp_all
  obtain ⟨x0, r0, g0⟩ := OpT.argA wO rfl Tryz.underlying48 rfl t0 (hval 0 _ v0 rfl rfl)
  obtain ⟨x1, r1, g1⟩ := OpT.arg1 mW rfl Tryz.underlying33 rfl t1 (hval 1 _ v1 rfl rfl)
  obtain ⟨_, rfl, rfl⟩ := r1
  obtain ⟨x2, r2, g2⟩ := OpT.arg1 mW rfl Tryz.underlying33 rfl t2 (hval 2 _ v2 rfl rfl)
  obtain ⟨_, rfl, rfl⟩ := r2
  refine (Vw (F := FF) (r := true) r0 (LW.Oy _ g1 g2)).mono fun e W' ⟨v, he, hv, hg⟩ => ?_
  subst he
  subst hv
  exact ⟨_, rfl, eB (by kernel_rfl) (by kernel_rfl) hW' rfl hg rfl Tryz.underlying4 rfl⟩

set_option maxRecDepth 100000 in
theorem closed : joinedFacts Tryz.pinned.checked.prog 11 Tryz.f11 Rows.topJoinedWordsSpec Rows.topJoinedWordsRow = true := by
  unfold joinedFacts
  exact band (band (band (band (band (band (band (band (band (band (band (band (band (band (band (band (band (band (band (band (band (band (band (band (band (band (band (band (band (band (band (zS) zU) zV) zW) zX) zY) zZ) ze) zf) zi) yG) yH) yI) yJ) yK) yL) yM) yN) yO) yP) yQ) yR) yS) yT) yU) yV) yX) yY) yZ) yc) yg) yj

theorem over : Rows.topJoinedWordsRow.holds Tryz.pinned (OpenSpec.ofChange Rows.topJoinedWordsSpec) :=
  OpenClaim.holds_of_wide 11 Tryz.f11 rfl rfl rfl rfl rfl rfl rfl ⟨rfl, rfl, rfl, rfl, rfl⟩ rfl rfl rfl rfl rfl named Tryz.func11 closed
    (of_decide_eq_true (by kernel_rfl)) (by unfold Func.isWrapper; first | (rw [if_pos (by decide +kernel)]; kernel_rfl) | (rw [if_neg (by decide +kernel)]; exact ⟨rfl, rfl⟩))
    (fun os started H enc _ => lifted os started H enc)
end TopJoinedWordsP
theorem topJoinedWords_holds : Rows.TopJoinedWordsSaid := TopJoinedWordsP.over
#print axioms topJoinedWords_holds
end Go.Proofs.YtfmelbioccbdoaaGreat
