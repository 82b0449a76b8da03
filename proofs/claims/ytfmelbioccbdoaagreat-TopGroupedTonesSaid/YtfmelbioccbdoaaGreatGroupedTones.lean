/-
  TopGroupedTones returns true: a short scale has as many steps as those of all groups together. No condition.
-/
import Derived.Test.YtfmelbioccbdoaaGreatRows
import Derived.Test.YtfmelbioccbdoaaGreatGroupedTonesQm
namespace Go.Proofs.YtfmelbioccbdoaaGreat
namespace TopGroupedTonesP
open Go Go.Md Go.ChangeShapes Go.WideShapes Go.ChangeAt Go.RowKit
set_option linter.unusedVariables false

theorem own : ownKnob Tryz.prog.godebug = none := by kernel_rfl

set_option maxRecDepth 100000 in
theorem lifted (os : Os) (started : os.Started) (H : Type) (enc : TypeId × Value → H) :
    ReturnsInHanded {} Tryz.checked os 13 .any (Rows.topGroupedTonesSpec.pre6 enc Tryz.prog Tryz.f13 Rows.topGroupedTonesRow.domain false) (Rows.topGroupedTonesSpec.post enc Tryz.prog Tryz.f13 false true false false) := by
  refine returnsInHanded_of_change (C := Tryz.checked) own started (by kernel_rfl) Tryz.func13
    (ChangeSpec.witness6 (enc := enc) (C := Tryz.checked) false ⟨#[], #[.slice none 0 0, .int .u8 0, .int .u8 0], []⟩ 8 (by kernel_rfl) (by kernel_rfl) (by kernel_rfl) (by kernel_rfl)) ?_
  intro W base args ds gs before hval0 hW hcnd _
  have hval : ∀ (j : Nat) t v, Tryz.f13.params[j]? = some t → args[j]? = some v → Value.okWide Tryz.prog W .any base t v := hval0
  have hW' := hW
  obtain ⟨p, q, hA0, hV, hps, hfz, hnd⟩ := hW
  have hA : DataW.TrodAll enc Tryz.prog W 0 (fun _ => true) true Tryz.f13.params.toList args.toList ds p := hA0
  rw [Tryz.params13] at hA hval
  clear hA0 hval0
  obtain ⟨v0, vs0, d0, ds0, p0, q0, hargs, rfl, rfl, t0, hA⟩ := trodAll_cons hA
  obtain ⟨v1, vs1, d1, ds1, p1, q1, rfl, rfl, rfl, t1, hA⟩ := trodAll_cons hA
  obtain ⟨v2, vs2, d2, ds2, p2, q2, rfl, rfl, rfl, t2, hA⟩ := trodAll_cons hA
  obtain ⟨rfl, rfl, rfl⟩ := trodAll_nil hA
  obtain rfl : args = #[v0, v1, v2] := by cases args; simp_all
  obtain ⟨x0, r0, g0⟩ := OpT.arg1 ARQ rfl Tryz.underlying32 rfl t0 (hval 0 _ v0 rfl rfl)
  obtain ⟨x1, r1, g1⟩ := OpT.arg1 ot5 rfl Tryz.underlying5 rfl t1 (hval 1 _ v1 rfl rfl)
  obtain ⟨_, rfl, rfl⟩ := r1
  obtain ⟨x2, r2, g2⟩ := OpT.arg1 ot5 rfl Tryz.underlying5 rfl t2 (hval 2 _ v2 rfl rfl)
  obtain ⟨_, rfl, rfl⟩ := r2
  refine (c13 (F := FF) (r := true) r0 (LG.ADt _ g1 g2)).mono fun e W' ⟨v, he, hv, hg⟩ => ?_
  subst he
  subst hv
  exact ⟨_, rfl, AL9 (by kernel_rfl) (by kernel_rfl) hW' rfl hg rfl Tryz.underlying4 rfl⟩

set_option maxRecDepth 100000 in
theorem closed : joinedFacts Tryz.pinned.checked.prog 13 Tryz.f13 Rows.topGroupedTonesSpec Rows.topGroupedTonesRow = true := by
  unfold joinedFacts
  exact band (band (band (band (band (band (band (band (band (band (band (band (band (band (band (band (band (band (band (band (band (band (band (band (band (band (band (band (band (band (band (jf0) jf1) jf2) jf3) jf4) jf5) jf6) jf7) jf8) jf9) AR7) AR8) AR9) ASA) ASB) ASC) ASD) ASE) ASF) ASG) ASH) ASI) ASJ) ASL) ASM) ASN) ASO) ASP) ASQ) ASR) ASS) ASU

theorem over : Rows.topGroupedTonesRow.holds Tryz.pinned (OpenSpec.ofChange Rows.topGroupedTonesSpec) :=
  OpenClaim.holds_of_wide 13 Tryz.f13 rfl rfl rfl rfl rfl rfl rfl ⟨rfl, rfl, rfl, rfl, rfl⟩ rfl rfl rfl rfl rfl named Tryz.func13 closed
    (of_decide_eq_true (by kernel_rfl)) (by unfold Func.isWrapper; first | (rw [if_pos (by decide +kernel)]; kernel_rfl) | (rw [if_neg (by decide +kernel)]; exact ⟨rfl, rfl⟩))
    (fun os started H enc _ => lifted os started H enc)
end TopGroupedTonesP
theorem topGroupedTones_holds : Rows.TopGroupedTonesSaid := TopGroupedTonesP.over
#print axioms topGroupedTones_holds
end Go.Proofs.YtfmelbioccbdoaaGreat
