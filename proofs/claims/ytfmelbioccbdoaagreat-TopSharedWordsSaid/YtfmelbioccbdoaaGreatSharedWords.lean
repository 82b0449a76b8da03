/-
  TopSharedWords returns true: a pair that all MR share is in a longest passage, or not at all. No condition.
-/
import Derived.Test.YtfmelbioccbdoaaGreatRows
import Derived.Test.YtfmelbioccbdoaaGreatSharedWordsQk
namespace Go.Proofs.YtfmelbioccbdoaaGreat
namespace TopSharedWordsP
open Go Go.Md Go.ChangeShapes Go.WideShapes Go.ChangeAt Go.RowKit
set_option linter.unusedVariables false

theorem own : ownKnob Tryz.prog.godebug = none := by kernel_rfl

set_option maxRecDepth 100000 in
theorem lifted (os : Os) (started : os.Started) (H : Type) (enc : TypeId × Value → H) :
    ReturnsInHanded {} Tryz.checked os 6 .any (Rows.topSharedWordsSpec.pre6 enc Tryz.prog Tryz.f6 Rows.topSharedWordsRow.domain false) (Rows.topSharedWordsSpec.post enc Tryz.prog Tryz.f6 false true false false) := by
  refine returnsInHanded_of_change (C := Tryz.checked) own started (by kernel_rfl) Tryz.func6
    (ChangeSpec.witness6 (enc := enc) (C := Tryz.checked) false ⟨#[], #[.agg #[.slice none 0 0, .int .i64 0, .int .i64 0, .int .i64 0], .agg #[.int .u32 0, .int .u32 0, .int .u32 0, .int .u32 0], .int .u8 0, .int .u8 0], []⟩ 8 (by kernel_rfl) (by kernel_rfl) (by kernel_rfl) (by kernel_rfl)) ?_
  intro W base args ds gs before hval0 hW hcnd _
  have hval : ∀ (j : Nat) t v, Tryz.f6.params[j]? = some t → args[j]? = some v → Value.okWide Tryz.prog W .any base t v := hval0
  have hW' := hW
  obtain ⟨p, q, hA0, hV, hps, hfz, hnd⟩ := hW
  have hA : DataW.TrodAll enc Tryz.prog W 0 (fun _ => true) true Tryz.f6.params.toList args.toList ds p := hA0
  rw [Tryz.params6] at hA hval
  clear hA0 hval0
  obtain ⟨v0, vs0, d0, ds0, p0, q0, hargs, rfl, rfl, t0, hA⟩ := trodAll_cons hA
  obtain ⟨v1, vs1, d1, ds1, p1, q1, rfl, rfl, rfl, t1, hA⟩ := trodAll_cons hA
  obtain ⟨v2, vs2, d2, ds2, p2, q2, rfl, rfl, rfl, t2, hA⟩ := trodAll_cons hA
  obtain ⟨v3, vs3, d3, ds3, p3, q3, rfl, rfl, rfl, t3, hA⟩ := trodAll_cons hA
  obtain ⟨rfl, rfl, rfl⟩ := trodAll_nil hA
  obtain rfl : args = #[v0, v1, v2, v3] := by cases args; simp_all
  obtain ⟨x0, r0, g0⟩ := OpT.argA wN rfl Tryz.underlying48 rfl t0 (hval 0 _ v0 rfl rfl)
  obtain ⟨x1, r1, g1⟩ := OpT.argA wP rfl Tryz.underlying72 rfl t1 (hval 1 _ v1 rfl rfl)
  obtain ⟨x2, r2, g2⟩ := OpT.arg1 uL rfl Tryz.underlying5 rfl t2 (hval 2 _ v2 rfl rfl)
  obtain ⟨_, rfl, rfl⟩ := r2
  obtain ⟨x3, r3, g3⟩ := OpT.arg1 uL rfl Tryz.underlying5 rfl t3 (hval 3 _ v3 rfl rfl)
  obtain ⟨_, rfl, rfl⟩ := r3
  refine (c6 (F := FF) (r := true) r0 r1 (L4.PX _ g1 g2 g3)).mono fun e W' ⟨v, he, hv, hg⟩ => ?_
  subst he
  subst hv
  exact ⟨_, rfl, eY (by kernel_rfl) (by kernel_rfl) hW' rfl hg rfl Tryz.underlying4 rfl⟩

set_option maxRecDepth 100000 in
theorem closed : joinedFacts Tryz.pinned.checked.prog 6 Tryz.f6 Rows.topSharedWordsSpec Rows.topSharedWordsRow = true := by
  unfold joinedFacts
  exact band (band (band (band (band (band (band (band (band (band (band (band (band (band (band (band (band (band (band (band (band (band (band (band (band (band (band (band (band (band (band (zW) zX) zY) zZ) ze) zf) zi) zk) zm) zn) yI) yJ) yK) yL) yM) yN) yO) yP) yQ) yR) yS) yT) yU) yV) yX) yY) yZ) yc) yg) yj) yo) yu

theorem over : Rows.topSharedWordsRow.holds Tryz.pinned (OpenSpec.ofChange Rows.topSharedWordsSpec) :=
  OpenClaim.holds_of_wide 6 Tryz.f6 rfl rfl rfl rfl rfl rfl rfl ⟨rfl, rfl, rfl, rfl, rfl⟩ rfl rfl rfl rfl rfl named Tryz.func6 closed
    (of_decide_eq_true (by kernel_rfl)) (by unfold Func.isWrapper; first | (rw [if_pos (by decide +kernel)]; kernel_rfl) | (rw [if_neg (by decide +kernel)]; exact ⟨rfl, rfl⟩))
    (fun os started H enc _ => lifted os started H enc)
end TopSharedWordsP
theorem topSharedWords_holds : Rows.TopSharedWordsSaid := TopSharedWordsP.over
#print axioms topSharedWords_holds
end Go.Proofs.YtfmelbioccbdoaaGreat
