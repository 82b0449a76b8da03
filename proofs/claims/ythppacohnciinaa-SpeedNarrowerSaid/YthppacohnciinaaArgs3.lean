/-
  A sheet that is read takes no more rules than memory holds. No condition: the form's own reach.
-/
import Derived.Test.YthppacohnciinaaArgs2
import Derived.SizedLaws
namespace Go.Proofs.Ythppacohnciinaa
open Go Go.Md Go.RowKit
theorem bytes56 : Try.prog.bytesOf 56 = 24 := by kernel_rfl
theorem trod_slice {P : Program} (u22 : P.underlying 22 = some (.slice 56)) (b56 : P.bytesOf 56 = 24) {H : Type} {enc : TypeId × Value → H} {W : World} {sp : Nat → Bool} {held : Bool} {fuel : Nat} {a : Option Addr} {len cap : Nat} {x : DataW H × List MemPlace} (h : DataW.trod enc P W 0 sp held fuel 22 [.slice a len cap] = some x) :
    len = 0 ∨ ∃ n ∈ DataW.weights P 22 x.1, len * 24 ≤ n := by
  cases fuel with
  | zero => cases h
  | succ fuel =>
    unfold DataW.trod at h
    rw [u22] at h
    cases a with
    | none =>
      by_cases h0 : len = 0
      · exact .inl h0
      · exfalso
        cases len with
        | zero => exact h0 rfl
        | succ len => cases h
    | some a =>
      right
      simp only at h
      split at h
      case isFalse => cases h
      obtain ⟨elems, hel, h2⟩ := Option.bind_eq_some_iff.1 h
      obtain ⟨rest, _, rfl⟩ := Option.map_eq_some_iff.1 h2
      have hlen : elems.length = len := by
        have : ∀ {l : List Nat} {r : List (DataW H × List MemPlace)} {f : Nat → Option (DataW H × List MemPlace)}, l.mapM f = some r → r.length = l.length := by
          intro l
          induction l with
          | nil => intro r f h; simp at h; subst h; rfl
          | cons a l ih =>
            intro r f h
            simp only [List.mapM_cons, Option.bind_eq_bind, Option.bind_eq_some_iff, Option.pure_def, Option.some.injEq] at h
            obtain ⟨y, _, ys, hys, rfl⟩ := h
            simp [ih hys]
        simpa using this hel
      refine ⟨(elems.length + rest.length) * 24, ?_, by rw [hlen]; exact Nat.mul_le_mul_right _ (Nat.le_add_right _ _)⟩
      simp [DataW.weights, u22, b56]
theorem sheet_weight {P : Program} {f0 f1 : Field} (u24 : P.underlying 24 = some (.struct #[f0, f1])) (t0 : f0.type = 3) (t1 : f1.type = 22) (o0 : f0.offset = 0) (o1 : f1.offset = 1) (c3 : P.cellsOf 3 = 1) (c22 : P.cellsOf 22 = 1) (u22 : P.underlying 22 = some (.slice 56)) (b56 : P.bytesOf 56 = 24) {H : Type} {enc : TypeId × Value → H} {W : World} {sp : Nat → Bool} {held : Bool} {v : Value} {d : DataW H} {ps : List MemPlace} {x : Int × List (Int × Int × Int)} (h : DataW.Trod enc P W 0 sp held 24 v d ps) (r : RV W v x) :
    x.2.length = 0 ∨ ∃ n ∈ DataW.weights P 24 d, x.2.length * 24 ≤ n := by
  obtain ⟨fuel, hf⟩ := h
  obtain ⟨_, rfl, ⟨_, _, rfl, rfl, ⟨a1, c1, rfl, p1, q5, e1⟩⟩⟩ := r
  have ec : (Value.agg [Value.int .i64 x.1, Value.slice a1 x.2.length c1].toArray).cells.toList = [Value.int .i64 x.1, Value.slice a1 x.2.length c1] := rfl
  have hf' : DataW.trod enc P W 0 sp held fuel 24 [Value.int .i64 x.1, Value.slice a1 x.2.length c1] = some (d, ps) := hf
  cases fuel with
  | zero => cases hf'
  | succ fuel =>
    unfold DataW.trod at hf'
    rw [u24] at hf'
    simp only at hf'
    split at hf'
    case isFalse => cases hf'
    obtain ⟨xs, hxs, e⟩ := Option.map_eq_some_iff.1 hf'
    simp only [List.mapM_cons, List.mapM_nil, t0, t1, o0, o1, c3, c22, Option.bind_eq_bind, Option.bind_eq_some_iff, Option.pure_def, Option.some.injEq] at hxs
    obtain ⟨y, _, zs, ⟨z, hz, _, rfl, rfl⟩, rfl⟩ := hxs
    cases e
    rcases trod_slice u22 b56 hz with h0 | ⟨n, hn, hle⟩
    · exact .inl h0
    · refine .inr ⟨n, ?_, hle⟩
      simp [DataW.weights, u24, DataW.weightsEach, t1, hn]
/-- A sheet of the arguments: so many rules at most. -/
theorem sheet_sized {H : Type} {enc : TypeId × Value → H} {W : World} {sp : Nat → Bool} {held : Bool} {v : Value} {ts : List TypeId} {ds : List (DataW H)} {d : DataW H} {ps : List MemPlace} {x : Int × List (Int × Int × Int)} (hsz : (DataW.weightsEach Try.prog ts ds).all (· ≤ reachBytes) = true)
    {j : Nat} (hj : ts[j]? = some 24) (hd : ds[j]? = some d) (h : DataW.Trod enc Try.prog W 0 sp held 24 v d ps) (r : RV W v x) : x.2.length * 24 ≤ 140737488351232 := by
  rcases sheet_weight Try.underlying24 rfl rfl rfl rfl (by kernel_rfl) (by kernel_rfl) Try.underlying22 bytes56 h r with h0 | ⟨n, hn, hle⟩
  · omega
  · have := List.all_eq_true.1 hsz n (DataW.weights_mem_each hj hd n hn)
    have : n ≤ 140737488351232 := of_decide_eq_true this
    omega
end Go.Proofs.Ythppacohnciinaa
