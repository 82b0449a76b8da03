/-
  A rule of a list and a fact. No condition.
-/
import Derived.Test.YtdimoehnkagghaaWalkA
import Derived.Test.YtdimoehnkagghaaMapw
namespace Go.Proofs.Ytdimoehnkagghaa
open Go Go.Md Go.RowKit
attribute [local irreducible] Go.wpList Go.Code.wp Go.Calls Go.Md.Rnd Go.Md.Mt
theorem kt3 : KT Try.prog 3 Int := KT.int Try.underlying3
theorem c38x {w0 : World} {x0 : Int} {a1 : Option Addr} {n1 c1 : Nat} :
    Calls Try.prog 38 [.int .i64 x0, .slice a1 n1 c1].toArray w0 (Ret fun v w' => v = .agg [.slice a1 n1 c1, .int .i64 x0].toArray ∧ Ext w0 w') := by
  refine entr (n := 8) Try.func38 rfl rfl rfl <| wp_seq <| rg <| sal ti54 fun b3 w1 hx1 hg1 hb1 => ?_
  refine nl <| wp_seq <| rg <| vl rfl rfl xmv <| vl rfl rfl xmv <| vl rfl rfl (xbdv (r := [.slice a1 n1 c1, .int .i64 x0]) ti54 sp54 (pc rfl (pc rfl pn)) rfl) <| sst rfl rfl rfl ti54 hb1 rfl rfl (ble rfl) fun w2 hch1 hb2 => ?_
  have k1 := Ext.chg hx1 hch1 (Nat.le_trans (Nat.le_refl _) hg1)
  have hb3 : Bx w2 b3 54 [.slice a1 n1 c1, .int .i64 x0] := hb2
  exact nl <| wp_ret <| rt rfl (.cell rfl rfl ti54 rfl (Bx.cs hb3) .nil) ⟨rfl, k1⟩
end Go.Proofs.Ytdimoehnkagghaa
