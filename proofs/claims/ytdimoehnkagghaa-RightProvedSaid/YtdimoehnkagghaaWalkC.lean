/-
  Each function of the program returns what its pure function computes, and leaves all memory that was there as it was. Condition: the pure function computes something.
-/
import Derived.Test.YtdimoehnkagghaaFacts
import Derived.Test.YtdimoehnkagghaaPureC
import Derived.Test.YtdimoehnkagghaaWalkB
import Derived.Test.YtdimoehnkagghaaManC
namespace Go.Proofs.Ytdimoehnkagghaa
open Go Go.Md Go.RowKit
attribute [local irreducible] Go.wpList Go.Code.wp Go.Calls Go.Md.Rnd Go.Md.Mt Go.Md.MtM Go.Md.RndM Go.Code.wpIn

set_option maxHeartbeats 4000000 in
theorem c39 {w0 : World}  {r : (Int × (List Int) × (List ((List Int) × Int)) × (List ((List Int) × Int)) × (List (List Int)))} (hF : law10_Book = some r) :
    Calls Try.prog 39 [].toArray w0 (Ret fun v w' => ∃ u0 : Value, v = u0 ∧ RV w' u0 r ∧ Ext w0 w') := by
  unfold law10_Book at hF
  refine entr (n := 15) Try.func39 rfl rfl rfl <| wp_seq <| rg <| sal ti26 fun b1 w1 hx1 hg1 hb1 => ?_
  refine nl <| wp_seq <| rg <| sbsv (cs := [.int .i64 0, .int .i64 3]) Try.underlying22 ti3 rfl (pc rfl (pc rfl pn)) rfl rfl rfl rfl rfl fun b2 w2 hx2 hg2 hb2 => ?_
  have k1 := hx1.tr hx2
  have hb3 := hb1.ext hx2
  have o1 : Row (α := Int) 3 w1.heap.size w2 (.slice (some ⟨b2, 0, none⟩) 2 2) [0, 3] := Row.lit hg2 hb2 rfl (ble rfl)
  refine sbsv (cs := [.int .i64 1]) Try.underlying22 ti3 rfl (pc rfl pn) rfl rfl rfl rfl rfl fun b3 w3 hx3 hg3 hb4 => ?_
  have k2 := k1.tr hx3
  have k3 := hx2.tr hx3
  have hb5 := hb3.ext hx3
  have o2 := o1.ext hx3
  have o3 : Row (α := Int) 3 w2.heap.size w3 (.slice (some ⟨b3, 0, none⟩) 1 1) [1] := Row.lit hg3 hb4 rfl (ble rfl)
  refine cl rfl rfl (xc cb38 (mc rfl (mc rfl mn))) c38x ?_
  rintro _ w4 ⟨rfl, hx4⟩
  have k4 := k2.tr hx4
  have k5 := k3.tr hx4
  have k6 := hx3.tr hx4
  have hb6 := hb5.ext hx4
  have o4 := o2.ext hx4
  have o5 := o3.ext hx4
  refine sbsv (cs := [.slice (some ⟨b3, 0, none⟩) ([1] : List Int).length 1, .int .i64 2]) Try.underlying23 ti54 rfl (pc rfl pn) rfl rfl rfl rfl rfl fun b4 w5 hx5 hg4 hb7 => ?_
  have k7 := k4.tr hx5
  have k8 := k5.tr hx5
  have k9 := k6.tr hx5
  have hb8 := hb6.ext hx5
  have o6 := o4.ext hx5
  have o7 := o5.ext hx5
  have r3 : RV w5 (.slice (some ⟨b4, 0, none⟩) 1 1) ([(([1] : List Int), 2)] : List ((List Int) × Int)) := RV.lit hb7 (css := [[.slice (some ⟨b3, 0, none⟩) ([1] : List Int).length 1] ++ [.int .i64 2]]) rfl ⟨⟨[.slice (some ⟨b3, 0, none⟩) ([1] : List Int).length 1], [.int .i64 2], rfl, o7.rv.rep1, rfl⟩, trivial⟩ rfl (ble rfl)
  refine sbsv (cs := [.int .i64 0]) Try.underlying22 ti3 rfl (pc rfl pn) rfl rfl rfl rfl rfl fun b5 w6 hx6 hg5 hb9 => ?_
  have k10 := k7.tr hx6
  have k11 := k8.tr hx6
  have k12 := k9.tr hx6
  have k13 := hx5.tr hx6
  have hb10 := hb8.ext hx6
  have o8 := o6.ext hx6
  have r4 := r3.ext hx6
  have hb11 := hb7.ext hx6
  have o9 := o7.ext hx6
  have o10 : Row (α := Int) 3 w5.heap.size w6 (.slice (some ⟨b5, 0, none⟩) 1 1) [0] := Row.lit hg5 hb9 rfl (ble rfl)
  refine cl rfl rfl (xc cb38 (mc rfl (mc rfl mn))) c38x ?_
  rintro _ w7 ⟨rfl, hx7⟩
  have k14 := k10.tr hx7
  have k15 := k11.tr hx7
  have k16 := k12.tr hx7
  have k17 := k13.tr hx7
  have k18 := hx6.tr hx7
  have hb12 := hb10.ext hx7
  have o11 := o8.ext hx7
  have r6 := r4.ext hx7
  have hb13 := hb11.ext hx7
  have o12 := o9.ext hx7
  have o13 := o10.ext hx7
  refine sbsv (cs := [.int .i64 0]) Try.underlying22 ti3 rfl (pc rfl pn) rfl rfl rfl rfl rfl fun b6 w8 hx8 hg6 hb14 => ?_
  have k19 := k14.tr hx8
  have k20 := k15.tr hx8
  have k21 := k16.tr hx8
  have k22 := k17.tr hx8
  have k23 := k18.tr hx8
  have hb15 := hb12.ext hx8
  have o14 := o11.ext hx8
  have r7 := r6.ext hx8
  have hb16 := hb13.ext hx8
  have o15 := o12.ext hx8
  have o16 := o13.ext hx8
  have o17 : Row (α := Int) 3 w7.heap.size w8 (.slice (some ⟨b6, 0, none⟩) 1 1) [0] := Row.lit hg6 hb14 rfl (ble rfl)
  refine cl rfl rfl (xc cb38 (mc rfl (mc rfl mn))) c38x ?_
  rintro _ w9 ⟨rfl, hx9⟩
  have k24 := k19.tr hx9
  have k25 := k20.tr hx9
  have k26 := k21.tr hx9
  have k27 := k22.tr hx9
  have k28 := k23.tr hx9
  have k29 := hx8.tr hx9
  have hb17 := hb15.ext hx9
  have o18 := o14.ext hx9
  have r9 := r7.ext hx9
  have hb18 := hb16.ext hx9
  have o19 := o15.ext hx9
  have o20 := o16.ext hx9
  have o21 := o17.ext hx9
  refine sbsv (cs := [.int .i64 0, .int .i64 4]) Try.underlying22 ti3 rfl (pc rfl (pc rfl pn)) rfl rfl rfl rfl rfl fun b7 w10 hx10 hg7 hb19 => ?_
  have k30 := k24.tr hx10
  have k31 := k25.tr hx10
  have k32 := k26.tr hx10
  have k33 := k27.tr hx10
  have k34 := k28.tr hx10
  have k35 := k29.tr hx10
  have hb20 := hb17.ext hx10
  have o22 := o18.ext hx10
  have r10 := r9.ext hx10
  have hb21 := hb18.ext hx10
  have o23 := o19.ext hx10
  have o24 := o20.ext hx10
  have o25 := o21.ext hx10
  have o26 : Row (α := Int) 3 w9.heap.size w10 (.slice (some ⟨b7, 0, none⟩) 2 2) [0, 4] := Row.lit hg7 hb19 rfl (ble rfl)
  refine cl rfl rfl (xc cb38 (mc rfl (mc rfl mn))) c38x ?_
  rintro _ w11 ⟨rfl, hx11⟩
  have k36 := k30.tr hx11
  have k37 := k31.tr hx11
  have k38 := k32.tr hx11
  have k39 := k33.tr hx11
  have k40 := k34.tr hx11
  have k41 := k35.tr hx11
  have k42 := hx10.tr hx11
  have hb22 := hb20.ext hx11
  have o27 := o22.ext hx11
  have r12 := r10.ext hx11
  have hb23 := hb21.ext hx11
  have o28 := o23.ext hx11
  have o29 := o24.ext hx11
  have o30 := o25.ext hx11
  have o31 := o26.ext hx11
  refine sbsv (cs := [.slice (some ⟨b5, 0, none⟩) ([0] : List Int).length 1, .int .i64 1, .slice (some ⟨b6, 0, none⟩) ([0] : List Int).length 1, .int .i64 4, .slice (some ⟨b7, 0, none⟩) ([0, 4] : List Int).length 2, .int .i64 2]) Try.underlying23 ti54 rfl (pc rfl (pc rfl (pc rfl pn))) rfl rfl rfl rfl rfl fun b8 w12 hx12 hg8 hb24 => ?_
  have k43 := k36.tr hx12
  have k44 := k37.tr hx12
  have k45 := k38.tr hx12
  have k46 := k39.tr hx12
  have k47 := k40.tr hx12
  have k48 := k41.tr hx12
  have k49 := k42.tr hx12
  have hb25 := hb22.ext hx12
  have o32 := o27.ext hx12
  have r14 := r12.ext hx12
  have hb26 := hb23.ext hx12
  have o33 := o28.ext hx12
  have o34 := o29.ext hx12
  have o35 := o30.ext hx12
  have o36 := o31.ext hx12
  have r13 : RV w12 (.slice (some ⟨b8, 0, none⟩) 3 3) ([(([0] : List Int), 1), (([0] : List Int), 4), (([0, 4] : List Int), 2)] : List ((List Int) × Int)) := RV.lit hb24 (css := [[.slice (some ⟨b5, 0, none⟩) ([0] : List Int).length 1] ++ [.int .i64 1], [.slice (some ⟨b6, 0, none⟩) ([0] : List Int).length 1] ++ [.int .i64 4], [.slice (some ⟨b7, 0, none⟩) ([0, 4] : List Int).length 2] ++ [.int .i64 2]]) rfl ⟨⟨[.slice (some ⟨b5, 0, none⟩) ([0] : List Int).length 1], [.int .i64 1], rfl, o34.rv.rep1, rfl⟩, ⟨[.slice (some ⟨b6, 0, none⟩) ([0] : List Int).length 1], [.int .i64 4], rfl, o35.rv.rep1, rfl⟩, ⟨[.slice (some ⟨b7, 0, none⟩) ([0, 4] : List Int).length 2], [.int .i64 2], rfl, o36.rv.rep1, rfl⟩, trivial⟩ rfl (ble rfl)
  refine sbsv (cs := [.int .i64 2, .int .i64 3]) Try.underlying22 ti3 rfl (pc rfl (pc rfl pn)) rfl rfl rfl rfl rfl fun b9 w13 hx13 hg9 hb27 => ?_
  have k50 := k43.tr hx13
  have k51 := k44.tr hx13
  have k52 := k45.tr hx13
  have k53 := k46.tr hx13
  have k54 := k47.tr hx13
  have k55 := k48.tr hx13
  have k56 := k49.tr hx13
  have k57 := hx12.tr hx13
  have hb28 := hb25.ext hx13
  have o37 := o32.ext hx13
  have r15 := r14.ext hx13
  have hb29 := hb26.ext hx13
  have o38 := o33.ext hx13
  have r16 := r13.ext hx13
  have hb30 := hb24.ext hx13
  have o39 := o34.ext hx13
  have o40 := o35.ext hx13
  have o41 := o36.ext hx13
  have o42 : Row (α := Int) 3 w12.heap.size w13 (.slice (some ⟨b9, 0, none⟩) 2 2) [2, 3] := Row.lit hg9 hb27 rfl (ble rfl)
  refine sbsv (cs := [.slice (some ⟨b9, 0, none⟩) ([2, 3] : List Int).length 2]) Try.underlying24 ti22 rfl (pc rfl pn) rfl rfl rfl rfl rfl fun b10 w14 hx14 hg10 hb31 => ?_
  have k58 := k50.tr hx14
  have k59 := k51.tr hx14
  have k60 := k52.tr hx14
  have k61 := k53.tr hx14
  have k62 := k54.tr hx14
  have k63 := k55.tr hx14
  have k64 := k56.tr hx14
  have k65 := k57.tr hx14
  have k66 := hx13.tr hx14
  have hb32 := hb28.ext hx14
  have o43 := o37.ext hx14
  have r19 := r15.ext hx14
  have hb33 := hb29.ext hx14
  have o44 := o38.ext hx14
  have r20 := r16.ext hx14
  have hb34 := hb30.ext hx14
  have o45 := o39.ext hx14
  have o46 := o40.ext hx14
  have o47 := o41.ext hx14
  have o48 := o42.ext hx14
  have r18 : RV w14 (.slice (some ⟨b10, 0, none⟩) 1 1) ([([2, 3] : List Int)] : List (List Int)) := RV.lit hb31 (css := [[.slice (some ⟨b9, 0, none⟩) ([2, 3] : List Int).length 2]]) rfl ⟨o48.rv.rep1, trivial⟩ rfl (ble rfl)
  refine vl rfl rfl (xbdv (r := [.int .i64 5, .slice (some ⟨b2, 0, none⟩) ([0, 3] : List Int).length 2, .slice (some ⟨b4, 0, none⟩) ([(([1] : List Int), 2)] : List ((List Int) × Int)).length 1, .slice (some ⟨b8, 0, none⟩) ([(([0] : List Int), 1), (([0] : List Int), 4), (([0, 4] : List Int), 2)] : List ((List Int) × Int)).length 3, .slice (some ⟨b10, 0, none⟩) ([([2, 3] : List Int)] : List (List Int)).length 1]) ti26 sp26 (pc rfl (pc rfl (pc rfl (pc rfl (pc rfl pn))))) rfl) <| sst rfl rfl rfl ti26 hb32 rfl rfl (ble rfl) fun w15 hch1 hb35 => ?_
  have k67 := Ext.chg k58 hch1 (Nat.le_trans (Nat.le_refl _) hg1)
  have o49 := Row.chg o43 hch1 hb1.lt
  have hb36 := Bx.chg hb33 hch1 (Ne.symm (Nat.ne_of_lt (Nat.lt_of_lt_of_le hb6.lt hg4)))
  have o50 := Row.chg o44 hch1 (Nat.lt_of_lt_of_le hb1.lt hx2.size)
  have r21 : RV w15 (.slice (some ⟨b4, 0, none⟩) 1 1) ([(([1] : List Int), 2)] : List ((List Int) × Int)) := RV.lit hb36 (css := [[.slice (some ⟨b3, 0, none⟩) ([1] : List Int).length 1] ++ [.int .i64 2]]) rfl ⟨⟨[.slice (some ⟨b3, 0, none⟩) ([1] : List Int).length 1], [.int .i64 2], rfl, o50.rv.rep1, rfl⟩, trivial⟩ rfl (ble rfl)
  have hb37 := Bx.chg hb34 hch1 (Ne.symm (Nat.ne_of_lt (Nat.lt_of_lt_of_le hb22.lt hg8)))
  have o51 := Row.chg o45 hch1 (Nat.lt_of_lt_of_le hb1.lt k8.size)
  have o52 := Row.chg o46 hch1 (Nat.lt_of_lt_of_le hb1.lt k15.size)
  have o53 := Row.chg o47 hch1 (Nat.lt_of_lt_of_le hb1.lt k25.size)
  have r22 : RV w15 (.slice (some ⟨b8, 0, none⟩) 3 3) ([(([0] : List Int), 1), (([0] : List Int), 4), (([0, 4] : List Int), 2)] : List ((List Int) × Int)) := RV.lit hb37 (css := [[.slice (some ⟨b5, 0, none⟩) ([0] : List Int).length 1] ++ [.int .i64 1], [.slice (some ⟨b6, 0, none⟩) ([0] : List Int).length 1] ++ [.int .i64 4], [.slice (some ⟨b7, 0, none⟩) ([0, 4] : List Int).length 2] ++ [.int .i64 2]]) rfl ⟨⟨[.slice (some ⟨b5, 0, none⟩) ([0] : List Int).length 1], [.int .i64 1], rfl, o51.rv.rep1, rfl⟩, ⟨[.slice (some ⟨b6, 0, none⟩) ([0] : List Int).length 1], [.int .i64 4], rfl, o52.rv.rep1, rfl⟩, ⟨[.slice (some ⟨b7, 0, none⟩) ([0, 4] : List Int).length 2], [.int .i64 2], rfl, o53.rv.rep1, rfl⟩, trivial⟩ rfl (ble rfl)
  have hb38 := Bx.chg hb31 hch1 (Ne.symm (Nat.ne_of_lt (Nat.lt_of_lt_of_le hb28.lt hg10)))
  have o54 := Row.chg o48 hch1 (Nat.lt_of_lt_of_le hb1.lt k44.size)
  have r23 : RV w15 (.slice (some ⟨b10, 0, none⟩) 1 1) ([([2, 3] : List Int)] : List (List Int)) := RV.lit hb38 (css := [[.slice (some ⟨b9, 0, none⟩) ([2, 3] : List Int).length 2]]) rfl ⟨o54.rv.rep1, trivial⟩ rfl (ble rfl)
  have hb39 : Bx w15 b1 26 [.int .i64 5, .slice (some ⟨b2, 0, none⟩) ([0, 3] : List Int).length 2, .slice (some ⟨b4, 0, none⟩) ([(([1] : List Int), 2)] : List ((List Int) × Int)).length 1, .slice (some ⟨b8, 0, none⟩) ([(([0] : List Int), 1), (([0] : List Int), 4), (([0, 4] : List Int), 2)] : List ((List Int) × Int)).length 3, .slice (some ⟨b10, 0, none⟩) ([([2, 3] : List Int)] : List (List Int)).length 1] := hb35
  refine nl <| ?_
  cases hF
  exact wp_ret <| rt rfl (.cell rfl rfl ti26 rfl (Bx.cs hb39) .nil) ⟨_, rfl, (show RV (α := (Int × (List Int) × (List ((List Int) × Int)) × (List ((List Int) × Int)) × (List (List Int)))) _ (.agg [.int .i64 5, .slice (some ⟨b2, 0, none⟩) ([0, 3] : List Int).length 2, .slice (some ⟨b4, 0, none⟩) ([(([1] : List Int), 2)] : List ((List Int) × Int)).length 1, .slice (some ⟨b8, 0, none⟩) ([(([0] : List Int), 1), (([0] : List Int), 4), (([0, 4] : List Int), 2)] : List ((List Int) × Int)).length 3, .slice (some ⟨b10, 0, none⟩) ([([2, 3] : List Int)] : List (List Int)).length 1].toArray) (5, ([0, 3] : List Int), ([(([1] : List Int), 2)] : List ((List Int) × Int)), ([(([0] : List Int), 1), (([0] : List Int), 4), (([0, 4] : List Int), 2)] : List ((List Int) × Int)), ([([2, 3] : List Int)] : List (List Int))) from ⟨_, rfl, ⟨[.int .i64 5], [.slice (some ⟨b2, 0, none⟩) ([0, 3] : List Int).length 2] ++ ([.slice (some ⟨b4, 0, none⟩) ([(([1] : List Int), 2)] : List ((List Int) × Int)).length 1] ++ ([.slice (some ⟨b8, 0, none⟩) ([(([0] : List Int), 1), (([0] : List Int), 4), (([0, 4] : List Int), 2)] : List ((List Int) × Int)).length 3] ++ [.slice (some ⟨b10, 0, none⟩) ([([2, 3] : List Int)] : List (List Int)).length 1])), rfl, rfl, ⟨[.slice (some ⟨b2, 0, none⟩) ([0, 3] : List Int).length 2], [.slice (some ⟨b4, 0, none⟩) ([(([1] : List Int), 2)] : List ((List Int) × Int)).length 1] ++ ([.slice (some ⟨b8, 0, none⟩) ([(([0] : List Int), 1), (([0] : List Int), 4), (([0, 4] : List Int), 2)] : List ((List Int) × Int)).length 3] ++ [.slice (some ⟨b10, 0, none⟩) ([([2, 3] : List Int)] : List (List Int)).length 1]), rfl, o49.rv.rep1, ⟨[.slice (some ⟨b4, 0, none⟩) ([(([1] : List Int), 2)] : List ((List Int) × Int)).length 1], [.slice (some ⟨b8, 0, none⟩) ([(([0] : List Int), 1), (([0] : List Int), 4), (([0, 4] : List Int), 2)] : List ((List Int) × Int)).length 3] ++ [.slice (some ⟨b10, 0, none⟩) ([([2, 3] : List Int)] : List (List Int)).length 1], rfl, r21.rep1, ⟨[.slice (some ⟨b8, 0, none⟩) ([(([0] : List Int), 1), (([0] : List Int), 4), (([0, 4] : List Int), 2)] : List ((List Int) × Int)).length 3], [.slice (some ⟨b10, 0, none⟩) ([([2, 3] : List Int)] : List (List Int)).length 1], rfl, r22.rep1, r23.rep1⟩⟩⟩⟩⟩), k67⟩

set_option maxHeartbeats 4000000 in
theorem c35 {w0 : World} {v0 : Value} {x0 : (Int × (List Int) × (List ((List Int) × Int)) × (List ((List Int) × Int)) × (List (List Int)))} (r0 : RV w0 v0 x0) {v1 : Value} {x1 : (List Int)} (r1 : RV w0 v1 x1) {v2 : Value} {x2 : (List (KI .u8))} (r2 : RV w0 v2 x2) {F : Nat} {r : (List (Bool × Int))} (hF : law10_Walk F x0 x1 x2 = some r) :
    Calls Try.prog 35 [v0, v1, v2].toArray w0 (Ret fun v w' => ∃ u0 : Value, v = u0 ∧ RV w' u0 r ∧ Ext w0 w') := by
  unfold law10_Walk at hF
  have hz := id r0; obtain ⟨_, rfl, ⟨_, _, rfl, rfl, ⟨_, _, rfl, ⟨a1, c1, rfl, p1, q4, e1⟩, ⟨_, _, rfl, ⟨a2, c2, rfl, p2, q5, e2⟩, ⟨_, _, rfl, ⟨a3, c3, rfl, p3, q6, e3⟩, ⟨a4, c4, rfl, p4, q7, e4⟩⟩⟩⟩⟩⟩ := hz
  have r4 := RV.of1 p1 q4 e1
  have r5 := RV.of1 p2 q5 e2
  have r6 := RV.of1 p3 q6 e3
  have r7 := RV.of1 p4 q7 e4
  have hz := r1.sl; obtain ⟨a5, c5, rfl, -, -, -⟩ := hz
  have hz := r2.sl; obtain ⟨a6, c6, rfl, -, -, -⟩ := hz
  refine entr (n := 111) Try.func35 rfl rfl rfl <| wp_seq <| rg <| sbx rfl rfl fun b4 w1 hx1 hg1 hb1 => ?_
  have r8 := r1.ext hx1
  have r9 := r2.ext hx1
  have r10 := r4.ext hx1
  have r11 := r5.ext hx1
  have r12 := r6.ext hx1
  have r13 := r7.ext hx1
  have r14 := r0.ext hx1
  refine vl rfl rfl xas <| nl <| wp_seq <| rg <| sbsv (cs := []) Try.underlying22 ti3 rfl pn rfl rfl rfl rfl rfl fun b5 w2 hx2 hg2 hb2 => ?_
  have k1 := hx1.tr hx2
  have hb3 := hb1.ext hx2
  have r15 := r10.ext hx2
  have r16 := r11.ext hx2
  have r17 := r12.ext hx2
  have r18 := r13.ext hx2
  have r19 := r8.ext hx2
  have r20 := r9.ext hx2
  have o1 : Row (α := Int) 3 w1.heap.size w2 (.slice (some ⟨b5, 0, none⟩) 0 0) [] := Row.lit hg2 hb2 rfl (ble rfl)
  refine vl rfl rfl (xfa rfl fa26_1) <| vl rfl rfl (xld rfl ti22 ((Bx.cs hb3).at 1 rfl)) <| ?_
  have hz := bs hF; obtain ⟨x4, Ex4, hF⟩ := hz
  refine sapx (l := ([] : List Int)) (k := x0.2.1) rfl rfl Try.underlying22 ti3 rfl rfl o1 (RV.els r15) Ex4 hx2.size fun v4 w3 o2 hB1 hgr1 how1 => ?_
  have k2 := Ext.grow k1 hx1.size hB1
  have k3 : Ext w1 w3 := hx2.trans hB1
  have hb4 := hb1.ext k3
  have r22 := r10.ext k3
  have r23 := r11.ext k3
  have r24 := r12.ext k3
  have r25 := r13.ext k3
  have r26 := r8.ext k3
  have r27 := r9.ext k3
  have hz := RV.sl o2.rv; obtain ⟨a7, c7, rfl, -, -, -⟩ := hz
  refine vl rfl rfl xas <| nl <| wp_seq <| rg <| vl rfl rfl xas <| nl <| wp_seq <| wp_seq <| rg <| vl rfl rfl xas <| nl <| ?_
  have o3 : Row (α := (Bool × Int)) 52 w3.heap.size w3 (.slice none 0 0) [] := Row.nil
  have hz := bs hF; obtain ⟨o4, hB2, hF⟩ := hz
  refine ct (fun L w => ∃ z1 : (List (Bool × Int)), ∃ v7 : Value, o4 = .inr z1 ∧ L 8 = v7 ∧ Row 52 w3.heap.size w v7 z1 ∧ w3.heap.size ≤ w.heap.size ∧ Ext w1 w) ?_ ?_
  ·
    refine wp_block <| lp (I := fun m L w => ∃ y1 : (List Int), ∃ y2 : (List (Bool × Int)), ∃ y3 : Int, ∃ v5 v6 : Value, law10_Walk_l1 F x0 x1 x2 m y1 y2 y3  = some o4 ∧ L 7 = v5 ∧ Row 3 w1.heap.size w v5 y1 ∧ L 8 = v6 ∧ Row 52 w3.heap.size w v6 y2 ∧ L 9 = .int .i64 y3 ∧ Apart (v5) (v6) ∧ L 1 = .slice a5 x1.length c5 ∧ L 2 = .slice a6 x2.length c6 ∧ L 3 = .pointer (some ⟨b4, 0, none⟩) ∧ w3.heap.size ≤ w.heap.size ∧ Ext w1 w) F ⟨_, _, _, _, _, hB2, rfl, o2, rfl, o3, rfl, (Apart.old' o2.own_lt (fun q e => (o3.lt q e).1)), rfl, rfl, rfl, (Nat.le_refl _), k3⟩ ?_
    rintro m L w4 ⟨y1, y2, y3, v5, v6, hB2, l7_i1, O7_i1, l8_i1, O8_i1, l9_i1, X0_i1, l1_i1, l2_i1, l3_i1, Z0_i1, K0_i1⟩
    rcases m with _ | m
    · rw [law10_Walk_l1] at hB2; cases hB2
    rw [law10_Walk_l1] at hB2
    have k4 := hx1.tr K0_i1
    have r28 := r8.ext K0_i1
    have r29 := r9.ext K0_i1
    have r30 := r10.ext K0_i1
    have r31 := r11.ext K0_i1
    have r32 := r12.ext K0_i1
    have r33 := r13.ext K0_i1
    have hb5 := hb1.ext K0_i1
    have hz := RV.sl O7_i1.rv; obtain ⟨a8, c8, rfl, -, -, -⟩ := hz
    have hz := RV.sl O8_i1.rv; obtain ⟨a9, c9, rfl, -, -, -⟩ := hz
    refine wp_seq <| wp_seq <| rg <| vl rfl rfl xmv <| vl rfl rfl xmv <| vl rfl rfl (xlen l2_i1 Try.underlying47) <| vl rfl rfl (xlss l9_i1 rfl) <| nl <| cnd rfl (fun h4 => ?_) (fun h4 => ?_)
    ·
      have hB2 := ifp hB2 h4
      refine wp_skip <| wp_seq <| ?_
      have hz := bs hB2; obtain ⟨o5, hB4, hB2⟩ := hz
      refine ct (fun L w => ∃ y4 : (List Int), ∃ y5 : (List (Bool × Int)), ∃ v8 v9 : Value, o5 = .inr (y4, y5) ∧ L 7 = v8 ∧ Row 3 w1.heap.size w v8 y4 ∧ L 8 = v9 ∧ Row 52 w3.heap.size w v9 y5 ∧ Apart (v8) (v9) ∧ L 1 = .slice a5 x1.length c5 ∧ L 2 = .slice a6 x2.length c6 ∧ L 3 = .pointer (some ⟨b4, 0, none⟩) ∧ L 9 = .int .i64 y3 ∧ w3.heap.size ≤ w.heap.size ∧ Ext w1 w) ?_ ?_
      ·
        refine wp_block <| wp_seq <| rg <| vl rfl rfl xas <| nl <| wp_seq <| wp_seq <| rg <| vl rfl rfl xas <| nl <| ?_
        have o6 : Row (α := (Bool × Int)) 52 w4.heap.size w4 (.slice none 0 0) [] := Row.nil
        have hz := bs hB4; obtain ⟨z2, hB5, hB4⟩ := hz
        refine ct (fun L w => ∃ v11 : Value, L 10 = v11 ∧ Row 52 w4.heap.size w v11 z2 ∧ Apart (v11) (.slice a8 y1.length c8) ∧ Apart (v11) (.slice a9 y2.length c9) ∧ L 1 = .slice a5 x1.length c5 ∧ L 2 = .slice a6 x2.length c6 ∧ L 3 = .pointer (some ⟨b4, 0, none⟩) ∧ L 7 = .slice a8 y1.length c8 ∧ L 8 = .slice a9 y2.length c9 ∧ L 9 = .int .i64 y3 ∧ w3.heap.size ≤ w.heap.size ∧ w1.heap.size ≤ w.heap.size ∧ Ext w4 w) ?_ ?_
        ·
          refine wp_block <| lp (I := fun m L w => ∃ y6 : (List (Bool × Int)), ∃ y7 : Int, ∃ v10 : Value, law10_Walk_l2 F x0 y1 m y6 y7  = some z2 ∧ L 10 = v10 ∧ Row 52 w4.heap.size w v10 y6 ∧ L 11 = .int .i64 y7 ∧ Apart (v10) (.slice a8 y1.length c8) ∧ Apart (v10) (.slice a9 y2.length c9) ∧ L 1 = .slice a5 x1.length c5 ∧ L 2 = .slice a6 x2.length c6 ∧ L 3 = .pointer (some ⟨b4, 0, none⟩) ∧ L 7 = .slice a8 y1.length c8 ∧ L 8 = .slice a9 y2.length c9 ∧ L 9 = .int .i64 y3 ∧ w3.heap.size ≤ w.heap.size ∧ w1.heap.size ≤ w.heap.size ∧ Ext w4 w) F ⟨_, _, _, hB5, rfl, o6, rfl, (Apart.symm (Apart.old' O7_i1.own_lt (fun q e => (o6.lt q e).1))), (Apart.symm (Apart.old' O8_i1.own_lt (fun q e => (o6.lt q e).1))), l1_i1, l2_i1, l3_i1, l7_i1, l8_i1, l9_i1, Z0_i1, K0_i1.size, (Ext.refl _)⟩ ?_
          rintro m L w5 ⟨y6, y7, v10, hB5, l10_i2, O10_i2, l11_i2, X0_i2, X1_i2, l1_i2, l2_i2, l3_i2, l7_i2, l8_i2, l9_i2, Z0_i2, Z1_i2, K0_i2⟩
          rcases m with _ | m
          · rw [law10_Walk_l2] at hB5; cases hB5
          rw [law10_Walk_l2] at hB5
          have k5 := k4.tr K0_i2
          have k6 := K0_i1.tr K0_i2
          have r34 := r28.ext K0_i2
          have r35 := r29.ext K0_i2
          have r36 := r30.ext K0_i2
          have r37 := r31.ext K0_i2
          have r38 := r32.ext K0_i2
          have r39 := r33.ext K0_i2
          have hb6 := hb5.ext K0_i2
          have O1 := O7_i1.ext K0_i2
          have O2 := O8_i1.ext K0_i2
          have hz := RV.sl O10_i2.rv; obtain ⟨a10, c10, rfl, -, -, -⟩ := hz
          refine wp_seq <| wp_seq <| rg <| vl rfl rfl xmv <| vl rfl rfl (xfa l3_i2 fa26_2) <| vl rfl rfl (xld rfl ti23 ((Bx.cs hb6).at 2 rfl)) <| vl rfl rfl (xlen rfl Try.underlying23) <| vl rfl rfl (xlss l11_i2 rfl) <| nl <| cnd rfl (fun h5 => ?_) (fun h5 => ?_)
          ·
            have hB5 := ifp hB5 h5
            refine wp_skip <| wp_seq <| ?_
            have hz := bs hB5; obtain ⟨y8, hB7, hB5⟩ := hz
            refine ct (fun L w => ∃ v12 : Value, L 10 = v12 ∧ Row 52 w4.heap.size w v12 y8 ∧ Apart (v12) (.slice a8 y1.length c8) ∧ Apart (v12) (.slice a9 y2.length c9) ∧ L 1 = .slice a5 x1.length c5 ∧ L 2 = .slice a6 x2.length c6 ∧ L 3 = .pointer (some ⟨b4, 0, none⟩) ∧ L 7 = .slice a8 y1.length c8 ∧ L 8 = .slice a9 y2.length c9 ∧ L 9 = .int .i64 y3 ∧ L 11 = .int .i64 y7 ∧ w3.heap.size ≤ w.heap.size ∧ w1.heap.size ≤ w.heap.size ∧ Ext w4 w) ?_ ?_
            ·
              refine wp_block <| wp_seq <| rg <| vl rfl rfl xmv <| vl rfl rfl (xfa l3_i2 fa26_2) <| vl rfl rfl (xld rfl ti23 ((Bx.cs hb6).at 2 rfl)) <| vl rfl rfl xmv <| ?_
              have hz := bs hB7; obtain ⟨x5, Ex5, hB7⟩ := hz
              have hz := (RV.els r5).ix Ex5; obtain ⟨b6, f1, cs4, e5, i3, i4, q8, hc1⟩ := hz
              cases e5
              obtain ⟨_, _, rfl, ⟨a11, c11, rfl, p5, q9, e6⟩, rfl⟩ := q8
              have r40 := RV.of1 p5 q9 e6
              have hc2 := hc1.ext k5
              have r41 := r40.ext k5
              refine vl rfl rfl (xixs rfl l11_i2 Try.underlying23 ti54 i3 i4) <| vl rfl rfl (xfa rfl fa54_0) <| vl rfl rfl (xld rfl ti22 (hc2.at 0 rfl)) <| ?_
              have hz := bs hB7; obtain ⟨x6, Ex6, hB7⟩ := hz
              refine cl rfl rfl (xc cb34 (mc l7_i2 (mc rfl mn))) (c34 O1.rv r41 Ex6) ?_
              rintro _ w6 ⟨rfl, hx3⟩
              have k7 := k5.tr hx3
              have k8 := k6.tr hx3
              have k9 := K0_i2.tr hx3
              have zs1 := Nat.le_trans Z0_i2 hx3.size
              have zs2 := Nat.le_trans Z1_i2 hx3.size
              have hb7 := hb6.ext hx3
              have r42 := r36.ext hx3
              have r43 := r37.ext hx3
              have r44 := r38.ext hx3
              have r45 := r39.ext hx3
              have r46 := r34.ext hx3
              have r47 := r35.ext hx3
              have O3 := O1.ext hx3
              have O4 := O2.ext hx3
              have O5 := O10_i2.ext hx3
              refine nl <| ?_
              have hz := bs hB7; obtain ⟨y9, hB8, hB7⟩ := hz
              refine ct (fun L w => ∃ v13 : Value, L 10 = v13 ∧ Row 52 w4.heap.size w v13 y9 ∧ Apart (v13) (.slice a8 y1.length c8) ∧ Apart (v13) (.slice a9 y2.length c9) ∧ L 1 = .slice a5 x1.length c5 ∧ L 2 = .slice a6 x2.length c6 ∧ L 3 = .pointer (some ⟨b4, 0, none⟩) ∧ L 7 = .slice a8 y1.length c8 ∧ L 8 = .slice a9 y2.length c9 ∧ L 9 = .int .i64 y3 ∧ L 11 = .int .i64 y7 ∧ w3.heap.size ≤ w.heap.size ∧ w1.heap.size ≤ w.heap.size ∧ Ext w4 w) ?_ ?_
              ·
                refine cnd rfl (fun h6 => ?_) (fun h6 => ?_)
                ·
                  have hB8 := ifp hB8 h6
                  refine rg <| vl rfl rfl xmv <| vl rfl rfl xmv <| vl rfl rfl (xbdv (r := [.bool false, .int .i64 y7]) ti52 sp52 (pc l11_i2 pn) rfl) <| sbsv (cs := [.bool false, .int .i64 y7]) Try.underlying27 ti52 rfl (pc rfl pn) rfl rfl rfl rfl rfl fun b7 w7 hx4 hg3 hb8 => ?_
                  have k10 := k7.tr hx4
                  have k11 := k8.tr hx4
                  have k12 := k9.tr hx4
                  have k13 := hx3.tr hx4
                  have zs3 := Nat.le_trans zs1 hx4.size
                  have zs4 := Nat.le_trans zs2 hx4.size
                  have hb9 := hb7.ext hx4
                  have r48 := r42.ext hx4
                  have r49 := r43.ext hx4
                  have r50 := r44.ext hx4
                  have r51 := r45.ext hx4
                  have r52 := r46.ext hx4
                  have r53 := r47.ext hx4
                  have O6 := O3.ext hx4
                  have O7 := O4.ext hx4
                  have O8 := O5.ext hx4
                  have o8 : Row (α := (Bool × Int)) 52 w6.heap.size w7 (.slice (some ⟨b7, 0, none⟩) 1 1) [(false, y7)] := Row.lit hg3 hb8 rfl (ble rfl)
                  have hz := bs hB8; obtain ⟨x7, Ex7, hB8⟩ := hz
                  refine sapx (l := y6) (k := ([(false, y7)] : List (Bool × Int))) l10_i2 rfl Try.underlying27 ti52 rfl rfl O8 (RV.els o8.rv) Ex7 k12.size fun v14 w8 o9 hB10 hgr2 how2 => ?_
                  have k14 := Ext.grow k10 k4.size hB10
                  have k15 := Ext.grow k11 K0_i1.size hB10
                  have k16 : Ext w4 w8 := k12.trans hB10
                  have X1 := Apart.app how2 X0_i2 O6.own_lt
                  have X2 := Apart.app how2 X1_i2 O7.own_lt
                  have zs5 := Nat.le_trans zs3 hgr2.size
                  have zs6 := Nat.le_trans zs4 hgr2.size
                  have hb10 := hb5.ext k16
                  have r55 := r30.ext k16
                  have r56 := r31.ext k16
                  have r57 := r32.ext k16
                  have r58 := r33.ext k16
                  have r59 := r28.ext k16
                  have r60 := r29.ext k16
                  have O9 := O7_i1.ext k16
                  have O10 := O8_i1.ext k16
                  have hz := RV.sl o9.rv; obtain ⟨a12, c12, rfl, -, -, -⟩ := hz
                  refine vl rfl rfl xas <| nl <| ?_
                  cases hB8
                  refine lf <| ?_
                  exact ⟨_, rfl, o9, X1, X2, l1_i2, l2_i2, l3_i2, l7_i2, l8_i2, l9_i2, l11_i2, zs5, zs6, k16⟩
                ·
                  have hB8 := ifn hB8 h6
                  refine wp_skip <| ?_
                  cases hB8
                  refine lf <| ?_
                  exact ⟨_, l10_i2, O5, X0_i2, X1_i2, l1_i2, l2_i2, l3_i2, l7_i2, l8_i2, l9_i2, l11_i2, zs1, zs2, k9⟩
              rintro L w9 ⟨v13, l10_j1, O10_j1, X0_j1, X1_j1, l1_j1, l2_j1, l3_j1, l7_j1, l8_j1, l9_j1, l11_j1, Z0_j1, Z1_j1, K0_j1⟩
              have k17 := k4.tr K0_j1
              have k18 := K0_i1.tr K0_j1
              have r61 := r28.ext K0_j1
              have r62 := r29.ext K0_j1
              have r63 := r30.ext K0_j1
              have r64 := r31.ext K0_j1
              have r65 := r32.ext K0_j1
              have r66 := r33.ext K0_j1
              have hb11 := hb5.ext K0_j1
              have O11 := O7_i1.ext K0_j1
              have O12 := O8_i1.ext K0_j1
              have hz := RV.sl O10_j1.rv; obtain ⟨a13, c13, rfl, -, -, -⟩ := hz
              cases hB7
              refine lf <| ?_
              exact ⟨_, l10_j1, O10_j1, X0_j1, X1_j1, l1_j1, l2_j1, l3_j1, l7_j1, l8_j1, l9_j1, l11_j1, Z0_j1, Z1_j1, K0_j1⟩
            rintro L w10 ⟨v12, l10_j2, O10_j2, X0_j2, X1_j2, l1_j2, l2_j2, l3_j2, l7_j2, l8_j2, l9_j2, l11_j2, Z0_j2, Z1_j2, K0_j2⟩
            have k19 := k4.tr K0_j2
            have k20 := K0_i1.tr K0_j2
            have r67 := r28.ext K0_j2
            have r68 := r29.ext K0_j2
            have r69 := r30.ext K0_j2
            have r70 := r31.ext K0_j2
            have r71 := r32.ext K0_j2
            have r72 := r33.ext K0_j2
            have hb12 := hb5.ext K0_j2
            have O13 := O7_i1.ext K0_j2
            have O14 := O8_i1.ext K0_j2
            have hz := RV.sl O10_j2.rv; obtain ⟨a14, c14, rfl, -, -, -⟩ := hz
            refine rg <| vl rfl rfl xmv <| vl rfl rfl (xadd l11_j2 rfl) <| vl rfl rfl xas <| nl <| ?_
            refine lq m (Nat.lt_succ_self _) <| ?_
            exact ⟨_, _, _, hB5, l10_j2, O10_j2, rfl, X0_j2, X1_j2, l1_j2, l2_j2, l3_j2, l7_j2, l8_j2, l9_j2, Z0_j2, Z1_j2, K0_j2⟩
          ·
            have hB5 := ifn hB5 h5
            refine wp_exit <| ?_
            cases hB5
            refine lf <| ?_
            exact ⟨_, l10_i2, O10_i2, X0_i2, X1_i2, l1_i2, l2_i2, l3_i2, l7_i2, l8_i2, l9_i2, Z0_i2, Z1_i2, K0_i2⟩
        rintro L w11 ⟨v11, l10_j3, O10_j3, X0_j3, X1_j3, l1_j3, l2_j3, l3_j3, l7_j3, l8_j3, l9_j3, Z0_j3, Z1_j3, K0_j3⟩
        have k21 := k4.tr K0_j3
        have k22 := K0_i1.tr K0_j3
        have r73 := r28.ext K0_j3
        have r74 := r29.ext K0_j3
        have r75 := r30.ext K0_j3
        have r76 := r31.ext K0_j3
        have r77 := r32.ext K0_j3
        have r78 := r33.ext K0_j3
        have hb13 := hb5.ext K0_j3
        have O15 := O7_i1.ext K0_j3
        have O16 := O8_i1.ext K0_j3
        have hz := RV.sl O10_j3.rv; obtain ⟨a15, c15, rfl, -, -, -⟩ := hz
        refine wp_seq <| wp_seq <| rg <| vl rfl rfl xas <| nl <| ?_
        have hz := bs hB4; obtain ⟨z3, hB13, hB4⟩ := hz
        refine ct (fun L w => ∃ v16 : Value, L 10 = v16 ∧ Row 52 w4.heap.size w v16 z3 ∧ Apart (v16) (.slice a8 y1.length c8) ∧ Apart (v16) (.slice a9 y2.length c9) ∧ L 1 = .slice a5 x1.length c5 ∧ L 2 = .slice a6 x2.length c6 ∧ L 3 = .pointer (some ⟨b4, 0, none⟩) ∧ L 7 = .slice a8 y1.length c8 ∧ L 8 = .slice a9 y2.length c9 ∧ L 9 = .int .i64 y3 ∧ w3.heap.size ≤ w.heap.size ∧ w1.heap.size ≤ w.heap.size ∧ Ext w4 w) ?_ ?_
        ·
          refine wp_block <| lp (I := fun m L w => ∃ y10 : (List (Bool × Int)), ∃ y11 : Int, ∃ v15 : Value, law10_Walk_l3 F x0 x1 y1 m y10 y11  = some z3 ∧ L 10 = v15 ∧ Row 52 w4.heap.size w v15 y10 ∧ L 12 = .int .i64 y11 ∧ Apart (v15) (.slice a8 y1.length c8) ∧ Apart (v15) (.slice a9 y2.length c9) ∧ L 1 = .slice a5 x1.length c5 ∧ L 2 = .slice a6 x2.length c6 ∧ L 3 = .pointer (some ⟨b4, 0, none⟩) ∧ L 7 = .slice a8 y1.length c8 ∧ L 8 = .slice a9 y2.length c9 ∧ L 9 = .int .i64 y3 ∧ w3.heap.size ≤ w.heap.size ∧ w1.heap.size ≤ w.heap.size ∧ Ext w4 w) F ⟨_, _, _, hB13, l10_j3, O10_j3, rfl, X0_j3, X1_j3, l1_j3, l2_j3, l3_j3, l7_j3, l8_j3, l9_j3, Z0_j3, Z1_j3, K0_j3⟩ ?_
          rintro m L w12 ⟨y10, y11, v15, hB13, l10_i5, O10_i5, l12_i5, X0_i5, X1_i5, l1_i5, l2_i5, l3_i5, l7_i5, l8_i5, l9_i5, Z0_i5, Z1_i5, K0_i5⟩
          rcases m with _ | m
          · rw [law10_Walk_l3] at hB13; cases hB13
          rw [law10_Walk_l3] at hB13
          have k23 := k4.tr K0_i5
          have k24 := K0_i1.tr K0_i5
          have r79 := r28.ext K0_i5
          have r80 := r29.ext K0_i5
          have r81 := r30.ext K0_i5
          have r82 := r31.ext K0_i5
          have r83 := r32.ext K0_i5
          have r84 := r33.ext K0_i5
          have hb14 := hb5.ext K0_i5
          have O17 := O7_i1.ext K0_i5
          have O18 := O8_i1.ext K0_i5
          have hz := RV.sl O10_i5.rv; obtain ⟨a16, c16, rfl, -, -, -⟩ := hz
          refine wp_seq <| wp_seq <| rg <| vl rfl rfl xmv <| vl rfl rfl xmv <| vl rfl rfl (xlen l1_i5 Try.underlying22) <| vl rfl rfl (xlss l12_i5 rfl) <| nl <| cnd rfl (fun h7 => ?_) (fun h7 => ?_)
          ·
            have hB13 := ifp hB13 h7
            refine wp_skip <| wp_seq <| ?_
            have hz := bs hB13; obtain ⟨y12, hB15, hB13⟩ := hz
            refine ct (fun L w => ∃ v17 : Value, L 10 = v17 ∧ Row 52 w4.heap.size w v17 y12 ∧ Apart (v17) (.slice a8 y1.length c8) ∧ Apart (v17) (.slice a9 y2.length c9) ∧ L 1 = .slice a5 x1.length c5 ∧ L 2 = .slice a6 x2.length c6 ∧ L 3 = .pointer (some ⟨b4, 0, none⟩) ∧ L 7 = .slice a8 y1.length c8 ∧ L 8 = .slice a9 y2.length c9 ∧ L 9 = .int .i64 y3 ∧ L 12 = .int .i64 y11 ∧ w3.heap.size ≤ w.heap.size ∧ w1.heap.size ≤ w.heap.size ∧ Ext w4 w) ?_ ?_
            ·
              refine wp_block <| wp_seq <| wpl [] (.pure true 0 (.pure true 1 (.pure false 2 (.pure true 3 (.pure true 4 (.pure true 5 (.pure false 6 (.pure true 7 (.pure true 8 (.pure false 9 (.eff 10 .fin .stop))))))))))) mixed (by kernel_rfl) (fun w13 hx5 => ?_)
              have k25 := k23.tr hx5
              have k26 := k24.tr hx5
              have k27 := K0_i5.tr hx5
              have zs7 := Nat.le_trans Z0_i5 hx5.size
              have zs8 := Nat.le_trans Z1_i5 hx5.size
              have hb15 := hb14.ext hx5
              have r85 := r81.ext hx5
              have r86 := r82.ext hx5
              have r87 := r83.ext hx5
              have r88 := r84.ext hx5
              have r89 := r79.ext hx5
              have r90 := r80.ext hx5
              have O19 := O17.ext hx5
              have O20 := O18.ext hx5
              have O21 := O10_i5.ext hx5
              refine pv rfl rfl rfl (fun _ _ => xmv) (.inl rfl) <| pv rfl rfl rfl (fun _ _ => xfa l3_i5 fa26_3) (.inl rfl) <| pv rfl rfl rfl (fun _ hS => xld rfl ti23 ((Bx.cs (hb15.ext (hS.resolve_left nofun))).at 3 rfl)) (.inr (Ext.refl _)) <| pv rfl rfl rfl (fun _ _ => xmv) (.inl rfl) <| pv rfl rfl rfl (fun _ _ => xmv) (.inl rfl) <| ?_
              have hz := bs hB15; obtain ⟨x8, Ex8, hB15⟩ := hz
              have hz := (RV.els r1).ix Ex8; obtain ⟨b8, f2, cs5, e7, i6, i7, q10, hc3⟩ := hz
              cases e7
              obtain rfl := q10
              have hc4 := hc3.ext k25
              refine pv rfl rfl rfl (fun _ _ => xixs l1_i5 l12_i5 Try.underlying22 ti3 i6 i7) (.inl rfl) <| pv rfl rfl rfl (fun _ hS => xld rfl ti3 ((hc4.ext (hS.resolve_left nofun)).at 0 rfl)) (.inr (Ext.refl _)) <| ?_
              have hz := bs hB15; obtain ⟨x9, Ex9, hB15⟩ := hz
              have hz := (RV.els r6).ix Ex9; obtain ⟨b9, f3, cs6, e8, i8, i9, q11, hc5⟩ := hz
              cases e8
              obtain ⟨_, _, rfl, ⟨a17, c17, rfl, p6, q12, e9⟩, rfl⟩ := q11
              have r91 := RV.of1 p6 q12 e9
              have hc6 := hc5.ext k25
              have r92 := r91.ext k25
              refine pv rfl rfl rfl (fun _ _ => xixs rfl rfl Try.underlying23 ti54 i8 i9) (.inl rfl) <| pv rfl rfl rfl (fun _ _ => xfa rfl fa54_0) (.inl rfl) <| pv rfl rfl rfl (fun _ hS => xld rfl ti22 ((hc6.ext (hS.resolve_left nofun)).at 0 rfl)) (.inr (Ext.refl _)) <| ?_
              have hz := bs hB15; obtain ⟨x10, Ex10, hB15⟩ := hz
              refine pe1 rfl <| cl rfl rfl (xc cb34 (mc l7_i5 (mc rfl mn))) (c34 O19.rv r92 Ex10) ?_
              rintro _ w14 ⟨rfl, hx6⟩
              have k28 := k25.tr hx6
              have k29 := k26.tr hx6
              have k30 := k27.tr hx6
              have k31 := hx5.tr hx6
              have zs9 := Nat.le_trans zs7 hx6.size
              have zs10 := Nat.le_trans zs8 hx6.size
              have hb16 := hb15.ext hx6
              have r93 := r85.ext hx6
              have r94 := r86.ext hx6
              have r95 := r87.ext hx6
              have r96 := r88.ext hx6
              have r97 := r89.ext hx6
              have r98 := r90.ext hx6
              have O22 := O19.ext hx6
              have O23 := O20.ext hx6
              have O24 := O21.ext hx6
              refine nl ⟨fun _ _ => hx6, ?_⟩
              have hz := bs hB15; obtain ⟨y13, hB16, hB15⟩ := hz
              refine ct (fun L w => ∃ v18 : Value, L 10 = v18 ∧ Row 52 w4.heap.size w v18 y13 ∧ Apart (v18) (.slice a8 y1.length c8) ∧ Apart (v18) (.slice a9 y2.length c9) ∧ L 1 = .slice (some ⟨b8, f2, none⟩) x1.length c5 ∧ L 2 = .slice a6 x2.length c6 ∧ L 3 = .pointer (some ⟨b4, 0, none⟩) ∧ L 7 = .slice a8 y1.length c8 ∧ L 8 = .slice a9 y2.length c9 ∧ L 9 = .int .i64 y3 ∧ L 12 = .int .i64 y11 ∧ w3.heap.size ≤ w.heap.size ∧ w1.heap.size ≤ w.heap.size ∧ Ext w4 w) ?_ ?_
              ·
                refine cnd rfl (fun h8 => ?_) (fun h8 => ?_)
                ·
                  have hB16 := ifp hB16 h8
                  refine rg <| vl rfl rfl xmv <| vl rfl rfl xmv <| vl rfl rfl xmv <| ?_
                  have hz := bs hB16; obtain ⟨x11, Ex11, hB16⟩ := hz
                  have hz := ix2 r1 Ex11; obtain ⟨cs7, i10, i11, q13, hc7⟩ := hz
                  obtain rfl := q13
                  have hc8 := hc7.ext k28
                  refine vl rfl rfl (xixs l1_i5 l12_i5 Try.underlying22 ti3 i10 i11) <| vl rfl rfl (xld rfl ti3 (hc8.at 0 rfl)) <| vl rfl rfl (xbdv (r := [.bool true, .int .i64 x11]) ti52 sp52 (pc rfl (pc rfl pn)) rfl) <| sbsv (cs := [.bool true, .int .i64 x11]) Try.underlying27 ti52 rfl (pc rfl pn) rfl rfl rfl rfl rfl fun b10 w15 hx7 hg4 hb17 => ?_
                  have k32 := k28.tr hx7
                  have k33 := k29.tr hx7
                  have k34 := k30.tr hx7
                  have k35 := k31.tr hx7
                  have k36 := hx6.tr hx7
                  have zs11 := Nat.le_trans zs9 hx7.size
                  have zs12 := Nat.le_trans zs10 hx7.size
                  have hb18 := hb16.ext hx7
                  have r99 := r93.ext hx7
                  have r100 := r94.ext hx7
                  have r101 := r95.ext hx7
                  have r102 := r96.ext hx7
                  have r103 := r97.ext hx7
                  have r104 := r98.ext hx7
                  have O25 := O22.ext hx7
                  have O26 := O23.ext hx7
                  have O27 := O24.ext hx7
                  have o11 : Row (α := (Bool × Int)) 52 w14.heap.size w15 (.slice (some ⟨b10, 0, none⟩) 1 1) [(true, x11)] := Row.lit hg4 hb17 rfl (ble rfl)
                  have hz := bs hB16; obtain ⟨x12, Ex12, hB16⟩ := hz
                  refine sapx (l := y10) (k := ([(true, x11)] : List (Bool × Int))) l10_i5 rfl Try.underlying27 ti52 rfl rfl O27 (RV.els o11.rv) Ex12 k34.size fun v19 w16 o12 hB18 hgr3 how3 => ?_
                  have k37 := Ext.grow k32 k4.size hB18
                  have k38 := Ext.grow k33 K0_i1.size hB18
                  have k39 : Ext w4 w16 := k34.trans hB18
                  have X3 := Apart.app how3 X0_i5 O25.own_lt
                  have X4 := Apart.app how3 X1_i5 O26.own_lt
                  have zs13 := Nat.le_trans zs11 hgr3.size
                  have zs14 := Nat.le_trans zs12 hgr3.size
                  have hb19 := hb5.ext k39
                  have r106 := r30.ext k39
                  have r107 := r31.ext k39
                  have r108 := r32.ext k39
                  have r109 := r33.ext k39
                  have r110 := r28.ext k39
                  have r111 := r29.ext k39
                  have O28 := O7_i1.ext k39
                  have O29 := O8_i1.ext k39
                  have hz := RV.sl o12.rv; obtain ⟨a18, c18, rfl, -, -, -⟩ := hz
                  refine vl rfl rfl xas <| nl <| ?_
                  cases hB16
                  refine lf <| ?_
                  exact ⟨_, rfl, o12, X3, X4, l1_i5, l2_i5, l3_i5, l7_i5, l8_i5, l9_i5, l12_i5, zs13, zs14, k39⟩
                ·
                  have hB16 := ifn hB16 h8
                  refine wp_skip <| ?_
                  cases hB16
                  refine lf <| ?_
                  exact ⟨_, l10_i5, O24, X0_i5, X1_i5, l1_i5, l2_i5, l3_i5, l7_i5, l8_i5, l9_i5, l12_i5, zs9, zs10, k30⟩
              rintro L w17 ⟨v18, l10_j4, O10_j4, X0_j4, X1_j4, l1_j4, l2_j4, l3_j4, l7_j4, l8_j4, l9_j4, l12_j4, Z0_j4, Z1_j4, K0_j4⟩
              have k40 := k4.tr K0_j4
              have k41 := K0_i1.tr K0_j4
              have r112 := r28.ext K0_j4
              have r113 := r29.ext K0_j4
              have r114 := r30.ext K0_j4
              have r115 := r31.ext K0_j4
              have r116 := r32.ext K0_j4
              have r117 := r33.ext K0_j4
              have hb20 := hb5.ext K0_j4
              have O30 := O7_i1.ext K0_j4
              have O31 := O8_i1.ext K0_j4
              have hz := RV.sl O10_j4.rv; obtain ⟨a19, c19, rfl, -, -, -⟩ := hz
              cases hB15
              refine lf <| ?_
              exact ⟨_, l10_j4, O10_j4, X0_j4, X1_j4, l1_j4, l2_j4, l3_j4, l7_j4, l8_j4, l9_j4, l12_j4, Z0_j4, Z1_j4, K0_j4⟩
            rintro L w18 ⟨v17, l10_j5, O10_j5, X0_j5, X1_j5, l1_j5, l2_j5, l3_j5, l7_j5, l8_j5, l9_j5, l12_j5, Z0_j5, Z1_j5, K0_j5⟩
            have k42 := k4.tr K0_j5
            have k43 := K0_i1.tr K0_j5
            have r118 := r28.ext K0_j5
            have r119 := r29.ext K0_j5
            have r120 := r30.ext K0_j5
            have r121 := r31.ext K0_j5
            have r122 := r32.ext K0_j5
            have r123 := r33.ext K0_j5
            have hb21 := hb5.ext K0_j5
            have O32 := O7_i1.ext K0_j5
            have O33 := O8_i1.ext K0_j5
            have hz := RV.sl O10_j5.rv; obtain ⟨a20, c20, rfl, -, -, -⟩ := hz
            refine rg <| vl rfl rfl xmv <| vl rfl rfl (xadd l12_j5 rfl) <| vl rfl rfl xas <| nl <| ?_
            refine lq m (Nat.lt_succ_self _) <| ?_
            exact ⟨_, _, _, hB13, l10_j5, O10_j5, rfl, X0_j5, X1_j5, l1_j5, l2_j5, l3_j5, l7_j5, l8_j5, l9_j5, Z0_j5, Z1_j5, K0_j5⟩
          ·
            have hB13 := ifn hB13 h7
            refine wp_exit <| ?_
            cases hB13
            refine lf <| ?_
            exact ⟨_, l10_i5, O10_i5, X0_i5, X1_i5, l1_i5, l2_i5, l3_i5, l7_i5, l8_i5, l9_i5, Z0_i5, Z1_i5, K0_i5⟩
        rintro L w19 ⟨v16, l10_j6, O10_j6, X0_j6, X1_j6, l1_j6, l2_j6, l3_j6, l7_j6, l8_j6, l9_j6, Z0_j6, Z1_j6, K0_j6⟩
        have k44 := k4.tr K0_j6
        have k45 := K0_i1.tr K0_j6
        have r124 := r28.ext K0_j6
        have r125 := r29.ext K0_j6
        have r126 := r30.ext K0_j6
        have r127 := r31.ext K0_j6
        have r128 := r32.ext K0_j6
        have r129 := r33.ext K0_j6
        have hb22 := hb5.ext K0_j6
        have O34 := O7_i1.ext K0_j6
        have O35 := O8_i1.ext K0_j6
        have hz := RV.sl O10_j6.rv; obtain ⟨a21, c21, rfl, -, -, -⟩ := hz
        refine wp_seq <| wp_seq <| rg <| vl rfl rfl xmv <| vl rfl rfl (xlen l10_j6 Try.underlying27) <| vl rfl rfl (xeql rfl rfl) <| nl <| cnd rfl (fun h9 => ?_) (fun h9 => ?_)
        ·
          have hB4 := ifp hB4 h9
          refine wp_seq <| rg <| vl rfl rfl xmv <| vl rfl rfl xas <| nl <| ?_
          cases hB4
          have hB2 := (show some _ = some _ from hB2); cases hB2
          have hF := (show some _ = some _ from hF); cases hF
          exact wp_ret <| rt rfl (.tmp l8_j6 rfl .nil) ⟨_, rfl, O35.rv, k44⟩
        ·
          have hB4 := ifn hB4 h9
          refine wp_skip <| wp_seq <| rg <| vl rfl rfl xmv <| vl rfl rfl xmv <| vl rfl rfl xmv <| ?_
          have hz := bs hB4; obtain ⟨x13, Ex13, hB4⟩ := hz
          have hz := (RV.els r2).ix Ex13; obtain ⟨b11, f4, cs8, e10, i12, i13, q14, hc9⟩ := hz
          cases e10
          obtain rfl := q14
          have hc10 := hc9.ext k44
          refine vl rfl rfl (xixs l2_j6 l9_j6 Try.underlying47 ti5 i12 i13) <| vl rfl rfl (xld rfl ti5 (hc10.at 0 rfl)) <| vl rfl rfl (xcvt rfl Try.underlying5 Try.underlying3) <| vl rfl rfl xmv <| vl rfl rfl (xlen l10_j6 Try.underlying27) <| ?_
          have hz := bs hB4; obtain ⟨x14, Ex14, hB4⟩ := hz
          refine vl rfl rfl (xremv rfl rfl Ex14) <| ?_
          have hz := bs hB4; obtain ⟨x15, Ex15, hB4⟩ := hz
          have hz := (RV.els O10_j6.rv).ix Ex15; obtain ⟨b12, f5, cs9, e11, i14, i15, q15, hc11⟩ := hz
          cases e11
          obtain ⟨_, _, rfl, rfl, rfl⟩ := q15
          refine vl rfl rfl (xixs l10_j6 rfl Try.underlying27 ti52 i14 i15) <| vl rfl rfl (xlda rfl ti52 rfl hc11) <| sal ti52 fun b13 w20 hx8 hg5 hb23 => ?_
          have k46 := k44.tr hx8
          have k47 := k45.tr hx8
          have k48 := K0_j6.tr hx8
          have zs15 := Nat.le_trans Z0_j6 hx8.size
          have zs16 := Nat.le_trans Z1_j6 hx8.size
          have hb24 := hb22.ext hx8
          have r130 := r126.ext hx8
          have r131 := r127.ext hx8
          have r132 := r128.ext hx8
          have r133 := r129.ext hx8
          have r134 := r124.ext hx8
          have r135 := r125.ext hx8
          have O36 := O34.ext hx8
          have O37 := O35.ext hx8
          refine sst rfl rfl rfl ti52 hb23 rfl rfl (ble rfl) fun w21 hch1 hb25 => ?_
          have k49 := Ext.chg k46 hch1 (Nat.le_trans k44.size hg5)
          have k50 := Ext.chg k47 hch1 (Nat.le_trans k45.size hg5)
          have k51 := Ext.chg k48 hch1 (Nat.le_trans K0_j6.size hg5)
          have k52 := Ext.chg hx8 hch1 (Nat.le_trans (Nat.le_refl _) hg5)
          have zs17 := Nat.le_trans zs15 (Nat.le_of_eq hch1.size.symm)
          have zs18 := Nat.le_trans zs16 (Nat.le_of_eq hch1.size.symm)
          have hb26 := hb22.ext k52
          have r136 := r126.ext k52
          have r137 := r127.ext k52
          have r138 := r128.ext k52
          have r139 := r129.ext k52
          have r140 := r124.ext k52
          have r141 := r125.ext k52
          have O38 := O34.ext k52
          have O39 := O35.ext k52
          have hb27 : Bx w21 b13 52 [.bool x15.1, .int .i64 x15.2] := hb25
          refine nl <| wp_seq <| rg <| vl rfl rfl xmv <| vl rfl rfl (xlda rfl ti52 rfl (Bx.cs hb27)) <| sbsv (cs := [.bool x15.1, .int .i64 x15.2]) Try.underlying27 ti52 rfl (pc rfl pn) rfl rfl rfl rfl rfl fun b14 w22 hx9 hg6 hb28 => ?_
          have k53 := k49.tr hx9
          have k54 := k50.tr hx9
          have k55 := k51.tr hx9
          have k56 := k52.tr hx9
          have zs19 := Nat.le_trans zs17 hx9.size
          have zs20 := Nat.le_trans zs18 hx9.size
          have hb29 := hb26.ext hx9
          have r142 := r136.ext hx9
          have r143 := r137.ext hx9
          have r144 := r138.ext hx9
          have r145 := r139.ext hx9
          have hb30 := hb27.ext hx9
          have r146 := r140.ext hx9
          have r147 := r141.ext hx9
          have O40 := O38.ext hx9
          have O41 := O39.ext hx9
          have o13 : Row (α := (Bool × Int)) 52 w21.heap.size w22 (.slice (some ⟨b14, 0, none⟩) 1 1) [(x15.1, x15.2)] := Row.lit hg6 hb28 rfl (ble rfl)
          have hz := bs hB4; obtain ⟨x16, Ex16, hB4⟩ := hz
          refine sapx (l := y2) (k := ([(x15.1, x15.2)] : List (Bool × Int))) l8_j6 rfl Try.underlying27 ti52 rfl rfl O41 (RV.els o13.rv) Ex16 zs19 fun v20 w23 o14 hB23 hgr4 how4 => ?_
          have k57 := Ext.grow k53 k2.size hB23
          have k58 := Ext.grow k54 k3.size hB23
          have X5 := Apart.app how4 (Apart.symm X0_i1) O40.own_lt
          have zs21 := Nat.le_trans zs19 hgr4.size
          have zs22 := Nat.le_trans zs20 hgr4.size
          have hb31 := hb1.ext k58
          have r149 := r10.ext k58
          have r150 := r11.ext k58
          have r151 := r12.ext k58
          have r152 := r13.ext k58
          have ne1 := ne_app how4 (O35.ne_new hg5) hb30.lt
          have hb32 := Bx.gr hb30 hgr4 (O35.ne_new hg5)
          have r153 := r8.ext k58
          have r154 := r9.ext k58
          have o15 := Row.gra O40 hgr4 (Apart.symm X0_i1)
          have hz := RV.sl o14.rv; obtain ⟨a22, c22, rfl, -, -, -⟩ := hz
          refine vl rfl rfl xas <| nl <| wp_seq <| rg <| vl rfl rfl (xfa rfl fa52_0) <| vl rfl rfl (xld rfl ti4 ((Bx.cs hb32).at 0 rfl)) <| nl <| ?_
          have hz := bs hB4; obtain ⟨⟨y14, y15⟩, hB24, hB4⟩ := hz
          refine ct (fun L w => ∃ v21 v22 : Value, L 7 = v21 ∧ Row 3 w1.heap.size w v21 y14 ∧ L 8 = v22 ∧ Row 52 w3.heap.size w v22 y15 ∧ Apart (v21) (v22) ∧ L 1 = .slice a5 x1.length c5 ∧ L 2 = .slice (some ⟨b11, f4, none⟩) x2.length c6 ∧ L 3 = .pointer (some ⟨b4, 0, none⟩) ∧ L 9 = .int .i64 y3 ∧ w3.heap.size ≤ w.heap.size ∧ Ext w1 w) ?_ ?_
          ·
            refine cnd rfl (fun h10 => ?_) (fun h10 => ?_)
            ·
              have hB24 := ifp hB24 h10
              refine rg <| vl rfl rfl xmv <| vl rfl rfl (xfa l3_j6 fa26_3) <| vl rfl rfl (xld rfl ti23 ((Bx.cs hb31).at 3 rfl)) <| vl rfl rfl (xfa rfl fa52_1) <| vl rfl rfl (xld rfl ti3 ((Bx.cs hb32).at 1 rfl)) <| ?_
              have hz := bs hB24; obtain ⟨x17, Ex17, hB24⟩ := hz
              have hz := (RV.els r6).ix Ex17; obtain ⟨b15, f6, cs10, e12, i16, i17, q16, hc12⟩ := hz
              cases e12
              obtain ⟨_, _, rfl, ⟨a23, c23, rfl, p7, q17, e13⟩, rfl⟩ := q16
              have r155 := RV.of1 p7 q17 e13
              have hc13 := hc12.ext k57
              have r156 := r155.ext k57
              refine vl rfl rfl (xixs rfl rfl Try.underlying23 ti54 i16 i17) <| vl rfl rfl (xfa rfl fa54_1) <| vl rfl rfl (xld rfl ti3 (hc13.at 1 rfl)) <| sbsv (cs := [.int .i64 x17.2]) Try.underlying22 ti3 rfl (pc rfl pn) rfl rfl rfl rfl rfl fun b16 w24 hx10 hg7 hb33 => ?_
              have k59 := k57.tr hx10
              have k60 := k58.tr hx10
              have zs23 := Nat.le_trans zs21 hx10.size
              have zs24 := Nat.le_trans zs22 hx10.size
              have hb34 := hb31.ext hx10
              have r157 := r149.ext hx10
              have r158 := r150.ext hx10
              have r159 := r151.ext hx10
              have r160 := r152.ext hx10
              have r161 := r153.ext hx10
              have r162 := r154.ext hx10
              have o16 := o14.ext hx10
              have O42 := o15.ext hx10
              have o17 : Row (α := Int) 3 w23.heap.size w24 (.slice (some ⟨b16, 0, none⟩) 1 1) [x17.2] := Row.lit hg7 hb33 rfl (ble rfl)
              have hz := bs hB24; obtain ⟨x18, Ex18, hB24⟩ := hz
              refine sapx (l := y1) (k := ([x17.2] : List Int)) l7_j6 rfl Try.underlying22 ti3 rfl rfl O42 (RV.els o17.rv) Ex18 k60.size fun v23 w25 o18 hB26 hgr5 how5 => ?_
              have k61 := Ext.grow k59 hx1.size hB26
              have k62 : Ext w1 w25 := k60.trans hB26
              have X6 := Apart.app how5 (Apart.symm X5) o16.own_lt
              have zs25 := Nat.le_trans zs23 hgr5.size
              have zs26 := Nat.le_trans zs24 hgr5.size
              have hb35 := hb1.ext k62
              have r164 := r10.ext k62
              have r165 := r11.ext k62
              have r166 := r12.ext k62
              have r167 := r13.ext k62
              have r168 := r8.ext k62
              have r169 := r9.ext k62
              have o19 := Row.gra o16 hgr5 (Apart.symm X5)
              have hz := RV.sl o18.rv; obtain ⟨a24, c24, rfl, -, -, -⟩ := hz
              refine vl rfl rfl xas <| nl <| ?_
              cases hB24
              refine lf <| ?_
              exact ⟨_, _, rfl, o18, rfl, o19, X6, l1_j6, l2_j6, l3_j6, l9_j6, zs25, k62⟩
            ·
              have hB24 := ifn hB24 h10
              refine rg <| vl rfl rfl xmv <| vl rfl rfl (xfa l3_j6 fa26_2) <| vl rfl rfl (xld rfl ti23 ((Bx.cs hb31).at 2 rfl)) <| vl rfl rfl (xfa rfl fa52_1) <| vl rfl rfl (xld rfl ti3 ((Bx.cs hb32).at 1 rfl)) <| ?_
              have hz := bs hB24; obtain ⟨x19, Ex19, hB24⟩ := hz
              have hz := (RV.els r5).ix Ex19; obtain ⟨b17, f7, cs11, e14, i18, i19, q18, hc14⟩ := hz
              cases e14
              obtain ⟨_, _, rfl, ⟨a25, c25, rfl, p8, q19, e15⟩, rfl⟩ := q18
              have r170 := RV.of1 p8 q19 e15
              have hc15 := hc14.ext k57
              have r171 := r170.ext k57
              refine vl rfl rfl (xixs rfl rfl Try.underlying23 ti54 i18 i19) <| vl rfl rfl (xfa rfl fa54_1) <| vl rfl rfl (xld rfl ti3 (hc15.at 1 rfl)) <| sbsv (cs := [.int .i64 x19.2]) Try.underlying22 ti3 rfl (pc rfl pn) rfl rfl rfl rfl rfl fun b18 w26 hx11 hg8 hb36 => ?_
              have k63 := k57.tr hx11
              have k64 := k58.tr hx11
              have zs27 := Nat.le_trans zs21 hx11.size
              have zs28 := Nat.le_trans zs22 hx11.size
              have hb37 := hb31.ext hx11
              have r172 := r149.ext hx11
              have r173 := r150.ext hx11
              have r174 := r151.ext hx11
              have r175 := r152.ext hx11
              have r176 := r153.ext hx11
              have r177 := r154.ext hx11
              have o20 := o14.ext hx11
              have O43 := o15.ext hx11
              have o21 : Row (α := Int) 3 w23.heap.size w26 (.slice (some ⟨b18, 0, none⟩) 1 1) [x19.2] := Row.lit hg8 hb36 rfl (ble rfl)
              have hz := bs hB24; obtain ⟨x20, Ex20, hB24⟩ := hz
              refine sapx (l := y1) (k := ([x19.2] : List Int)) l7_j6 rfl Try.underlying22 ti3 rfl rfl O43 (RV.els o21.rv) Ex20 k64.size fun v24 w27 o22 hB28 hgr6 how6 => ?_
              have k65 := Ext.grow k63 hx1.size hB28
              have k66 : Ext w1 w27 := k64.trans hB28
              have X7 := Apart.app how6 (Apart.symm X5) o20.own_lt
              have zs29 := Nat.le_trans zs27 hgr6.size
              have zs30 := Nat.le_trans zs28 hgr6.size
              have hb38 := hb1.ext k66
              have r179 := r10.ext k66
              have r180 := r11.ext k66
              have r181 := r12.ext k66
              have r182 := r13.ext k66
              have r183 := r8.ext k66
              have r184 := r9.ext k66
              have o23 := Row.gra o20 hgr6 (Apart.symm X5)
              have hz := RV.sl o22.rv; obtain ⟨a26, c26, rfl, -, -, -⟩ := hz
              refine vl rfl rfl xas <| nl <| ?_
              cases hB24
              refine lf <| ?_
              exact ⟨_, _, rfl, o22, rfl, o23, X7, l1_j6, l2_j6, l3_j6, l9_j6, zs29, k66⟩
          rintro L w28 ⟨v21, v22, l7_j7, O7_j7, l8_j7, O8_j7, X0_j7, l1_j7, l2_j7, l3_j7, l9_j7, Z0_j7, K0_j7⟩
          have k67 := hx1.tr K0_j7
          have r185 := r8.ext K0_j7
          have r186 := r9.ext K0_j7
          have r187 := r10.ext K0_j7
          have r188 := r11.ext K0_j7
          have r189 := r12.ext K0_j7
          have r190 := r13.ext K0_j7
          have hb39 := hb1.ext K0_j7
          have hz := RV.sl O7_j7.rv; obtain ⟨a27, c27, rfl, -, -, -⟩ := hz
          have hz := RV.sl O8_j7.rv; obtain ⟨a28, c28, rfl, -, -, -⟩ := hz
          cases hB4
          refine lf <| ?_
          exact ⟨_, _, _, _, rfl, l7_j7, O7_j7, l8_j7, O8_j7, X0_j7, l1_j7, l2_j7, l3_j7, l9_j7, Z0_j7, K0_j7⟩
      rintro L w29 ⟨y4, y5, v8, v9, rfl, l7_j8, O7_j8, l8_j8, O8_j8, X0_j8, l1_j8, l2_j8, l3_j8, l9_j8, Z0_j8, K0_j8⟩
      have k68 := hx1.tr K0_j8
      have r191 := r8.ext K0_j8
      have r192 := r9.ext K0_j8
      have r193 := r10.ext K0_j8
      have r194 := r11.ext K0_j8
      have r195 := r12.ext K0_j8
      have r196 := r13.ext K0_j8
      have hb40 := hb1.ext K0_j8
      have hz := RV.sl O7_j8.rv; obtain ⟨a29, c29, rfl, -, -, -⟩ := hz
      have hz := RV.sl O8_j8.rv; obtain ⟨a30, c30, rfl, -, -, -⟩ := hz
      refine rg <| vl rfl rfl xmv <| vl rfl rfl (xadd l9_j8 rfl) <| vl rfl rfl xas <| nl <| ?_
      refine lq m (Nat.lt_succ_self _) <| ?_
      exact ⟨_, _, _, _, _, hB2, l7_j8, O7_j8, l8_j8, O8_j8, rfl, X0_j8, l1_j8, l2_j8, l3_j8, Z0_j8, K0_j8⟩
    ·
      have hB2 := ifn hB2 h4
      refine wp_exit <| ?_
      cases hB2
      refine lf <| ?_
      exact ⟨_, _, rfl, l8_i1, O8_i1, Z0_i1, K0_i1⟩
  rintro L w30 ⟨z1, v7, rfl, l8_j9, O8_j9, Z0_j9, K0_j9⟩
  have k69 := hx1.tr K0_j9
  have hz := RV.sl O8_j9.rv; obtain ⟨a31, c31, rfl, -, -, -⟩ := hz
  refine wp_seq <| rg <| vl rfl rfl xmv <| vl rfl rfl xas <| nl <| ?_
  cases hF
  exact wp_ret <| rt rfl (.tmp l8_j9 rfl .nil) ⟨_, rfl, O8_j9.rv, k69⟩
end Go.Proofs.Ytdimoehnkagghaa
