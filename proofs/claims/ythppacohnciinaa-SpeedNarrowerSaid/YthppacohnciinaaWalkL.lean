/-
  Each function of the program returns what its pure function computes, and leaves all memory that was there as it was. Condition: the pure function computes something.
-/
import Derived.Test.YthppacohnciinaaFacts
import Derived.Test.YthppacohnciinaaPureL
import Derived.Test.YthppacohnciinaaWalkH
namespace Go.Proofs.Ythppacohnciinaa
open Go Go.Md Go.RowKit
attribute [local irreducible] Go.wpList Go.Code.wp Go.Calls Go.Md.Rnd Go.Md.Mt

set_option maxHeartbeats 4000000 in
theorem c6 {w0 : World} {v0 : Value} {x0 : (Int × (List (Int × Int × Int)))} (r0 : RV w0 v0 x0) {v1 : Value} {x1 : (Int × Int × Int)} (r1 : RV w0 v1 x1) {x2 : Int} {v3 : Value} {x3 : (List Int)} (r3 : RV w0 v3 x3) {F : Nat} {r : Bool} (hF : law01_SpeedNarrower F x0 x1 x2 x3 = some r) :
    Calls Try.prog 6 [v0, v1, .int .u8 x2, v3].toArray w0 (Ret fun v w' => v = .bool r ∧ Ext w0 w') := by
  unfold law01_SpeedNarrower at hF
  have hz := id r0; obtain ⟨_, rfl, ⟨_, _, rfl, rfl, ⟨a1, cq1, rfl, p1, q5, e1⟩⟩⟩ := hz
  have r5 := RV.of1 p1 q5 e1
  have hz := id r1; obtain ⟨_, rfl, ⟨_, _, rfl, rfl, ⟨_, _, rfl, rfl, rfl⟩⟩⟩ := hz
  have hz := r3.sl; obtain ⟨a2, cq2, rfl, -, -, -⟩ := hz
  refine entr (n := 151) Try.func6 rfl rfl rfl <| wp_seq <| rg <| sbx rfl rfl fun b5 w1 hx1 hg1 hb1 => ?_
  have r6 := r1.ext hx1
  have r7 := r3.ext hx1
  have r8 := r5.ext hx1
  have r9 := r0.ext hx1
  refine sbx rfl rfl fun b6 w2 hx2 hg2 hb2 => ?_
  have k1 := hx1.tr hx2
  have hb3 := hb1.ext hx2
  have r10 := r8.ext hx2
  have r11 := r7.ext hx2
  have r12 := r6.ext hx2
  refine vl rfl rfl xas <| nl <| wp_seq <| ?_
  have hz := bs hF; obtain ⟨y1, hB1, hF⟩ := hz
  refine ct (fun L w => ∃ v5 : Value, L 9 = v5 ∧ PB 24 w2.heap.size w v5 y1 ∧ L 2 = .int .u8 x2 ∧ L 3 = .slice a2 x3.length cq2 ∧ L 4 = .pointer (some ⟨b5, 0, none⟩) ∧ L 5 = .pointer (some ⟨b6, 0, none⟩) ∧ Ext w2 w) ?_ ?_
  ·
    have hz := bs hB1; obtain ⟨x5, Ex5, hB1⟩ := hz
    have hz := bs hB1; obtain ⟨x6, Ex6, hB1⟩ := hz
    refine wpl [] (.pure true 0 (.pure false 1 (.pure true 3 (.pure false 4 (.pure false 6 (.eff 2 (.eff 5 (.eff 7 (.eff 8 (.pure true 9 (.eff 10 (.eff 11 .fin .stop) .stop)) (.eff 10 (.eff 8 (.pure true 9 (.eff 11 .fin .stop)) .stop) .stop)) (.eff 10 (.eff 7 (.eff 8 (.pure true 9 (.eff 11 .fin .stop)) .stop) .stop) .stop)) (.eff 7 (.eff 5 (.eff 8 (.pure true 9 (.eff 10 (.eff 11 .fin .stop) .stop)) (.eff 10 (.eff 8 (.pure true 9 (.eff 11 .fin .stop)) .stop) .stop)) (.eff 10 (.eff 5 (.eff 8 (.pure true 9 (.eff 11 .fin .stop)) .stop) .stop) .stop)) (.eff 10 (.eff 5 (.eff 7 (.eff 8 (.pure true 9 (.eff 11 .fin .stop)) .stop) .stop) (.eff 7 (.eff 5 (.eff 8 (.pure true 9 (.eff 11 .fin .stop)) .stop) .stop) .stop)) .stop))) (.eff 7 (.eff 2 (.eff 5 (.eff 8 (.pure true 9 (.eff 10 (.eff 11 .fin .stop) .stop)) (.eff 10 (.eff 8 (.pure true 9 (.eff 11 .fin .stop)) .stop) .stop)) (.eff 10 (.eff 5 (.eff 8 (.pure true 9 (.eff 11 .fin .stop)) .stop) .stop) .stop)) (.eff 10 (.eff 2 (.eff 5 (.eff 8 (.pure true 9 (.eff 11 .fin .stop)) .stop) .stop) .stop) .stop)) (.eff 10 (.eff 2 (.eff 5 (.eff 7 (.eff 8 (.pure true 9 (.eff 11 .fin .stop)) .stop) .stop) (.eff 7 (.eff 5 (.eff 8 (.pure true 9 (.eff 11 .fin .stop)) .stop) .stop) .stop)) (.eff 7 (.eff 2 (.eff 5 (.eff 8 (.pure true 9 (.eff 11 .fin .stop)) .stop) .stop) .stop) .stop)) .stop)))))))) mixed (by kernel_rfl) (fun w10 hx7 => ?_)
    have k28 := k1.tr hx7
    have k29 := hx2.tr hx7
    have hb23 := hb3.ext hx7
    have r29 := r10.ext hx7
    have hb24 := hb2.ext hx7
    have r30 := r11.ext hx7
    refine pv rfl rfl rfl (fun _ _ => xfa rfl fa24_0) (.inl rfl) <| pv rfl rfl rfl (fun _ hS => xld rfl ti3 ((Bx.cs (hb23.ext (hS.resolve_left nofun))).at 0 rfl)) (.inr (Ext.refl _)) <| pv rfl rfl rfl (fun _ _ => xfa rfl fa24_1) (.inl rfl) <| pv rfl rfl rfl (fun _ hS => xld rfl ti22 ((Bx.cs (hb23.ext (hS.resolve_left nofun))).at 1 rfl)) (.inr (Ext.refl _)) <| pv rfl rfl rfl (fun _ hS => xlda rfl ti56 rfl (Bx.cs (hb24.ext (hS.resolve_left nofun)))) (.inr (Ext.refl _)) <| ?_
    refine pe rfl ?_ ?_
    ·
      refine sbsv (cs := []) Try.underlying22 ti56 rfl pn rfl rfl rfl rfl rfl fun b10 w11 hx8 hg6 hb25 => ?_
      have k30 := k28.tr hx8
      have k31 := k29.tr hx8
      have k32 := hx7.tr hx8
      have hb26 := hb23.ext hx8
      have r31 := r29.ext hx8
      have hb27 := hb24.ext hx8
      have r32 := r30.ext hx8
      have o8 : Row (α := (Int × Int × Int)) 56 w10.heap.size w11 (.slice (some ⟨b10, 0, none⟩) 0 0) [] := Row.lit hg6 hb25 rfl (ble rfl)
      refine nl ⟨fun _ _ => hx8, ?_⟩
      refine pe rfl ?_ ?_
      ·
        refine sapx (l := ([] : List (Int × Int × Int))) (k := x0.2) rfl rfl Try.underlying22 ti56 rfl rfl o8 (RV.els r31) Ex5 hx8.size fun v8 w12 o9 hB4 hgr3 how3 => ?_
        have k33 := Ext.grow k30 k28.size hB4
        have k34 := Ext.grow k31 k29.size hB4
        have k35 := Ext.grow k32 hx7.size hB4
        have k36 : Ext w10 w12 := hx8.trans hB4
        have hb28 := hb23.ext k36
        have r34 := r29.ext k36
        have hb29 := hb24.ext k36
        have r35 := r30.ext k36
        have hz := RV.sl o9.rv; obtain ⟨a5, cq5, rfl, -, -, -⟩ := hz
        refine nl ⟨fun _ _ => k36, ?_⟩
        refine pe rfl ?_ ?_
        ·
          refine sbsv (cs := [.int .i64 x1.1, .int .i64 x1.2.1, .int .i64 x1.2.2]) Try.underlying22 ti56 rfl (pc rfl pn) rfl rfl rfl rfl rfl fun b11 w13 hx9 hg7 hb30 => ?_
          have k37 := k33.tr hx9
          have k38 := k34.tr hx9
          have k39 := k35.tr hx9
          have k40 := k36.tr hx9
          have hb31 := hb28.ext hx9
          have r36 := r34.ext hx9
          have hb32 := hb29.ext hx9
          have r37 := r35.ext hx9
          have o10 := o9.ext hx9
          have o11 : Row (α := (Int × Int × Int)) 56 w12.heap.size w13 (.slice (some ⟨b11, 0, none⟩) 1 1) [(x1.1, x1.2.1, x1.2.2)] := Row.lit hg7 hb30 rfl (ble rfl)
          refine nl ⟨fun _ _ => k40, ?_⟩
          refine pe rfl ?_ ?_
          ·
            refine sapx (l := x5) (k := ([(x1.1, x1.2.1, x1.2.2)] : List (Int × Int × Int))) rfl rfl Try.underlying22 ti56 rfl rfl o10 (RV.els o11.rv) Ex6 k40.size fun v9 w14 o12 hB5 hgr4 how4 => ?_
            have k41 := Ext.grow k37 k28.size hB5
            have k42 := Ext.grow k38 k29.size hB5
            have k43 := Ext.grow k39 hx7.size hB5
            have k44 : Ext w10 w14 := k40.trans hB5
            have hb33 := hb23.ext k44
            have r39 := r29.ext k44
            have hb34 := hb24.ext k44
            have r40 := r30.ext k44
            have hz := RV.sl o12.rv; obtain ⟨a6, cq6, rfl, -, -, -⟩ := hz
            refine nl ⟨fun _ _ => k44, ?_⟩
            refine pv rfl rfl rfl (fun _ _ => xbdv (r := [.int .i64 x0.1, .slice a6 x6.length cq6]) ti24 sp24 (pc rfl (pc rfl pn)) rfl) (.inl rfl) <| pe1 rfl <| sal ti24 fun b12 w15 hx10 hg8 hb35 => ?_
            have k45 := k41.tr hx10
            have k46 := k42.tr hx10
            have k47 := k43.tr hx10
            have k48 := k44.tr hx10
            have hb36 := hb33.ext hx10
            have r41 := r39.ext hx10
            have hb37 := hb34.ext hx10
            have r42 := r40.ext hx10
            have o13 := o12.ext hx10
            refine nl ⟨fun _ _ => k48, ?_⟩
            refine pe1 rfl <| sst rfl rfl rfl ti24 hb35 rfl rfl (ble rfl) fun w16 hch2 hb38 => ?_
            have k49 := Ext.chg k45 hch2 (Nat.le_trans k41.size hg8)
            have k50 := Ext.chg k46 hch2 (Nat.le_trans k42.size hg8)
            have k51 := Ext.chg k47 hch2 (Nat.le_trans k43.size hg8)
            have k52 := Ext.chg k48 hch2 (Nat.le_trans k44.size hg8)
            have k53 := Ext.chg hx10 hch2 (Nat.le_trans (Nat.le_refl _) hg8)
            have hb39 := hb33.ext k53
            have r43 := r39.ext k53
            have hb40 := hb34.ext k53
            have r44 := r40.ext k53
            have o14 := o12.ext k53
            have hb41 : Bx w16 b12 24 [.int .i64 x0.1, .slice a6 x6.length cq6] := hb38
            refine nl ⟨fun _ _ => k52, ?_⟩
            cases hB1
            refine lf <| ?_
            exact ⟨_, rfl, ⟨_, _, rfl, (Nat.le_trans k43.size hg8), hb41, ⟨[.int .i64 x0.1], [.slice a6 x6.length cq6], rfl, rfl, o14.rv.rep1⟩⟩, rfl, rfl, rfl, rfl, k51⟩
          refine pm rfl ?_ ?_
          ·
            refine sal ti24 fun b13 w17 hx11 hg9 hb42 => ?_
            have k54 := k37.tr hx11
            have k55 := k38.tr hx11
            have k56 := k39.tr hx11
            have k57 := k40.tr hx11
            have k58 := hx9.tr hx11
            have hb43 := hb31.ext hx11
            have r45 := r36.ext hx11
            have hb44 := hb32.ext hx11
            have r46 := r37.ext hx11
            have o15 := o10.ext hx11
            have o16 := o11.ext hx11
            refine nl ⟨fun _ _ => k57, ?_⟩
            refine pe1 rfl <| sapx (l := x5) (k := ([(x1.1, x1.2.1, x1.2.2)] : List (Int × Int × Int))) rfl rfl Try.underlying22 ti56 rfl rfl o15 (RV.els o16.rv) Ex6 k57.size fun v10 w18 o17 hB6 hgr5 how5 => ?_
            have k59 := Ext.grow k54 k28.size hB6
            have k60 := Ext.grow k55 k29.size hB6
            have k61 := Ext.grow k56 hx7.size hB6
            have k62 : Ext w10 w18 := k57.trans hB6
            have hb45 := hb23.ext k62
            have r47 := r29.ext k62
            have hb46 := hb24.ext k62
            have ne1 := ne_app how5 (Row.ne_new o10 hg9) hb42.lt
            have hb47 := Bx.gr hb42 hgr5 (Row.ne_new o10 hg9)
            have r48 := r30.ext k62
            have hz := RV.sl o17.rv; obtain ⟨a7, cq7, rfl, -, -, -⟩ := hz
            refine nl ⟨fun _ _ => k62, ?_⟩
            refine pv rfl rfl rfl (fun _ _ => xbdv (r := [.int .i64 x0.1, .slice a7 x6.length cq7]) ti24 sp24 (pc rfl (pc rfl pn)) rfl) (.inl rfl) <| pe1 rfl <| sst rfl rfl rfl ti24 hb47 rfl rfl (ble rfl) fun w19 hch3 hb48 => ?_
            have k63 := Ext.chg k59 hch3 (Nat.le_trans k28.size (Nat.le_trans k40.size hg9))
            have k64 := Ext.chg k60 hch3 (Nat.le_trans k29.size (Nat.le_trans k40.size hg9))
            have k65 := Ext.chg k61 hch3 (Nat.le_trans hx7.size (Nat.le_trans k40.size hg9))
            have k66 := Ext.chg k62 hch3 (Nat.le_trans (Nat.le_refl _) (Nat.le_trans k40.size hg9))
            have hb49 := hb23.ext k66
            have r49 := r29.ext k66
            have hb50 := hb24.ext k66
            have r50 := r30.ext k66
            have o18 := Row.chgn o17 hch3 ne1
            have hb51 : Bx w19 b13 24 [.int .i64 x0.1, .slice a7 x6.length cq7] := hb48
            refine nl ⟨fun _ _ => k66, ?_⟩
            cases hB1
            refine lf <| ?_
            exact ⟨_, rfl, ⟨_, _, rfl, (Nat.le_trans hx7.size (Nat.le_trans k40.size hg9)), hb51, ⟨[.int .i64 x0.1], [.slice a7 x6.length cq7], rfl, rfl, o18.rv.rep1⟩⟩, rfl, rfl, rfl, rfl, k65⟩
          trivial
        refine pm rfl ?_ ?_
        ·
          refine sal ti24 fun b14 w20 hx12 hg10 hb52 => ?_
          have k67 := k33.tr hx12
          have k68 := k34.tr hx12
          have k69 := k35.tr hx12
          have k70 := k36.tr hx12
          have hb53 := hb28.ext hx12
          have r51 := r34.ext hx12
          have hb54 := hb29.ext hx12
          have r52 := r35.ext hx12
          have o19 := o9.ext hx12
          refine nl ⟨fun _ _ => k70, ?_⟩
          refine pe1 rfl <| sbsv (cs := [.int .i64 x1.1, .int .i64 x1.2.1, .int .i64 x1.2.2]) Try.underlying22 ti56 rfl (pc rfl pn) rfl rfl rfl rfl rfl fun b15 w21 hx13 hg11 hb55 => ?_
          have k71 := k67.tr hx13
          have k72 := k68.tr hx13
          have k73 := k69.tr hx13
          have k74 := k70.tr hx13
          have k75 := hx12.tr hx13
          have hb56 := hb53.ext hx13
          have r53 := r51.ext hx13
          have hb57 := hb54.ext hx13
          have hb58 := hb52.ext hx13
          have r54 := r52.ext hx13
          have o20 := o19.ext hx13
          have o21 : Row (α := (Int × Int × Int)) 56 w20.heap.size w21 (.slice (some ⟨b15, 0, none⟩) 1 1) [(x1.1, x1.2.1, x1.2.2)] := Row.lit hg11 hb55 rfl (ble rfl)
          refine nl ⟨fun _ _ => k74, ?_⟩
          refine pe1 rfl <| sapx (l := x5) (k := ([(x1.1, x1.2.1, x1.2.2)] : List (Int × Int × Int))) rfl rfl Try.underlying22 ti56 rfl rfl o20 (RV.els o21.rv) Ex6 k74.size fun v11 w22 o22 hB7 hgr6 how6 => ?_
          have k76 := Ext.grow k71 k28.size hB7
          have k77 := Ext.grow k72 k29.size hB7
          have k78 := Ext.grow k73 hx7.size hB7
          have k79 : Ext w10 w22 := k74.trans hB7
          have hb59 := hb23.ext k79
          have r56 := r29.ext k79
          have hb60 := hb24.ext k79
          have ne2 := ne_app how6 (Row.ne_new o9 hg10) hb58.lt
          have hb61 := Bx.gr hb58 hgr6 (Row.ne_new o9 hg10)
          have r57 := r30.ext k79
          have hz := RV.sl o22.rv; obtain ⟨a8, cq8, rfl, -, -, -⟩ := hz
          refine nl ⟨fun _ _ => k79, ?_⟩
          refine pv rfl rfl rfl (fun _ _ => xbdv (r := [.int .i64 x0.1, .slice a8 x6.length cq8]) ti24 sp24 (pc rfl (pc rfl pn)) rfl) (.inl rfl) <| pe1 rfl <| sst rfl rfl rfl ti24 hb61 rfl rfl (ble rfl) fun w23 hch4 hb62 => ?_
          have k80 := Ext.chg k76 hch4 (Nat.le_trans k28.size (Nat.le_trans k36.size hg10))
          have k81 := Ext.chg k77 hch4 (Nat.le_trans k29.size (Nat.le_trans k36.size hg10))
          have k82 := Ext.chg k78 hch4 (Nat.le_trans hx7.size (Nat.le_trans k36.size hg10))
          have k83 := Ext.chg k79 hch4 (Nat.le_trans (Nat.le_refl _) (Nat.le_trans k36.size hg10))
          have hb63 := hb23.ext k83
          have r58 := r29.ext k83
          have hb64 := hb24.ext k83
          have r59 := r30.ext k83
          have o23 := Row.chgn o22 hch4 ne2
          have hb65 : Bx w23 b14 24 [.int .i64 x0.1, .slice a8 x6.length cq8] := hb62
          refine nl ⟨fun _ _ => k83, ?_⟩
          cases hB1
          refine lf <| ?_
          exact ⟨_, rfl, ⟨_, _, rfl, (Nat.le_trans hx7.size (Nat.le_trans k36.size hg10)), hb65, ⟨[.int .i64 x0.1], [.slice a8 x6.length cq8], rfl, rfl, o23.rv.rep1⟩⟩, rfl, rfl, rfl, rfl, k82⟩
        trivial
      refine pm rfl ?_ ?_
      ·
        refine sbsv (cs := [.int .i64 x1.1, .int .i64 x1.2.1, .int .i64 x1.2.2]) Try.underlying22 ti56 rfl (pc rfl pn) rfl rfl rfl rfl rfl fun b16 w24 hx14 hg12 hb66 => ?_
        have k84 := k30.tr hx14
        have k85 := k31.tr hx14
        have k86 := k32.tr hx14
        have k87 := hx8.tr hx14
        have hb67 := hb26.ext hx14
        have r60 := r31.ext hx14
        have hb68 := hb27.ext hx14
        have r61 := r32.ext hx14
        have o24 := o8.ext hx14
        have o25 : Row (α := (Int × Int × Int)) 56 w11.heap.size w24 (.slice (some ⟨b16, 0, none⟩) 1 1) [(x1.1, x1.2.1, x1.2.2)] := Row.lit hg12 hb66 rfl (ble rfl)
        refine nl ⟨fun _ _ => k87, ?_⟩
        refine pe rfl ?_ ?_
        ·
          refine sapx (l := ([] : List (Int × Int × Int))) (k := x0.2) rfl rfl Try.underlying22 ti56 rfl rfl o24 (RV.els r60) Ex5 k87.size fun v12 w25 o26 hB8 hgr7 how7 => ?_
          have k88 := Ext.grow k84 k28.size hB8
          have k89 := Ext.grow k85 k29.size hB8
          have k90 := Ext.grow k86 hx7.size hB8
          have k91 : Ext w10 w25 := k87.trans hB8
          have hb69 := hb23.ext k91
          have r63 := r29.ext k91
          have hb70 := hb24.ext k91
          have r64 := r30.ext k91
          have o27 := Row.gr o25 hgr7 (Row.own_lt o8)
          have hz := RV.sl o26.rv; obtain ⟨a9, cq9, rfl, -, -, -⟩ := hz
          refine nl ⟨fun _ _ => k91, ?_⟩
          refine pe rfl ?_ ?_
          ·
            refine sapx (l := x5) (k := ([(x1.1, x1.2.1, x1.2.2)] : List (Int × Int × Int))) rfl rfl Try.underlying22 ti56 rfl rfl o26 (RV.els o27.rv) Ex6 k91.size fun v13 w26 o28 hB9 hgr8 how8 => ?_
            have k92 := Ext.grow k88 k28.size hB9
            have k93 := Ext.grow k89 k29.size hB9
            have k94 := Ext.grow k90 hx7.size hB9
            have k95 : Ext w10 w26 := k91.trans hB9
            have hb71 := hb23.ext k95
            have r65 := r29.ext k95
            have hb72 := hb24.ext k95
            have r66 := r30.ext k95
            have hz := RV.sl o28.rv; obtain ⟨a10, cq10, rfl, -, -, -⟩ := hz
            refine nl ⟨fun _ _ => k95, ?_⟩
            refine pv rfl rfl rfl (fun _ _ => xbdv (r := [.int .i64 x0.1, .slice a10 x6.length cq10]) ti24 sp24 (pc rfl (pc rfl pn)) rfl) (.inl rfl) <| pe1 rfl <| sal ti24 fun b17 w27 hx15 hg13 hb73 => ?_
            have k96 := k92.tr hx15
            have k97 := k93.tr hx15
            have k98 := k94.tr hx15
            have k99 := k95.tr hx15
            have hb74 := hb71.ext hx15
            have r67 := r65.ext hx15
            have hb75 := hb72.ext hx15
            have r68 := r66.ext hx15
            have o29 := o28.ext hx15
            refine nl ⟨fun _ _ => k99, ?_⟩
            refine pe1 rfl <| sst rfl rfl rfl ti24 hb73 rfl rfl (ble rfl) fun w28 hch5 hb76 => ?_
            have k100 := Ext.chg k96 hch5 (Nat.le_trans k92.size hg13)
            have k101 := Ext.chg k97 hch5 (Nat.le_trans k93.size hg13)
            have k102 := Ext.chg k98 hch5 (Nat.le_trans k94.size hg13)
            have k103 := Ext.chg k99 hch5 (Nat.le_trans k95.size hg13)
            have k104 := Ext.chg hx15 hch5 (Nat.le_trans (Nat.le_refl _) hg13)
            have hb77 := hb71.ext k104
            have r69 := r65.ext k104
            have hb78 := hb72.ext k104
            have r70 := r66.ext k104
            have o30 := o28.ext k104
            have hb79 : Bx w28 b17 24 [.int .i64 x0.1, .slice a10 x6.length cq10] := hb76
            refine nl ⟨fun _ _ => k103, ?_⟩
            cases hB1
            refine lf <| ?_
            exact ⟨_, rfl, ⟨_, _, rfl, (Nat.le_trans k94.size hg13), hb79, ⟨[.int .i64 x0.1], [.slice a10 x6.length cq10], rfl, rfl, o30.rv.rep1⟩⟩, rfl, rfl, rfl, rfl, k102⟩
          refine pm rfl ?_ ?_
          ·
            refine sal ti24 fun b18 w29 hx16 hg14 hb80 => ?_
            have k105 := k88.tr hx16
            have k106 := k89.tr hx16
            have k107 := k90.tr hx16
            have k108 := k91.tr hx16
            have hb81 := hb69.ext hx16
            have r71 := r63.ext hx16
            have hb82 := hb70.ext hx16
            have r72 := r64.ext hx16
            have o31 := o27.ext hx16
            have o32 := o26.ext hx16
            refine nl ⟨fun _ _ => k108, ?_⟩
            refine pe1 rfl <| sapx (l := x5) (k := ([(x1.1, x1.2.1, x1.2.2)] : List (Int × Int × Int))) rfl rfl Try.underlying22 ti56 rfl rfl o32 (RV.els o31.rv) Ex6 k108.size fun v14 w30 o33 hB10 hgr9 how9 => ?_
            have k109 := Ext.grow k105 k28.size hB10
            have k110 := Ext.grow k106 k29.size hB10
            have k111 := Ext.grow k107 hx7.size hB10
            have k112 : Ext w10 w30 := k108.trans hB10
            have hb83 := hb23.ext k112
            have r73 := r29.ext k112
            have hb84 := hb24.ext k112
            have ne3 := ne_app how9 (Row.ne_new o26 hg14) hb80.lt
            have hb85 := Bx.gr hb80 hgr9 (Row.ne_new o26 hg14)
            have r74 := r30.ext k112
            have hz := RV.sl o33.rv; obtain ⟨a11, cq11, rfl, -, -, -⟩ := hz
            refine nl ⟨fun _ _ => k112, ?_⟩
            refine pv rfl rfl rfl (fun _ _ => xbdv (r := [.int .i64 x0.1, .slice a11 x6.length cq11]) ti24 sp24 (pc rfl (pc rfl pn)) rfl) (.inl rfl) <| pe1 rfl <| sst rfl rfl rfl ti24 hb85 rfl rfl (ble rfl) fun w31 hch6 hb86 => ?_
            have k113 := Ext.chg k109 hch6 (Nat.le_trans k28.size (Nat.le_trans k91.size hg14))
            have k114 := Ext.chg k110 hch6 (Nat.le_trans k29.size (Nat.le_trans k91.size hg14))
            have k115 := Ext.chg k111 hch6 (Nat.le_trans hx7.size (Nat.le_trans k91.size hg14))
            have k116 := Ext.chg k112 hch6 (Nat.le_trans (Nat.le_refl _) (Nat.le_trans k91.size hg14))
            have hb87 := hb23.ext k116
            have r75 := r29.ext k116
            have hb88 := hb24.ext k116
            have r76 := r30.ext k116
            have o34 := Row.chgn o33 hch6 ne3
            have hb89 : Bx w31 b18 24 [.int .i64 x0.1, .slice a11 x6.length cq11] := hb86
            refine nl ⟨fun _ _ => k116, ?_⟩
            cases hB1
            refine lf <| ?_
            exact ⟨_, rfl, ⟨_, _, rfl, (Nat.le_trans hx7.size (Nat.le_trans k91.size hg14)), hb89, ⟨[.int .i64 x0.1], [.slice a11 x6.length cq11], rfl, rfl, o34.rv.rep1⟩⟩, rfl, rfl, rfl, rfl, k115⟩
          trivial
        refine pm rfl ?_ ?_
        ·
          refine sal ti24 fun b19 w32 hx17 hg15 hb90 => ?_
          have k117 := k84.tr hx17
          have k118 := k85.tr hx17
          have k119 := k86.tr hx17
          have k120 := k87.tr hx17
          have k121 := hx14.tr hx17
          have hb91 := hb67.ext hx17
          have r77 := r60.ext hx17
          have hb92 := hb68.ext hx17
          have r78 := r61.ext hx17
          have o35 := o24.ext hx17
          have o36 := o25.ext hx17
          refine nl ⟨fun _ _ => k120, ?_⟩
          refine pe1 rfl <| sapx (l := ([] : List (Int × Int × Int))) (k := x0.2) rfl rfl Try.underlying22 ti56 rfl rfl o35 (RV.els r77) Ex5 k120.size fun v15 w33 o37 hB11 hgr10 how10 => ?_
          have k122 := Ext.grow k117 k28.size hB11
          have k123 := Ext.grow k118 k29.size hB11
          have k124 := Ext.grow k119 hx7.size hB11
          have k125 : Ext w10 w33 := k120.trans hB11
          have hb93 := hb23.ext k125
          have r79 := r29.ext k125
          have hb94 := hb24.ext k125
          have ne4 := ne_app how10 (Row.ne_new o24 hg15) hb90.lt
          have hb95 := Bx.gr hb90 hgr10 (Row.ne_new o24 hg15)
          have r80 := r30.ext k125
          have o38 := Row.gr o36 hgr10 (Row.own_lt o8)
          have hz := RV.sl o37.rv; obtain ⟨a12, cq12, rfl, -, -, -⟩ := hz
          refine nl ⟨fun _ _ => k125, ?_⟩
          refine pe1 rfl <| sapx (l := x5) (k := ([(x1.1, x1.2.1, x1.2.2)] : List (Int × Int × Int))) rfl rfl Try.underlying22 ti56 rfl rfl o37 (RV.els o38.rv) Ex6 k125.size fun v16 w34 o39 hB12 hgr11 how11 => ?_
          have k126 := Ext.grow k122 k28.size hB12
          have k127 := Ext.grow k123 k29.size hB12
          have k128 := Ext.grow k124 hx7.size hB12
          have k129 : Ext w10 w34 := k125.trans hB12
          have hb96 := hb23.ext k129
          have r81 := r29.ext k129
          have hb97 := hb24.ext k129
          have ne5 := ne_app how11 ne4 hb95.lt
          have hb98 := Bx.gr hb95 hgr11 ne4
          have r82 := r30.ext k129
          have hz := RV.sl o39.rv; obtain ⟨a13, cq13, rfl, -, -, -⟩ := hz
          refine nl ⟨fun _ _ => k129, ?_⟩
          refine pv rfl rfl rfl (fun _ _ => xbdv (r := [.int .i64 x0.1, .slice a13 x6.length cq13]) ti24 sp24 (pc rfl (pc rfl pn)) rfl) (.inl rfl) <| pe1 rfl <| sst rfl rfl rfl ti24 hb98 rfl rfl (ble rfl) fun w35 hch7 hb99 => ?_
          have k130 := Ext.chg k126 hch7 (Nat.le_trans k28.size (Nat.le_trans k87.size hg15))
          have k131 := Ext.chg k127 hch7 (Nat.le_trans k29.size (Nat.le_trans k87.size hg15))
          have k132 := Ext.chg k128 hch7 (Nat.le_trans hx7.size (Nat.le_trans k87.size hg15))
          have k133 := Ext.chg k129 hch7 (Nat.le_trans (Nat.le_refl _) (Nat.le_trans k87.size hg15))
          have hb100 := hb23.ext k133
          have r83 := r29.ext k133
          have hb101 := hb24.ext k133
          have r84 := r30.ext k133
          have o40 := Row.chgn o39 hch7 ne5
          have hb102 : Bx w35 b19 24 [.int .i64 x0.1, .slice a13 x6.length cq13] := hb99
          refine nl ⟨fun _ _ => k133, ?_⟩
          cases hB1
          refine lf <| ?_
          exact ⟨_, rfl, ⟨_, _, rfl, (Nat.le_trans hx7.size (Nat.le_trans k87.size hg15)), hb102, ⟨[.int .i64 x0.1], [.slice a13 x6.length cq13], rfl, rfl, o40.rv.rep1⟩⟩, rfl, rfl, rfl, rfl, k132⟩
        trivial
      refine pm rfl ?_ ?_
      ·
        refine sal ti24 fun b20 w36 hx18 hg16 hb103 => ?_
        have k134 := k30.tr hx18
        have k135 := k31.tr hx18
        have k136 := k32.tr hx18
        have k137 := hx8.tr hx18
        have hb104 := hb26.ext hx18
        have r85 := r31.ext hx18
        have hb105 := hb27.ext hx18
        have r86 := r32.ext hx18
        have o41 := o8.ext hx18
        refine nl ⟨fun _ _ => k137, ?_⟩
        refine pe rfl ?_ ?_
        ·
          refine sapx (l := ([] : List (Int × Int × Int))) (k := x0.2) rfl rfl Try.underlying22 ti56 rfl rfl o41 (RV.els r85) Ex5 k137.size fun v17 w37 o42 hB13 hgr12 how12 => ?_
          have k138 := Ext.grow k134 k28.size hB13
          have k139 := Ext.grow k135 k29.size hB13
          have k140 := Ext.grow k136 hx7.size hB13
          have k141 : Ext w10 w37 := k137.trans hB13
          have hb106 := hb23.ext k141
          have r87 := r29.ext k141
          have hb107 := hb24.ext k141
          have ne6 := ne_app how12 (Row.ne_new o8 hg16) hb103.lt
          have hb108 := Bx.gr hb103 hgr12 (Row.ne_new o8 hg16)
          have r88 := r30.ext k141
          have hz := RV.sl o42.rv; obtain ⟨a14, cq14, rfl, -, -, -⟩ := hz
          refine nl ⟨fun _ _ => k141, ?_⟩
          refine pe1 rfl <| sbsv (cs := [.int .i64 x1.1, .int .i64 x1.2.1, .int .i64 x1.2.2]) Try.underlying22 ti56 rfl (pc rfl pn) rfl rfl rfl rfl rfl fun b21 w38 hx19 hg17 hb109 => ?_
          have k142 := k138.tr hx19
          have k143 := k139.tr hx19
          have k144 := k140.tr hx19
          have k145 := k141.tr hx19
          have hb110 := hb106.ext hx19
          have r89 := r87.ext hx19
          have hb111 := hb107.ext hx19
          have hb112 := hb108.ext hx19
          have r90 := r88.ext hx19
          have o43 := o42.ext hx19
          have o44 : Row (α := (Int × Int × Int)) 56 w37.heap.size w38 (.slice (some ⟨b21, 0, none⟩) 1 1) [(x1.1, x1.2.1, x1.2.2)] := Row.lit hg17 hb109 rfl (ble rfl)
          refine nl ⟨fun _ _ => k145, ?_⟩
          refine pe1 rfl <| sapx (l := x5) (k := ([(x1.1, x1.2.1, x1.2.2)] : List (Int × Int × Int))) rfl rfl Try.underlying22 ti56 rfl rfl o43 (RV.els o44.rv) Ex6 k145.size fun v18 w39 o45 hB14 hgr13 how13 => ?_
          have k146 := Ext.grow k142 k28.size hB14
          have k147 := Ext.grow k143 k29.size hB14
          have k148 := Ext.grow k144 hx7.size hB14
          have k149 : Ext w10 w39 := k145.trans hB14
          have hb113 := hb23.ext k149
          have r92 := r29.ext k149
          have hb114 := hb24.ext k149
          have ne7 := ne_app how13 ne6 hb112.lt
          have hb115 := Bx.gr hb112 hgr13 ne6
          have r93 := r30.ext k149
          have hz := RV.sl o45.rv; obtain ⟨a15, cq15, rfl, -, -, -⟩ := hz
          refine nl ⟨fun _ _ => k149, ?_⟩
          refine pv rfl rfl rfl (fun _ _ => xbdv (r := [.int .i64 x0.1, .slice a15 x6.length cq15]) ti24 sp24 (pc rfl (pc rfl pn)) rfl) (.inl rfl) <| pe1 rfl <| sst rfl rfl rfl ti24 hb115 rfl rfl (ble rfl) fun w40 hch8 hb116 => ?_
          have k150 := Ext.chg k146 hch8 (Nat.le_trans k28.size (Nat.le_trans hx8.size hg16))
          have k151 := Ext.chg k147 hch8 (Nat.le_trans k29.size (Nat.le_trans hx8.size hg16))
          have k152 := Ext.chg k148 hch8 (Nat.le_trans hx7.size (Nat.le_trans hx8.size hg16))
          have k153 := Ext.chg k149 hch8 (Nat.le_trans (Nat.le_refl _) (Nat.le_trans hx8.size hg16))
          have hb117 := hb23.ext k153
          have r94 := r29.ext k153
          have hb118 := hb24.ext k153
          have r95 := r30.ext k153
          have o46 := Row.chgn o45 hch8 ne7
          have hb119 : Bx w40 b20 24 [.int .i64 x0.1, .slice a15 x6.length cq15] := hb116
          refine nl ⟨fun _ _ => k153, ?_⟩
          cases hB1
          refine lf <| ?_
          exact ⟨_, rfl, ⟨_, _, rfl, (Nat.le_trans hx7.size (Nat.le_trans hx8.size hg16)), hb119, ⟨[.int .i64 x0.1], [.slice a15 x6.length cq15], rfl, rfl, o46.rv.rep1⟩⟩, rfl, rfl, rfl, rfl, k152⟩
        refine pm rfl ?_ ?_
        ·
          refine sbsv (cs := [.int .i64 x1.1, .int .i64 x1.2.1, .int .i64 x1.2.2]) Try.underlying22 ti56 rfl (pc rfl pn) rfl rfl rfl rfl rfl fun b22 w41 hx20 hg18 hb120 => ?_
          have k154 := k134.tr hx20
          have k155 := k135.tr hx20
          have k156 := k136.tr hx20
          have k157 := k137.tr hx20
          have k158 := hx18.tr hx20
          have hb121 := hb104.ext hx20
          have r96 := r85.ext hx20
          have hb122 := hb105.ext hx20
          have hb123 := hb103.ext hx20
          have r97 := r86.ext hx20
          have o47 := o41.ext hx20
          have o48 : Row (α := (Int × Int × Int)) 56 w36.heap.size w41 (.slice (some ⟨b22, 0, none⟩) 1 1) [(x1.1, x1.2.1, x1.2.2)] := Row.lit hg18 hb120 rfl (ble rfl)
          refine nl ⟨fun _ _ => k157, ?_⟩
          refine pe1 rfl <| sapx (l := ([] : List (Int × Int × Int))) (k := x0.2) rfl rfl Try.underlying22 ti56 rfl rfl o47 (RV.els r96) Ex5 k157.size fun v19 w42 o49 hB15 hgr14 how14 => ?_
          have k159 := Ext.grow k154 k28.size hB15
          have k160 := Ext.grow k155 k29.size hB15
          have k161 := Ext.grow k156 hx7.size hB15
          have k162 : Ext w10 w42 := k157.trans hB15
          have hb124 := hb23.ext k162
          have r99 := r29.ext k162
          have hb125 := hb24.ext k162
          have ne8 := ne_app how14 (Row.ne_new o8 hg16) hb123.lt
          have hb126 := Bx.gr hb123 hgr14 (Row.ne_new o8 hg16)
          have r100 := r30.ext k162
          have o50 := Row.gr o48 hgr14 (Row.own_lt o41)
          have hz := RV.sl o49.rv; obtain ⟨a16, cq16, rfl, -, -, -⟩ := hz
          refine nl ⟨fun _ _ => k162, ?_⟩
          refine pe1 rfl <| sapx (l := x5) (k := ([(x1.1, x1.2.1, x1.2.2)] : List (Int × Int × Int))) rfl rfl Try.underlying22 ti56 rfl rfl o49 (RV.els o50.rv) Ex6 k162.size fun v20 w43 o51 hB16 hgr15 how15 => ?_
          have k163 := Ext.grow k159 k28.size hB16
          have k164 := Ext.grow k160 k29.size hB16
          have k165 := Ext.grow k161 hx7.size hB16
          have k166 : Ext w10 w43 := k162.trans hB16
          have hb127 := hb23.ext k166
          have r101 := r29.ext k166
          have hb128 := hb24.ext k166
          have ne9 := ne_app how15 ne8 hb126.lt
          have hb129 := Bx.gr hb126 hgr15 ne8
          have r102 := r30.ext k166
          have hz := RV.sl o51.rv; obtain ⟨a17, cq17, rfl, -, -, -⟩ := hz
          refine nl ⟨fun _ _ => k166, ?_⟩
          refine pv rfl rfl rfl (fun _ _ => xbdv (r := [.int .i64 x0.1, .slice a17 x6.length cq17]) ti24 sp24 (pc rfl (pc rfl pn)) rfl) (.inl rfl) <| pe1 rfl <| sst rfl rfl rfl ti24 hb129 rfl rfl (ble rfl) fun w44 hch9 hb130 => ?_
          have k167 := Ext.chg k163 hch9 (Nat.le_trans k28.size (Nat.le_trans hx8.size hg16))
          have k168 := Ext.chg k164 hch9 (Nat.le_trans k29.size (Nat.le_trans hx8.size hg16))
          have k169 := Ext.chg k165 hch9 (Nat.le_trans hx7.size (Nat.le_trans hx8.size hg16))
          have k170 := Ext.chg k166 hch9 (Nat.le_trans (Nat.le_refl _) (Nat.le_trans hx8.size hg16))
          have hb131 := hb23.ext k170
          have r103 := r29.ext k170
          have hb132 := hb24.ext k170
          have r104 := r30.ext k170
          have o52 := Row.chgn o51 hch9 ne9
          have hb133 : Bx w44 b20 24 [.int .i64 x0.1, .slice a17 x6.length cq17] := hb130
          refine nl ⟨fun _ _ => k170, ?_⟩
          cases hB1
          refine lf <| ?_
          exact ⟨_, rfl, ⟨_, _, rfl, (Nat.le_trans hx7.size (Nat.le_trans hx8.size hg16)), hb133, ⟨[.int .i64 x0.1], [.slice a17 x6.length cq17], rfl, rfl, o52.rv.rep1⟩⟩, rfl, rfl, rfl, rfl, k169⟩
        trivial
      trivial
    refine pm rfl ?_ ?_
    ·
      refine sbsv (cs := [.int .i64 x1.1, .int .i64 x1.2.1, .int .i64 x1.2.2]) Try.underlying22 ti56 rfl (pc rfl pn) rfl rfl rfl rfl rfl fun b23 w45 hx21 hg19 hb134 => ?_
      have k171 := k28.tr hx21
      have k172 := k29.tr hx21
      have k173 := hx7.tr hx21
      have hb135 := hb23.ext hx21
      have r105 := r29.ext hx21
      have hb136 := hb24.ext hx21
      have r106 := r30.ext hx21
      have o53 : Row (α := (Int × Int × Int)) 56 w10.heap.size w45 (.slice (some ⟨b23, 0, none⟩) 1 1) [(x1.1, x1.2.1, x1.2.2)] := Row.lit hg19 hb134 rfl (ble rfl)
      refine nl ⟨fun _ _ => hx21, ?_⟩
      refine pe rfl ?_ ?_
      ·
        refine sbsv (cs := []) Try.underlying22 ti56 rfl pn rfl rfl rfl rfl rfl fun b24 w46 hx22 hg20 hb137 => ?_
        have k174 := k171.tr hx22
        have k175 := k172.tr hx22
        have k176 := k173.tr hx22
        have k177 := hx21.tr hx22
        have hb138 := hb135.ext hx22
        have r108 := r105.ext hx22
        have hb139 := hb136.ext hx22
        have r109 := r106.ext hx22
        have o54 := o53.ext hx22
        have o55 : Row (α := (Int × Int × Int)) 56 w45.heap.size w46 (.slice (some ⟨b24, 0, none⟩) 0 0) [] := Row.lit hg20 hb137 rfl (ble rfl)
        refine nl ⟨fun _ _ => k177, ?_⟩
        refine pe rfl ?_ ?_
        ·
          refine sapx (l := ([] : List (Int × Int × Int))) (k := x0.2) rfl rfl Try.underlying22 ti56 rfl rfl o55 (RV.els r108) Ex5 hx22.size fun v21 w47 o56 hB17 hgr16 how16 => ?_
          have k178 := Ext.grow k174 k171.size hB17
          have k179 := Ext.grow k175 k172.size hB17
          have k180 := Ext.grow k176 k173.size hB17
          have k181 := Ext.grow k177 hx21.size hB17
          have k182 : Ext w45 w47 := hx22.trans hB17
          have hb140 := hb135.ext k182
          have r111 := r105.ext k182
          have hb141 := hb136.ext k182
          have r112 := r106.ext k182
          have o57 := o53.ext k182
          have hz := RV.sl o56.rv; obtain ⟨a18, cq18, rfl, -, -, -⟩ := hz
          refine nl ⟨fun _ _ => k181, ?_⟩
          refine pe rfl ?_ ?_
          ·
            refine sapx (l := x5) (k := ([(x1.1, x1.2.1, x1.2.2)] : List (Int × Int × Int))) rfl rfl Try.underlying22 ti56 rfl rfl o56 (RV.els o57.rv) Ex6 k182.size fun v22 w48 o58 hB18 hgr17 how17 => ?_
            have k183 := Ext.grow k178 k171.size hB18
            have k184 := Ext.grow k179 k172.size hB18
            have k185 := Ext.grow k180 k173.size hB18
            have k186 := Ext.grow k181 hx21.size hB18
            have k187 : Ext w45 w48 := k182.trans hB18
            have hb142 := hb135.ext k187
            have r113 := r105.ext k187
            have hb143 := hb136.ext k187
            have r114 := r106.ext k187
            have hz := RV.sl o58.rv; obtain ⟨a19, cq19, rfl, -, -, -⟩ := hz
            refine nl ⟨fun _ _ => k186, ?_⟩
            refine pv rfl rfl rfl (fun _ _ => xbdv (r := [.int .i64 x0.1, .slice a19 x6.length cq19]) ti24 sp24 (pc rfl (pc rfl pn)) rfl) (.inl rfl) <| pe1 rfl <| sal ti24 fun b25 w49 hx23 hg21 hb144 => ?_
            have k188 := k183.tr hx23
            have k189 := k184.tr hx23
            have k190 := k185.tr hx23
            have k191 := k186.tr hx23
            have k192 := k187.tr hx23
            have hb145 := hb142.ext hx23
            have r115 := r113.ext hx23
            have hb146 := hb143.ext hx23
            have r116 := r114.ext hx23
            have o59 := o58.ext hx23
            refine nl ⟨fun _ _ => k191, ?_⟩
            refine pe1 rfl <| sst rfl rfl rfl ti24 hb144 rfl rfl (ble rfl) fun w50 hch10 hb147 => ?_
            have k193 := Ext.chg k188 hch10 (Nat.le_trans k183.size hg21)
            have k194 := Ext.chg k189 hch10 (Nat.le_trans k184.size hg21)
            have k195 := Ext.chg k190 hch10 (Nat.le_trans k185.size hg21)
            have k196 := Ext.chg k191 hch10 (Nat.le_trans k186.size hg21)
            have k197 := Ext.chg k192 hch10 (Nat.le_trans k187.size hg21)
            have k198 := Ext.chg hx23 hch10 (Nat.le_trans (Nat.le_refl _) hg21)
            have hb148 := hb142.ext k198
            have r117 := r113.ext k198
            have hb149 := hb143.ext k198
            have r118 := r114.ext k198
            have o60 := o58.ext k198
            have hb150 : Bx w50 b25 24 [.int .i64 x0.1, .slice a19 x6.length cq19] := hb147
            refine nl ⟨fun _ _ => k196, ?_⟩
            cases hB1
            refine lf <| ?_
            exact ⟨_, rfl, ⟨_, _, rfl, (Nat.le_trans k185.size hg21), hb150, ⟨[.int .i64 x0.1], [.slice a19 x6.length cq19], rfl, rfl, o60.rv.rep1⟩⟩, rfl, rfl, rfl, rfl, k195⟩
          refine pm rfl ?_ ?_
          ·
            refine sal ti24 fun b26 w51 hx24 hg22 hb151 => ?_
            have k199 := k178.tr hx24
            have k200 := k179.tr hx24
            have k201 := k180.tr hx24
            have k202 := k181.tr hx24
            have k203 := k182.tr hx24
            have hb152 := hb140.ext hx24
            have r119 := r111.ext hx24
            have hb153 := hb141.ext hx24
            have r120 := r112.ext hx24
            have o61 := o57.ext hx24
            have o62 := o56.ext hx24
            refine nl ⟨fun _ _ => k202, ?_⟩
            refine pe1 rfl <| sapx (l := x5) (k := ([(x1.1, x1.2.1, x1.2.2)] : List (Int × Int × Int))) rfl rfl Try.underlying22 ti56 rfl rfl o62 (RV.els o61.rv) Ex6 k203.size fun v23 w52 o63 hB19 hgr18 how18 => ?_
            have k204 := Ext.grow k199 k171.size hB19
            have k205 := Ext.grow k200 k172.size hB19
            have k206 := Ext.grow k201 k173.size hB19
            have k207 := Ext.grow k202 hx21.size hB19
            have k208 : Ext w45 w52 := k203.trans hB19
            have hb154 := hb135.ext k208
            have r121 := r105.ext k208
            have hb155 := hb136.ext k208
            have ne10 := ne_app how18 (Row.ne_new o56 hg22) hb151.lt
            have hb156 := Bx.gr hb151 hgr18 (Row.ne_new o56 hg22)
            have r122 := r106.ext k208
            have hz := RV.sl o63.rv; obtain ⟨a20, cq20, rfl, -, -, -⟩ := hz
            refine nl ⟨fun _ _ => k207, ?_⟩
            refine pv rfl rfl rfl (fun _ _ => xbdv (r := [.int .i64 x0.1, .slice a20 x6.length cq20]) ti24 sp24 (pc rfl (pc rfl pn)) rfl) (.inl rfl) <| pe1 rfl <| sst rfl rfl rfl ti24 hb156 rfl rfl (ble rfl) fun w53 hch11 hb157 => ?_
            have k209 := Ext.chg k204 hch11 (Nat.le_trans k171.size (Nat.le_trans k182.size hg22))
            have k210 := Ext.chg k205 hch11 (Nat.le_trans k172.size (Nat.le_trans k182.size hg22))
            have k211 := Ext.chg k206 hch11 (Nat.le_trans k173.size (Nat.le_trans k182.size hg22))
            have k212 := Ext.chg k207 hch11 (Nat.le_trans hx21.size (Nat.le_trans k182.size hg22))
            have k213 := Ext.chg k208 hch11 (Nat.le_trans (Nat.le_refl _) (Nat.le_trans k182.size hg22))
            have hb158 := hb135.ext k213
            have r123 := r105.ext k213
            have hb159 := hb136.ext k213
            have r124 := r106.ext k213
            have o64 := Row.chgn o63 hch11 ne10
            have hb160 : Bx w53 b26 24 [.int .i64 x0.1, .slice a20 x6.length cq20] := hb157
            refine nl ⟨fun _ _ => k212, ?_⟩
            cases hB1
            refine lf <| ?_
            exact ⟨_, rfl, ⟨_, _, rfl, (Nat.le_trans k173.size (Nat.le_trans k182.size hg22)), hb160, ⟨[.int .i64 x0.1], [.slice a20 x6.length cq20], rfl, rfl, o64.rv.rep1⟩⟩, rfl, rfl, rfl, rfl, k211⟩
          trivial
        refine pm rfl ?_ ?_
        ·
          refine sal ti24 fun b27 w54 hx25 hg23 hb161 => ?_
          have k214 := k174.tr hx25
          have k215 := k175.tr hx25
          have k216 := k176.tr hx25
          have k217 := k177.tr hx25
          have k218 := hx22.tr hx25
          have hb162 := hb138.ext hx25
          have r125 := r108.ext hx25
          have hb163 := hb139.ext hx25
          have r126 := r109.ext hx25
          have o65 := o54.ext hx25
          have o66 := o55.ext hx25
          refine nl ⟨fun _ _ => k217, ?_⟩
          refine pe1 rfl <| sapx (l := ([] : List (Int × Int × Int))) (k := x0.2) rfl rfl Try.underlying22 ti56 rfl rfl o66 (RV.els r125) Ex5 k218.size fun v24 w55 o67 hB20 hgr19 how19 => ?_
          have k219 := Ext.grow k214 k171.size hB20
          have k220 := Ext.grow k215 k172.size hB20
          have k221 := Ext.grow k216 k173.size hB20
          have k222 := Ext.grow k217 hx21.size hB20
          have k223 : Ext w45 w55 := k218.trans hB20
          have hb164 := hb135.ext k223
          have r127 := r105.ext k223
          have hb165 := hb136.ext k223
          have ne11 := ne_app how19 (Row.ne_new o55 hg23) hb161.lt
          have hb166 := Bx.gr hb161 hgr19 (Row.ne_new o55 hg23)
          have r128 := r106.ext k223
          have o68 := o53.ext k223
          have hz := RV.sl o67.rv; obtain ⟨a21, cq21, rfl, -, -, -⟩ := hz
          refine nl ⟨fun _ _ => k222, ?_⟩
          refine pe1 rfl <| sapx (l := x5) (k := ([(x1.1, x1.2.1, x1.2.2)] : List (Int × Int × Int))) rfl rfl Try.underlying22 ti56 rfl rfl o67 (RV.els o68.rv) Ex6 k223.size fun v25 w56 o69 hB21 hgr20 how20 => ?_
          have k224 := Ext.grow k219 k171.size hB21
          have k225 := Ext.grow k220 k172.size hB21
          have k226 := Ext.grow k221 k173.size hB21
          have k227 := Ext.grow k222 hx21.size hB21
          have k228 : Ext w45 w56 := k223.trans hB21
          have hb167 := hb135.ext k228
          have r129 := r105.ext k228
          have hb168 := hb136.ext k228
          have ne12 := ne_app how20 ne11 hb166.lt
          have hb169 := Bx.gr hb166 hgr20 ne11
          have r130 := r106.ext k228
          have hz := RV.sl o69.rv; obtain ⟨a22, cq22, rfl, -, -, -⟩ := hz
          refine nl ⟨fun _ _ => k227, ?_⟩
          refine pv rfl rfl rfl (fun _ _ => xbdv (r := [.int .i64 x0.1, .slice a22 x6.length cq22]) ti24 sp24 (pc rfl (pc rfl pn)) rfl) (.inl rfl) <| pe1 rfl <| sst rfl rfl rfl ti24 hb169 rfl rfl (ble rfl) fun w57 hch12 hb170 => ?_
          have k229 := Ext.chg k224 hch12 (Nat.le_trans k171.size (Nat.le_trans hx22.size hg23))
          have k230 := Ext.chg k225 hch12 (Nat.le_trans k172.size (Nat.le_trans hx22.size hg23))
          have k231 := Ext.chg k226 hch12 (Nat.le_trans k173.size (Nat.le_trans hx22.size hg23))
          have k232 := Ext.chg k227 hch12 (Nat.le_trans hx21.size (Nat.le_trans hx22.size hg23))
          have k233 := Ext.chg k228 hch12 (Nat.le_trans (Nat.le_refl _) (Nat.le_trans hx22.size hg23))
          have hb171 := hb135.ext k233
          have r131 := r105.ext k233
          have hb172 := hb136.ext k233
          have r132 := r106.ext k233
          have o70 := Row.chgn o69 hch12 ne12
          have hb173 : Bx w57 b27 24 [.int .i64 x0.1, .slice a22 x6.length cq22] := hb170
          refine nl ⟨fun _ _ => k232, ?_⟩
          cases hB1
          refine lf <| ?_
          exact ⟨_, rfl, ⟨_, _, rfl, (Nat.le_trans k173.size (Nat.le_trans hx22.size hg23)), hb173, ⟨[.int .i64 x0.1], [.slice a22 x6.length cq22], rfl, rfl, o70.rv.rep1⟩⟩, rfl, rfl, rfl, rfl, k231⟩
        trivial
      refine pm rfl ?_ ?_
      ·
        refine sal ti24 fun b28 w58 hx26 hg24 hb174 => ?_
        have k234 := k171.tr hx26
        have k235 := k172.tr hx26
        have k236 := k173.tr hx26
        have k237 := hx21.tr hx26
        have hb175 := hb135.ext hx26
        have r133 := r105.ext hx26
        have hb176 := hb136.ext hx26
        have r134 := r106.ext hx26
        have o71 := o53.ext hx26
        refine nl ⟨fun _ _ => k237, ?_⟩
        refine pe1 rfl <| sbsv (cs := []) Try.underlying22 ti56 rfl pn rfl rfl rfl rfl rfl fun b29 w59 hx27 hg25 hb177 => ?_
        have k238 := k234.tr hx27
        have k239 := k235.tr hx27
        have k240 := k236.tr hx27
        have k241 := k237.tr hx27
        have k242 := hx26.tr hx27
        have hb178 := hb175.ext hx27
        have r135 := r133.ext hx27
        have hb179 := hb176.ext hx27
        have hb180 := hb174.ext hx27
        have r136 := r134.ext hx27
        have o72 := o71.ext hx27
        have o73 : Row (α := (Int × Int × Int)) 56 w58.heap.size w59 (.slice (some ⟨b29, 0, none⟩) 0 0) [] := Row.lit hg25 hb177 rfl (ble rfl)
        refine nl ⟨fun _ _ => k241, ?_⟩
        refine pe1 rfl <| sapx (l := ([] : List (Int × Int × Int))) (k := x0.2) rfl rfl Try.underlying22 ti56 rfl rfl o73 (RV.els r135) Ex5 hx27.size fun v26 w60 o74 hB22 hgr21 how21 => ?_
        have k243 := Ext.grow k238 k234.size hB22
        have k244 := Ext.grow k239 k235.size hB22
        have k245 := Ext.grow k240 k236.size hB22
        have k246 := Ext.grow k241 k237.size hB22
        have k247 := Ext.grow k242 hx26.size hB22
        have k248 : Ext w58 w60 := hx27.trans hB22
        have hb181 := hb175.ext k248
        have r138 := r133.ext k248
        have hb182 := hb176.ext k248
        have hb183 := hb174.ext k248
        have r139 := r134.ext k248
        have o75 := o71.ext k248
        have hz := RV.sl o74.rv; obtain ⟨a23, cq23, rfl, -, -, -⟩ := hz
        refine nl ⟨fun _ _ => k246, ?_⟩
        refine pe1 rfl <| sapx (l := x5) (k := ([(x1.1, x1.2.1, x1.2.2)] : List (Int × Int × Int))) rfl rfl Try.underlying22 ti56 rfl rfl o74 (RV.els o75.rv) Ex6 k248.size fun v27 w61 o76 hB23 hgr22 how22 => ?_
        have k249 := Ext.grow k243 k234.size hB23
        have k250 := Ext.grow k244 k235.size hB23
        have k251 := Ext.grow k245 k236.size hB23
        have k252 := Ext.grow k246 k237.size hB23
        have k253 := Ext.grow k247 hx26.size hB23
        have k254 : Ext w58 w61 := k248.trans hB23
        have hb184 := hb175.ext k254
        have r140 := r133.ext k254
        have hb185 := hb176.ext k254
        have hb186 := hb174.ext k254
        have r141 := r134.ext k254
        have hz := RV.sl o76.rv; obtain ⟨a24, cq24, rfl, -, -, -⟩ := hz
        refine nl ⟨fun _ _ => k252, ?_⟩
        refine pv rfl rfl rfl (fun _ _ => xbdv (r := [.int .i64 x0.1, .slice a24 x6.length cq24]) ti24 sp24 (pc rfl (pc rfl pn)) rfl) (.inl rfl) <| pe1 rfl <| sst rfl rfl rfl ti24 hb186 rfl rfl (ble rfl) fun w62 hch13 hb187 => ?_
        have k255 := Ext.chg k249 hch13 (Nat.le_trans k171.size hg24)
        have k256 := Ext.chg k250 hch13 (Nat.le_trans k172.size hg24)
        have k257 := Ext.chg k251 hch13 (Nat.le_trans k173.size hg24)
        have k258 := Ext.chg k252 hch13 (Nat.le_trans hx21.size hg24)
        have k259 := Ext.chg k253 hch13 (Nat.le_trans (Nat.le_refl _) hg24)
        have hb188 := hb135.ext k259
        have r142 := r105.ext k259
        have hb189 := hb136.ext k259
        have r143 := r106.ext k259
        have o77 := Row.chg o76 hch13 hb174.lt
        have hb190 : Bx w62 b28 24 [.int .i64 x0.1, .slice a24 x6.length cq24] := hb187
        refine nl ⟨fun _ _ => k258, ?_⟩
        cases hB1
        refine lf <| ?_
        exact ⟨_, rfl, ⟨_, _, rfl, (Nat.le_trans k173.size hg24), hb190, ⟨[.int .i64 x0.1], [.slice a24 x6.length cq24], rfl, rfl, o77.rv.rep1⟩⟩, rfl, rfl, rfl, rfl, k257⟩
      trivial
    refine pm rfl ?_ ?_
    ·
      refine sal ti24 fun b30 w63 hx28 hg26 hb191 => ?_
      have k260 := k28.tr hx28
      have k261 := k29.tr hx28
      have k262 := hx7.tr hx28
      have hb192 := hb23.ext hx28
      have r144 := r29.ext hx28
      have hb193 := hb24.ext hx28
      have r145 := r30.ext hx28
      refine nl ⟨fun _ _ => hx28, ?_⟩
      refine pe rfl ?_ ?_
      ·
        refine sbsv (cs := []) Try.underlying22 ti56 rfl pn rfl rfl rfl rfl rfl fun b31 w64 hx29 hg27 hb194 => ?_
        have k263 := k260.tr hx29
        have k264 := k261.tr hx29
        have k265 := k262.tr hx29
        have k266 := hx28.tr hx29
        have hb195 := hb192.ext hx29
        have r146 := r144.ext hx29
        have hb196 := hb193.ext hx29
        have hb197 := hb191.ext hx29
        have r147 := r145.ext hx29
        have o78 : Row (α := (Int × Int × Int)) 56 w63.heap.size w64 (.slice (some ⟨b31, 0, none⟩) 0 0) [] := Row.lit hg27 hb194 rfl (ble rfl)
        refine nl ⟨fun _ _ => k266, ?_⟩
        refine pe rfl ?_ ?_
        ·
          refine sapx (l := ([] : List (Int × Int × Int))) (k := x0.2) rfl rfl Try.underlying22 ti56 rfl rfl o78 (RV.els r146) Ex5 hx29.size fun v28 w65 o79 hB24 hgr23 how23 => ?_
          have k267 := Ext.grow k263 k260.size hB24
          have k268 := Ext.grow k264 k261.size hB24
          have k269 := Ext.grow k265 k262.size hB24
          have k270 := Ext.grow k266 hx28.size hB24
          have k271 : Ext w63 w65 := hx29.trans hB24
          have hb198 := hb192.ext k271
          have r149 := r144.ext k271
          have hb199 := hb193.ext k271
          have hb200 := hb191.ext k271
          have r150 := r145.ext k271
          have hz := RV.sl o79.rv; obtain ⟨a25, cq25, rfl, -, -, -⟩ := hz
          refine nl ⟨fun _ _ => k270, ?_⟩
          refine pe1 rfl <| sbsv (cs := [.int .i64 x1.1, .int .i64 x1.2.1, .int .i64 x1.2.2]) Try.underlying22 ti56 rfl (pc rfl pn) rfl rfl rfl rfl rfl fun b32 w66 hx30 hg28 hb201 => ?_
          have k272 := k267.tr hx30
          have k273 := k268.tr hx30
          have k274 := k269.tr hx30
          have k275 := k270.tr hx30
          have k276 := k271.tr hx30
          have hb202 := hb198.ext hx30
          have r151 := r149.ext hx30
          have hb203 := hb199.ext hx30
          have hb204 := hb200.ext hx30
          have r152 := r150.ext hx30
          have o80 := o79.ext hx30
          have o81 : Row (α := (Int × Int × Int)) 56 w65.heap.size w66 (.slice (some ⟨b32, 0, none⟩) 1 1) [(x1.1, x1.2.1, x1.2.2)] := Row.lit hg28 hb201 rfl (ble rfl)
          refine nl ⟨fun _ _ => k275, ?_⟩
          refine pe1 rfl <| sapx (l := x5) (k := ([(x1.1, x1.2.1, x1.2.2)] : List (Int × Int × Int))) rfl rfl Try.underlying22 ti56 rfl rfl o80 (RV.els o81.rv) Ex6 k276.size fun v29 w67 o82 hB25 hgr24 how24 => ?_
          have k277 := Ext.grow k272 k260.size hB25
          have k278 := Ext.grow k273 k261.size hB25
          have k279 := Ext.grow k274 k262.size hB25
          have k280 := Ext.grow k275 hx28.size hB25
          have k281 : Ext w63 w67 := k276.trans hB25
          have hb205 := hb192.ext k281
          have r154 := r144.ext k281
          have hb206 := hb193.ext k281
          have hb207 := hb191.ext k281
          have r155 := r145.ext k281
          have hz := RV.sl o82.rv; obtain ⟨a26, cq26, rfl, -, -, -⟩ := hz
          refine nl ⟨fun _ _ => k280, ?_⟩
          refine pv rfl rfl rfl (fun _ _ => xbdv (r := [.int .i64 x0.1, .slice a26 x6.length cq26]) ti24 sp24 (pc rfl (pc rfl pn)) rfl) (.inl rfl) <| pe1 rfl <| sst rfl rfl rfl ti24 hb207 rfl rfl (ble rfl) fun w68 hch14 hb208 => ?_
          have k282 := Ext.chg k277 hch14 (Nat.le_trans k28.size hg26)
          have k283 := Ext.chg k278 hch14 (Nat.le_trans k29.size hg26)
          have k284 := Ext.chg k279 hch14 (Nat.le_trans hx7.size hg26)
          have k285 := Ext.chg k280 hch14 (Nat.le_trans (Nat.le_refl _) hg26)
          have hb209 := hb23.ext k285
          have r156 := r29.ext k285
          have hb210 := hb24.ext k285
          have r157 := r30.ext k285
          have o83 := Row.chg o82 hch14 hb191.lt
          have hb211 : Bx w68 b30 24 [.int .i64 x0.1, .slice a26 x6.length cq26] := hb208
          refine nl ⟨fun _ _ => k285, ?_⟩
          cases hB1
          refine lf <| ?_
          exact ⟨_, rfl, ⟨_, _, rfl, (Nat.le_trans hx7.size hg26), hb211, ⟨[.int .i64 x0.1], [.slice a26 x6.length cq26], rfl, rfl, o83.rv.rep1⟩⟩, rfl, rfl, rfl, rfl, k284⟩
        refine pm rfl ?_ ?_
        ·
          refine sbsv (cs := [.int .i64 x1.1, .int .i64 x1.2.1, .int .i64 x1.2.2]) Try.underlying22 ti56 rfl (pc rfl pn) rfl rfl rfl rfl rfl fun b33 w69 hx31 hg29 hb212 => ?_
          have k286 := k263.tr hx31
          have k287 := k264.tr hx31
          have k288 := k265.tr hx31
          have k289 := k266.tr hx31
          have k290 := hx29.tr hx31
          have hb213 := hb195.ext hx31
          have r158 := r146.ext hx31
          have hb214 := hb196.ext hx31
          have hb215 := hb197.ext hx31
          have r159 := r147.ext hx31
          have o84 := o78.ext hx31
          have o85 : Row (α := (Int × Int × Int)) 56 w64.heap.size w69 (.slice (some ⟨b33, 0, none⟩) 1 1) [(x1.1, x1.2.1, x1.2.2)] := Row.lit hg29 hb212 rfl (ble rfl)
          refine nl ⟨fun _ _ => k289, ?_⟩
          refine pe1 rfl <| sapx (l := ([] : List (Int × Int × Int))) (k := x0.2) rfl rfl Try.underlying22 ti56 rfl rfl o84 (RV.els r158) Ex5 k290.size fun v30 w70 o86 hB26 hgr25 how25 => ?_
          have k291 := Ext.grow k286 k260.size hB26
          have k292 := Ext.grow k287 k261.size hB26
          have k293 := Ext.grow k288 k262.size hB26
          have k294 := Ext.grow k289 hx28.size hB26
          have k295 : Ext w63 w70 := k290.trans hB26
          have hb216 := hb192.ext k295
          have r161 := r144.ext k295
          have hb217 := hb193.ext k295
          have hb218 := hb191.ext k295
          have r162 := r145.ext k295
          have o87 := Row.gr o85 hgr25 (Row.own_lt o78)
          have hz := RV.sl o86.rv; obtain ⟨a27, cq27, rfl, -, -, -⟩ := hz
          refine nl ⟨fun _ _ => k294, ?_⟩
          refine pe1 rfl <| sapx (l := x5) (k := ([(x1.1, x1.2.1, x1.2.2)] : List (Int × Int × Int))) rfl rfl Try.underlying22 ti56 rfl rfl o86 (RV.els o87.rv) Ex6 k295.size fun v31 w71 o88 hB27 hgr26 how26 => ?_
          have k296 := Ext.grow k291 k260.size hB27
          have k297 := Ext.grow k292 k261.size hB27
          have k298 := Ext.grow k293 k262.size hB27
          have k299 := Ext.grow k294 hx28.size hB27
          have k300 : Ext w63 w71 := k295.trans hB27
          have hb219 := hb192.ext k300
          have r163 := r144.ext k300
          have hb220 := hb193.ext k300
          have hb221 := hb191.ext k300
          have r164 := r145.ext k300
          have hz := RV.sl o88.rv; obtain ⟨a28, cq28, rfl, -, -, -⟩ := hz
          refine nl ⟨fun _ _ => k299, ?_⟩
          refine pv rfl rfl rfl (fun _ _ => xbdv (r := [.int .i64 x0.1, .slice a28 x6.length cq28]) ti24 sp24 (pc rfl (pc rfl pn)) rfl) (.inl rfl) <| pe1 rfl <| sst rfl rfl rfl ti24 hb221 rfl rfl (ble rfl) fun w72 hch15 hb222 => ?_
          have k301 := Ext.chg k296 hch15 (Nat.le_trans k28.size hg26)
          have k302 := Ext.chg k297 hch15 (Nat.le_trans k29.size hg26)
          have k303 := Ext.chg k298 hch15 (Nat.le_trans hx7.size hg26)
          have k304 := Ext.chg k299 hch15 (Nat.le_trans (Nat.le_refl _) hg26)
          have hb223 := hb23.ext k304
          have r165 := r29.ext k304
          have hb224 := hb24.ext k304
          have r166 := r30.ext k304
          have o89 := Row.chg o88 hch15 hb191.lt
          have hb225 : Bx w72 b30 24 [.int .i64 x0.1, .slice a28 x6.length cq28] := hb222
          refine nl ⟨fun _ _ => k304, ?_⟩
          cases hB1
          refine lf <| ?_
          exact ⟨_, rfl, ⟨_, _, rfl, (Nat.le_trans hx7.size hg26), hb225, ⟨[.int .i64 x0.1], [.slice a28 x6.length cq28], rfl, rfl, o89.rv.rep1⟩⟩, rfl, rfl, rfl, rfl, k303⟩
        trivial
      refine pm rfl ?_ ?_
      ·
        refine sbsv (cs := [.int .i64 x1.1, .int .i64 x1.2.1, .int .i64 x1.2.2]) Try.underlying22 ti56 rfl (pc rfl pn) rfl rfl rfl rfl rfl fun b34 w73 hx32 hg30 hb226 => ?_
        have k305 := k260.tr hx32
        have k306 := k261.tr hx32
        have k307 := k262.tr hx32
        have k308 := hx28.tr hx32
        have hb227 := hb192.ext hx32
        have r167 := r144.ext hx32
        have hb228 := hb193.ext hx32
        have hb229 := hb191.ext hx32
        have r168 := r145.ext hx32
        have o90 : Row (α := (Int × Int × Int)) 56 w63.heap.size w73 (.slice (some ⟨b34, 0, none⟩) 1 1) [(x1.1, x1.2.1, x1.2.2)] := Row.lit hg30 hb226 rfl (ble rfl)
        refine nl ⟨fun _ _ => k308, ?_⟩
        refine pe1 rfl <| sbsv (cs := []) Try.underlying22 ti56 rfl pn rfl rfl rfl rfl rfl fun b35 w74 hx33 hg31 hb230 => ?_
        have k309 := k305.tr hx33
        have k310 := k306.tr hx33
        have k311 := k307.tr hx33
        have k312 := k308.tr hx33
        have k313 := hx32.tr hx33
        have hb231 := hb227.ext hx33
        have r170 := r167.ext hx33
        have hb232 := hb228.ext hx33
        have hb233 := hb229.ext hx33
        have r171 := r168.ext hx33
        have o91 := o90.ext hx33
        have o92 : Row (α := (Int × Int × Int)) 56 w73.heap.size w74 (.slice (some ⟨b35, 0, none⟩) 0 0) [] := Row.lit hg31 hb230 rfl (ble rfl)
        refine nl ⟨fun _ _ => k312, ?_⟩
        refine pe1 rfl <| sapx (l := ([] : List (Int × Int × Int))) (k := x0.2) rfl rfl Try.underlying22 ti56 rfl rfl o92 (RV.els r170) Ex5 hx33.size fun v32 w75 o93 hB28 hgr27 how27 => ?_
        have k314 := Ext.grow k309 k305.size hB28
        have k315 := Ext.grow k310 k306.size hB28
        have k316 := Ext.grow k311 k307.size hB28
        have k317 := Ext.grow k312 k308.size hB28
        have k318 := Ext.grow k313 hx32.size hB28
        have k319 : Ext w73 w75 := hx33.trans hB28
        have hb234 := hb227.ext k319
        have r173 := r167.ext k319
        have hb235 := hb228.ext k319
        have hb236 := hb229.ext k319
        have r174 := r168.ext k319
        have o94 := o90.ext k319
        have hz := RV.sl o93.rv; obtain ⟨a29, cq29, rfl, -, -, -⟩ := hz
        refine nl ⟨fun _ _ => k317, ?_⟩
        refine pe1 rfl <| sapx (l := x5) (k := ([(x1.1, x1.2.1, x1.2.2)] : List (Int × Int × Int))) rfl rfl Try.underlying22 ti56 rfl rfl o93 (RV.els o94.rv) Ex6 k319.size fun v33 w76 o95 hB29 hgr28 how28 => ?_
        have k320 := Ext.grow k314 k305.size hB29
        have k321 := Ext.grow k315 k306.size hB29
        have k322 := Ext.grow k316 k307.size hB29
        have k323 := Ext.grow k317 k308.size hB29
        have k324 := Ext.grow k318 hx32.size hB29
        have k325 : Ext w73 w76 := k319.trans hB29
        have hb237 := hb227.ext k325
        have r175 := r167.ext k325
        have hb238 := hb228.ext k325
        have hb239 := hb229.ext k325
        have r176 := r168.ext k325
        have hz := RV.sl o95.rv; obtain ⟨a30, cq30, rfl, -, -, -⟩ := hz
        refine nl ⟨fun _ _ => k323, ?_⟩
        refine pv rfl rfl rfl (fun _ _ => xbdv (r := [.int .i64 x0.1, .slice a30 x6.length cq30]) ti24 sp24 (pc rfl (pc rfl pn)) rfl) (.inl rfl) <| pe1 rfl <| sst rfl rfl rfl ti24 hb239 rfl rfl (ble rfl) fun w77 hch16 hb240 => ?_
        have k326 := Ext.chg k320 hch16 (Nat.le_trans k28.size hg26)
        have k327 := Ext.chg k321 hch16 (Nat.le_trans k29.size hg26)
        have k328 := Ext.chg k322 hch16 (Nat.le_trans hx7.size hg26)
        have k329 := Ext.chg k323 hch16 (Nat.le_trans (Nat.le_refl _) hg26)
        have hb241 := hb23.ext k329
        have r177 := r29.ext k329
        have hb242 := hb24.ext k329
        have r178 := r30.ext k329
        have o96 := Row.chg o95 hch16 (Nat.lt_of_lt_of_le hb191.lt hx32.size)
        have hb243 : Bx w77 b30 24 [.int .i64 x0.1, .slice a30 x6.length cq30] := hb240
        refine nl ⟨fun _ _ => k329, ?_⟩
        cases hB1
        refine lf <| ?_
        exact ⟨_, rfl, ⟨_, _, rfl, (Nat.le_trans hx7.size hg26), hb243, ⟨[.int .i64 x0.1], [.slice a30 x6.length cq30], rfl, rfl, o96.rv.rep1⟩⟩, rfl, rfl, rfl, rfl, k328⟩
      trivial
    trivial
  rintro L w78 ⟨v5, l9_j1, P9_j1, l2_j1, l3_j1, l4_j1, l5_j1, K0_j1⟩
  have k330 := k1.tr K0_j1
  have k331 := hx2.tr K0_j1
  have r179 := r11.ext K0_j1
  have r180 := r10.ext K0_j1
  have hb244 := hb3.ext K0_j1
  have hb245 := hb2.ext K0_j1
  obtain ⟨b36, cs5, rfl, hg32, hb246, q6⟩ := P9_j1
  obtain ⟨_, _, rfl, rfl, ⟨a31, cq31, rfl, p2, q7, e2⟩⟩ := q6
  have r181 := RV.of1 p2 q7 e2
  refine wp_seq <| wp_seq <| rg <| vl rfl rfl (xlda l4_j1 ti24 rfl (Bx.cs hb244)) <| ?_
  have hz := bs hF; obtain ⟨x7, Ex7, hF⟩ := hz
  refine cl rfl rfl (xc cb31 (mc rfl mn)) (c31 (show RV (α := (Int × (List (Int × Int × Int)))) _ (.agg [.int .i64 x0.1, .slice a1 x0.2.length cq1].toArray) (x0.1, x0.2) from ⟨_, rfl, ⟨[.int .i64 x0.1], [.slice a1 x0.2.length cq1], rfl, rfl, r180.rep1⟩⟩) Ex7) ?_
  rintro _ w79 ⟨rfl, hx34⟩
  have k332 := k330.tr hx34
  have k333 := k331.tr hx34
  have k334 := K0_j1.tr hx34
  have hb247 := hb244.ext hx34
  have r182 := r180.ext hx34
  have hb248 := hb245.ext hx34
  have hb249 := hb246.ext hx34
  have r183 := r181.ext hx34
  have r184 := r179.ext hx34
  refine vl rfl rfl (xnot rfl) <| vl rfl rfl xmv <| gv rfl rfl rfl rfl (gw0 rfl) rfl (fun hc => xlda l9_j1 ti24 rfl (Bx.cs hb249)) <| ?_
  have hz := bs hF; obtain ⟨x8, Ex8, hF⟩ := hz
  refine gc rfl rfl rfl rfl (gw0 rfl) rfl (fun hc => xc cb14 (mc (mv hc rfl) mn)) (fun hc => (c14 (show RV (α := (Int × (List (Int × Int × Int)))) _ (.agg [.int .i64 y1.1, .slice a31 y1.2.length cq31].toArray) (y1.1, y1.2) from ⟨_, rfl, ⟨[.int .i64 y1.1], [.slice a31 y1.2.length cq31], rfl, rfl, r183.rep1⟩⟩) (gdp Ex8 hc))) (fun v34 w80 hy1 hn1 => ?_)
  have hx35 : Ext w79 w80 := gx (fun h => (hy1 h).2) (fun h => (hn1 h).2 ▸ Ext.refl _)
  have e3 := mkw (fun h => (hy1 h).1) (fun h => (hn1 h).1)
  have k335 := k332.tr hx35
  have k336 := k333.tr hx35
  have k337 := k334.tr hx35
  have hb250 := hb247.ext hx35
  have r185 := r182.ext hx35
  have hb251 := hb248.ext hx35
  have hb252 := hb249.ext hx35
  have r186 := r183.ext hx35
  have r187 := r184.ext hx35
  refine vl rfl rfl (xpo rfl e3 rfl) <| vl rfl rfl xmv <| gv rfl rfl rfl rfl (gw0 rfl) rfl (fun hc => xlda l9_j1 ti24 rfl (Bx.cs hb252)) <| ?_
  have hz := bs hF; obtain ⟨x9, Ex9, hF⟩ := hz
  refine gc rfl rfl rfl rfl (gw0 rfl) rfl (fun hc => xc cb36 (mc (mv hc rfl) mn)) (fun hc => (c36 (show RV (α := (Int × (List (Int × Int × Int)))) _ (.agg [.int .i64 y1.1, .slice a31 y1.2.length cq31].toArray) (y1.1, y1.2) from ⟨_, rfl, ⟨[.int .i64 y1.1], [.slice a31 y1.2.length cq31], rfl, rfl, r186.rep1⟩⟩) (gdp Ex9 hc))) (fun v35 w81 hy2 hn2 => ?_)
  have hx36 : Ext w80 w81 := gx (fun h => (hy2 h).2) (fun h => (hn2 h).2 ▸ Ext.refl _)
  have e4 := mkw (fun h => (hy2 h).1) (fun h => (hn2 h).1)
  have k338 := k335.tr hx36
  have k339 := k336.tr hx36
  have k340 := k337.tr hx36
  have hb253 := hb250.ext hx36
  have r188 := r185.ext hx36
  have hb254 := hb251.ext hx36
  have hb255 := hb252.ext hx36
  have r189 := r186.ext hx36
  have r190 := r187.ext hx36
  refine gv rfl rfl rfl rfl (gw0 rfl) rfl (fun hc => xneq (mv hc e4) rfl) <| vl rfl rfl (xpo rfl rfl rfl) <| vl rfl rfl xmv <| gv rfl rfl rfl rfl (gw0 rfl) rfl (fun hc => xmva l3_j1) <| gv rfl rfl rfl rfl (gw0 rfl) rfl (fun hc => xlen (mv hc rfl) Try.underlying32) <| gv rfl rfl rfl rfl (gw0 rfl) rfl (fun hc => xgtr (mv hc rfl) rfl) <| vl rfl rfl (xpo rfl rfl rfl) <| nl <| cnd rfl (fun h5 => ?_) (fun h5 => ?_)
  ·
    have hF := ifp hF h5
    refine wp_seq <| rg <| ?_
    have hz := bs hF; obtain ⟨x10, Ex10, hF⟩ := hz
    refine cl rfl rfl (xc cb15 mn) (c15 Ex10) ?_
    rintro _ w82 ⟨rfl, hx37⟩
    have k341 := k338.tr hx37
    have k342 := k339.tr hx37
    have k343 := k340.tr hx37
    refine vl rfl rfl xas <| nl <| ?_
    cases hF
    exact wp_ret <| rt rfl (.tmp rfl rfl .nil) ⟨rfl, k341⟩
  ·
    have hF := ifn hF h5
    refine wp_skip <| wp_seq <| rg <| vl rfl rfl xmv <| vl rfl rfl (xcvt l2_j1 Try.underlying5 Try.underlying3) <| vl rfl rfl (xfa l4_j1 fa24_0) <| vl rfl rfl (xld rfl ti3 ((Bx.cs hb253).at 0 rfl)) <| ?_
    have hz := bs hF; obtain ⟨x11, Ex11, hF⟩ := hz
    refine vl rfl rfl (xremv rfl rfl Ex11) <| vl rfl rfl (xadd rfl rfl) <| vl rfl rfl xas <| nl <| wp_seq <| rg <| vl rfl rfl (xlda l4_j1 ti24 rfl (Bx.cs hb253)) <| vl rfl rfl xmv <| ?_
    have hz := bs hF; obtain ⟨x12, Ex12, hF⟩ := hz
    refine cl rfl rfl (xc cb16 (mc rfl (mc rfl mn))) (c16 (show RV (α := (Int × (List (Int × Int × Int)))) _ (.agg [.int .i64 x0.1, .slice a1 x0.2.length cq1].toArray) (x0.1, x0.2) from ⟨_, rfl, ⟨[.int .i64 x0.1], [.slice a1 x0.2.length cq1], rfl, rfl, r188.rep1⟩⟩) Ex12) ?_
    rintro _ w83 ⟨u1, rfl, r191, hx38⟩
    have k344 := k338.tr hx38
    have k345 := k339.tr hx38
    have k346 := k340.tr hx38
    have hb256 := hb253.ext hx38
    have r192 := r188.ext hx38
    have hb257 := hb254.ext hx38
    have hb258 := hb255.ext hx38
    have r193 := r189.ext hx38
    have r194 := r190.ext hx38
    have hz := id r191; obtain ⟨_, rfl, ⟨_, _, rfl, rfl, rfl⟩⟩ := hz
    refine vl rfl rfl xmv <| vl rfl rfl (xext rfl rfl) <| vl rfl rfl (xext rfl rfl) <| sal ti28 fun b37 w84 hx39 hg33 hb259 => ?_
    have k347 := k344.tr hx39
    have k348 := k345.tr hx39
    have k349 := k346.tr hx39
    have hb260 := hb256.ext hx39
    have r195 := r192.ext hx39
    have hb261 := hb257.ext hx39
    have hb262 := hb258.ext hx39
    have r196 := r193.ext hx39
    have r197 := r194.ext hx39
    have r198 := r191.ext hx39
    refine sst rfl rfl rfl ti28 hb259 rfl rfl (ble rfl) fun w85 hch17 hb263 => ?_
    have k350 := Ext.chg k347 hch17 (Nat.le_trans k344.size hg33)
    have k351 := Ext.chg k348 hch17 (Nat.le_trans k345.size hg33)
    have k352 := Ext.chg k349 hch17 (Nat.le_trans k346.size hg33)
    have k353 := Ext.chg hx39 hch17 (Nat.le_trans (Nat.le_refl _) hg33)
    have hb264 := hb256.ext k353
    have r199 := r192.ext k353
    have hb265 := hb257.ext k353
    have hb266 := hb258.ext k353
    have r200 := r193.ext k353
    have r201 := r194.ext k353
    have hb267 : Bx w85 b37 28 [.int .i64 x12.1.1, .int .i64 x12.1.2] := hb263
    refine vl rfl rfl xas <| nl <| wp_seq <| rg <| vl rfl rfl (xlda l4_j1 ti24 rfl (Bx.cs hb264)) <| vl rfl rfl (xfa l5_j1 fa56_0) <| vl rfl rfl (xld rfl ti3 ((Bx.cs hb265).at 0 rfl)) <| vl rfl rfl (xfa l5_j1 fa56_1) <| vl rfl rfl (xld rfl ti3 ((Bx.cs hb265).at 1 rfl)) <| ?_
    have hz := bs hF; obtain ⟨x13, Ex13, hF⟩ := hz
    refine cl rfl rfl (xc cb22 (mc rfl (mc rfl (mc rfl mn)))) (c22 (show RV (α := (Int × (List (Int × Int × Int)))) _ (.agg [.int .i64 x0.1, .slice a1 x0.2.length cq1].toArray) (x0.1, x0.2) from ⟨_, rfl, ⟨[.int .i64 x0.1], [.slice a1 x0.2.length cq1], rfl, rfl, r199.rep1⟩⟩) Ex13) ?_
    rintro _ w86 ⟨u2, rfl, r202, hx40⟩
    have k354 := k350.tr hx40
    have k355 := k351.tr hx40
    have k356 := k352.tr hx40
    have k357 := k353.tr hx40
    have hb268 := hb264.ext hx40
    have r203 := r199.ext hx40
    have hb269 := hb265.ext hx40
    have hb270 := hb266.ext hx40
    have r204 := r200.ext hx40
    have hb271 := hb267.ext hx40
    have r205 := r201.ext hx40
    have hz := RV.sl r202; obtain ⟨a32, cq32, rfl, -, -, -⟩ := hz
    refine vl rfl rfl xmv <| vl rfl rfl (xext rfl rfl) <| vl rfl rfl (xext rfl rfl) <| vl rfl rfl (xext rfl rfl) <| vl rfl rfl xas <| vl rfl rfl xas <| vl rfl rfl xas <| nl <| wp_seq <| wp_seq <| rg <| vl rfl rfl xmv <| vl rfl rfl (xneq rfl rfl) <| vl rfl rfl xmv <| gv rfl rfl rfl rfl (gw0 rfl) rfl (fun hc => xmva rfl) <| gv rfl rfl rfl rfl (gw0 rfl) rfl (fun hc => xneq (mv hc rfl) rfl) <| vl rfl rfl (xpo rfl rfl rfl) <| vl rfl rfl xmv <| gv rfl rfl rfl rfl (gw0 rfl) rfl (fun hc => xlda l9_j1 ti24 rfl (Bx.cs hb270)) <| gv rfl rfl rfl rfl (gw0 rfl) rfl (fun hc => xmva l3_j1) <| ?_
    have hz := bs hF; obtain ⟨x14, Ex14, hF⟩ := hz
    refine gc rfl rfl rfl rfl (gw0 rfl) rfl (fun hc => xc cb33 (mc (mv hc rfl) (mc (mv hc rfl) mn))) (fun hc => (c33 (show RV (α := (Int × (List (Int × Int × Int)))) _ (.agg [.int .i64 y1.1, .slice a31 y1.2.length cq31].toArray) (y1.1, y1.2) from ⟨_, rfl, ⟨[.int .i64 y1.1], [.slice a31 y1.2.length cq31], rfl, rfl, r204.rep1⟩⟩) r205 (gdp Ex14 hc))) (fun v36 w87 hy3 hn3 => ?_)
    have hx41 : Ext w86 w87 := gx (fun h => (hy3 h).2) (fun h => (hn3 h).2 ▸ Ext.refl _)
    have e5 := mkw (fun h => (hy3 h).1) (fun h => (hn3 h).1)
    have k358 := k354.tr hx41
    have k359 := k355.tr hx41
    have k360 := k356.tr hx41
    have k361 := k357.tr hx41
    have hb272 := hb268.ext hx41
    have r206 := r203.ext hx41
    have hb273 := hb269.ext hx41
    have hb274 := hb270.ext hx41
    have r207 := r204.ext hx41
    have hb275 := hb271.ext hx41
    have r208 := r205.ext hx41
    refine gv rfl rfl rfl rfl (gw0 rfl) rfl (fun hc => xeql (mv hc e5) rfl) <| gv rfl rfl rfl rfl (gw0 rfl) rfl (fun hc => xmva (mv hc rfl)) <| gv rfl rfl rfl rfl (gn1 rfl) rfl (fun hc => xlda l4_j1 ti24 rfl (Bx.cs hb272)) <| gv rfl rfl rfl rfl (gn1 rfl) rfl (fun hc => xmva l3_j1) <| ?_
    have hz := bs hF; obtain ⟨x15, Ex15, hF⟩ := hz
    refine gc rfl rfl rfl rfl (gn1 rfl) rfl (fun hc => xc cb33 (mc (mv hc rfl) (mc (mv hc rfl) mn))) (fun hc => (c33 (show RV (α := (Int × (List (Int × Int × Int)))) _ (.agg [.int .i64 x0.1, .slice a1 x0.2.length cq1].toArray) (x0.1, x0.2) from ⟨_, rfl, ⟨[.int .i64 x0.1], [.slice a1 x0.2.length cq1], rfl, rfl, r206.rep1⟩⟩) r208 (gdp Ex15 hc))) (fun v37 w88 hy4 hn4 => ?_)
    have hx42 : Ext w87 w88 := gx (fun h => (hy4 h).2) (fun h => (hn4 h).2 ▸ Ext.refl _)
    have e6 := mkw (fun h => (hy4 h).1) (fun h => (hn4 h).1)
    have k362 := k358.tr hx42
    have k363 := k359.tr hx42
    have k364 := k360.tr hx42
    have k365 := k361.tr hx42
    have hb276 := hb273.ext hx42
    have hb277 := hb274.ext hx42
    have r209 := r207.ext hx42
    have hb278 := hb275.ext hx42
    refine gv rfl rfl rfl rfl (gn1 rfl) rfl (fun hc => xneq (mv hc e6) rfl) <| gv rfl rfl rfl rfl (gw0 rfl) rfl (fun hc => xpa (mv hc rfl) (mvn hc rfl) rfl) <| vl rfl rfl (xpo rfl rfl rfl) <| nl <| cnd rfl (fun h6 => ?_) (fun h6 => ?_)
    ·
      have hF := ifp hF h6
      refine wp_seq <| rg <| vl rfl rfl xas <| nl <| ?_
      cases hF
      exact wp_ret <| rt rfl (.tmp rfl rfl .nil) ⟨rfl, k362⟩
    ·
      have hF := ifn hF h6
      refine wp_skip <| wp_seq <| rg <| vl rfl rfl (xlda l9_j1 ti24 rfl (Bx.cs hb277)) <| vl rfl rfl xmv <| ?_
      have hz := bs hF; obtain ⟨x16, Ex16, hF⟩ := hz
      refine cl rfl rfl (xc cb16 (mc rfl (mc rfl mn))) (c16 (show RV (α := (Int × (List (Int × Int × Int)))) _ (.agg [.int .i64 y1.1, .slice a31 y1.2.length cq31].toArray) (y1.1, y1.2) from ⟨_, rfl, ⟨[.int .i64 y1.1], [.slice a31 y1.2.length cq31], rfl, rfl, r209.rep1⟩⟩) Ex16) ?_
      rintro _ w89 ⟨u3, rfl, r210, hx43⟩
      have k366 := k362.tr hx43
      have k367 := k363.tr hx43
      have k368 := k364.tr hx43
      have k369 := k365.tr hx43
      have hb279 := hb276.ext hx43
      have hb280 := hb277.ext hx43
      have r211 := r209.ext hx43
      have hb281 := hb278.ext hx43
      have hz := id r210; obtain ⟨_, rfl, ⟨_, _, rfl, rfl, rfl⟩⟩ := hz
      refine vl rfl rfl xmv <| vl rfl rfl (xext rfl rfl) <| vl rfl rfl (xext rfl rfl) <| sal ti28 fun b38 w90 hx44 hg34 hb282 => ?_
      have k370 := k366.tr hx44
      have k371 := k367.tr hx44
      have k372 := k368.tr hx44
      have k373 := k369.tr hx44
      have hb283 := hb279.ext hx44
      have hb284 := hb280.ext hx44
      have r212 := r211.ext hx44
      have hb285 := hb281.ext hx44
      have r213 := r210.ext hx44
      refine sst rfl rfl rfl ti28 hb282 rfl rfl (ble rfl) fun w91 hch18 hb286 => ?_
      have k374 := Ext.chg k370 hch18 (Nat.le_trans k366.size hg34)
      have k375 := Ext.chg k371 hch18 (Nat.le_trans k367.size hg34)
      have k376 := Ext.chg k372 hch18 (Nat.le_trans k368.size hg34)
      have k377 := Ext.chg k373 hch18 (Nat.le_trans k369.size hg34)
      have k378 := Ext.chg hx44 hch18 (Nat.le_trans (Nat.le_refl _) hg34)
      have hb287 := hb279.ext k378
      have hb288 := hb280.ext k378
      have r214 := r211.ext k378
      have hb289 := hb281.ext k378
      have hb290 : Bx w91 b38 28 [.int .i64 x16.1.1, .int .i64 x16.1.2] := hb286
      refine vl rfl rfl xas <| nl <| wp_seq <| wp_seq <| rg <| vl rfl rfl (xlda l9_j1 ti24 rfl (Bx.cs hb288)) <| ?_
      have hz := bs hF; obtain ⟨x17, Ex17, hF⟩ := hz
      refine cl rfl rfl (xc cb37 (mc rfl mn)) (c37 (show RV (α := (Int × (List (Int × Int × Int)))) _ (.agg [.int .i64 y1.1, .slice a31 y1.2.length cq31].toArray) (y1.1, y1.2) from ⟨_, rfl, ⟨[.int .i64 y1.1], [.slice a31 y1.2.length cq31], rfl, rfl, r214.rep1⟩⟩) Ex17) ?_
      rintro _ w92 ⟨rfl, hx45⟩
      have k379 := k374.tr hx45
      have k380 := k375.tr hx45
      have k381 := k376.tr hx45
      have k382 := k377.tr hx45
      have k383 := k378.tr hx45
      have hb291 := hb287.ext hx45
      have hb292 := hb288.ext hx45
      have r215 := r214.ext hx45
      have hb293 := hb289.ext hx45
      have hb294 := hb290.ext hx45
      refine nl <| cnd rfl (fun h7 => ?_) (fun h7 => ?_)
      ·
        have hF := ifp hF h7
        refine wp_seq <| ?_
        have hz := bs hF; obtain ⟨y2, hB30, hF⟩ := hz
        refine ct (fun L w => L 8 = .bool y2 ∧ Ext w92 w) ?_ ?_
        ·
          refine rg <| vl rfl rfl xmv <| vl rfl rfl (xeql rfl rfl) <| vl rfl rfl xmv <| ?_
          have hz := ifs hB30; obtain ⟨h8, hB30⟩ := hz
          refine gtk rfl rfl rfl rfl rfl (bt h8) <| vl rfl rfl (xfa l5_j1 fa56_2) <| gtk rfl rfl rfl rfl rfl (bt h8) <| vl rfl rfl (xld rfl ti2 ((Bx.cs hb291).at 2 rfl)) <| gtk rfl rfl rfl rfl rfl (bt h8) <| vl rfl rfl xmv <| gtk rfl rfl rfl rfl rfl (bt h8) <| vl rfl rfl (xlss rfl rfl) <| vl rfl rfl (xpt rfl h8 rfl) <| vl rfl rfl xmv <| ?_
          have hz := ifs hB30; obtain ⟨h9, hB30⟩ := hz
          have hz := bs hB30; obtain ⟨x18, Ex18, hB30⟩ := hz
          refine gtk rfl rfl rfl rfl rfl (bt h9) <| cl rfl rfl (xc cb15 mn) (c15 Ex18) ?_
          rintro _ w93 ⟨rfl, hx46⟩
          have k384 := k379.tr hx46
          have k385 := k380.tr hx46
          have k386 := k381.tr hx46
          have k387 := k382.tr hx46
          have k388 := k383.tr hx46
          refine vl rfl rfl (xpt rfl h9 rfl) <| vl rfl rfl xas <| nl <| ?_
          cases hB30
          refine lf <| ?_
          exact ⟨rfl, hx46⟩
        rintro L w94 ⟨l8_j2, K0_j2⟩
        have k389 := k379.tr K0_j2
        have k390 := k380.tr K0_j2
        have k391 := k381.tr K0_j2
        have k392 := k382.tr K0_j2
        have k393 := k383.tr K0_j2
        cases hF
        exact wp_ret <| rt rfl (.tmp l8_j2 rfl .nil) ⟨rfl, k389⟩
      ·
        have hF := ifn hF h7
        refine wp_skip <| wp_seq <| rg <| vl rfl rfl (xlda l9_j1 ti24 rfl (Bx.cs hb292)) <| vl rfl rfl (xfa l5_j1 fa56_0) <| vl rfl rfl (xld rfl ti3 ((Bx.cs hb291).at 0 rfl)) <| vl rfl rfl (xfa l5_j1 fa56_1) <| vl rfl rfl (xld rfl ti3 ((Bx.cs hb291).at 1 rfl)) <| ?_
        have hz := bs hF; obtain ⟨x19, Ex19, hF⟩ := hz
        refine cl rfl rfl (xc cb22 (mc rfl (mc rfl (mc rfl mn)))) (c22 (show RV (α := (Int × (List (Int × Int × Int)))) _ (.agg [.int .i64 y1.1, .slice a31 y1.2.length cq31].toArray) (y1.1, y1.2) from ⟨_, rfl, ⟨[.int .i64 y1.1], [.slice a31 y1.2.length cq31], rfl, rfl, r215.rep1⟩⟩) Ex19) ?_
        rintro _ w95 ⟨u4, rfl, r216, hx47⟩
        have k394 := k379.tr hx47
        have k395 := k380.tr hx47
        have k396 := k381.tr hx47
        have k397 := k382.tr hx47
        have k398 := k383.tr hx47
        have hb295 := hb291.ext hx47
        have hb296 := hb293.ext hx47
        have hb297 := hb294.ext hx47
        have hz := RV.sl r216; obtain ⟨a33, cq33, rfl, -, -, -⟩ := hz
        refine vl rfl rfl xmv <| vl rfl rfl (xext rfl rfl) <| vl rfl rfl (xext rfl rfl) <| vl rfl rfl (xext rfl rfl) <| vl rfl rfl xas <| vl rfl rfl xas <| vl rfl rfl xas <| nl <| wp_seq <| ?_
        have hz := bs hF; obtain ⟨y3, hB31, hF⟩ := hz
        refine ct (fun L w => L 8 = .bool y3 ∧ Ext w95 w) ?_ ?_
        ·
          refine rg <| vl rfl rfl xmv <| vl rfl rfl (xeql rfl rfl) <| vl rfl rfl xmv <| ?_
          have hz := ifs hB31; obtain ⟨h10, hB31⟩ := hz
          refine gtk rfl rfl rfl rfl rfl (bt h10) <| vl rfl rfl xmv <| gtk rfl rfl rfl rfl rfl (bt h10) <| vl rfl rfl (xeql rfl rfl) <| vl rfl rfl (xpt rfl h10 rfl) <| vl rfl rfl xmv <| ?_
          have hz := ifs hB31; obtain ⟨h11, hB31⟩ := hz
          refine gtk rfl rfl rfl rfl rfl (bt h11) <| vl rfl rfl (xlda rfl ti28 rfl (Bx.cs hb297)) <| gtk rfl rfl rfl rfl rfl (bt h11) <| vl rfl rfl (xlda rfl ti28 rfl (Bx.cs hb296)) <| ?_
          have hz := bs hB31; obtain ⟨x20, Ex20, hB31⟩ := hz
          refine gtk rfl rfl rfl rfl rfl (bt h11) <| cl rfl rfl (xc cb38 (mc rfl (mc rfl mn))) (c38 (show RV (α := (Int × Int)) _ (.agg [.int .i64 x16.1.1, .int .i64 x16.1.2].toArray) (x16.1.1, x16.1.2) from ⟨_, rfl, ⟨[.int .i64 x16.1.1], [.int .i64 x16.1.2], rfl, rfl, rfl⟩⟩) (show RV (α := (Int × Int)) _ (.agg [.int .i64 x12.1.1, .int .i64 x12.1.2].toArray) (x12.1.1, x12.1.2) from ⟨_, rfl, ⟨[.int .i64 x12.1.1], [.int .i64 x12.1.2], rfl, rfl, rfl⟩⟩) Ex20) ?_
          rintro _ w96 ⟨rfl, hx48⟩
          have k399 := k394.tr hx48
          have k400 := k395.tr hx48
          have k401 := k396.tr hx48
          have k402 := k397.tr hx48
          have k403 := k398.tr hx48
          have hb298 := hb295.ext hx48
          have hb299 := hb296.ext hx48
          have hb300 := hb297.ext hx48
          refine vl rfl rfl (xpt rfl h11 rfl) <| vl rfl rfl xmv <| ?_
          have hz := ifs hB31; obtain ⟨h12, hB31⟩ := hz
          refine gtk rfl rfl rfl rfl rfl (bt h12) <| vl rfl rfl xmv <| gtk rfl rfl rfl rfl rfl (bt h12) <| vl rfl rfl xmv <| gtk rfl rfl rfl rfl rfl (bt h12) <| vl rfl rfl (xfa l5_j1 fa56_2) <| gtk rfl rfl rfl rfl rfl (bt h12) <| vl rfl rfl (xld rfl ti2 ((Bx.cs hb298).at 2 rfl)) <| gtk rfl rfl rfl rfl rfl (bt h12) <| vl rfl rfl (xmin rfl rfl) <| gtk rfl rfl rfl rfl rfl (bt h12) <| vl rfl rfl (xeql rfl rfl) <| vl rfl rfl (xpt rfl h12 rfl) <| vl rfl rfl xmv <| ?_
          have hz := ifs hB31; obtain ⟨h13, hB31⟩ := hz
          refine gtk rfl rfl rfl rfl rfl (bt h13) <| vl rfl rfl (xfa l5_j1 fa56_2) <| gtk rfl rfl rfl rfl rfl (bt h13) <| vl rfl rfl (xld rfl ti2 ((Bx.cs hb298).at 2 rfl)) <| gtk rfl rfl rfl rfl rfl (bt h13) <| vl rfl rfl xmv <| gtk rfl rfl rfl rfl rfl (bt h13) <| vl rfl rfl (xlss rfl rfl) <| gtk rfl rfl rfl rfl rfl (bt h13) <| vl rfl rfl xmv <| ?_
          refine Or.elim (Bool.eq_false_or_eq_true (decide (x1.2.2 < x13.2.1))) (fun h14 => ?_) (fun h14 => ?_)
          ·
            have hB31 := ifp hB31 h14
            refine gfk rfl rfl rfl rfl rfl (btf h14) rfl <| gfk rfl rfl rfl rfl rfl (btf h14) rfl <| gfk rfl rfl rfl rfl rfl (btf h14) rfl <| gtk rfl rfl rfl rfl rfl (bt h13) <| vl rfl rfl (xpt rfl h14 rfl) <| vl rfl rfl (xpt rfl h13 rfl) <| vl rfl rfl xmv <| ?_
            have hz := ifs hB31; obtain ⟨h15, hB31⟩ := hz
            have hz := bs hB31; obtain ⟨x21, Ex21, hB31⟩ := hz
            refine gtk rfl rfl rfl rfl rfl (bt h15) <| cl rfl rfl (xc cb15 mn) (c15 Ex21) ?_
            rintro _ w97 ⟨rfl, hx49⟩
            have k404 := k399.tr hx49
            have k405 := k400.tr hx49
            have k406 := k401.tr hx49
            have k407 := k402.tr hx49
            have k408 := k403.tr hx49
            have k409 := hx48.tr hx49
            refine vl rfl rfl (xpt rfl h15 rfl) <| vl rfl rfl xas <| nl <| ?_
            cases hB31
            refine lf <| ?_
            exact ⟨rfl, k409⟩
          ·
            have hB31 := ifn hB31 h14
            refine gtk rfl rfl rfl rfl rfl (bf h14) <| vl rfl rfl (xlda rfl ti28 rfl (Bx.cs hb300)) <| gtk rfl rfl rfl rfl rfl (bf h14) <| vl rfl rfl (xlda rfl ti28 rfl (Bx.cs hb299)) <| gtk rfl rfl rfl rfl rfl (bf h14) <| vl rfl rfl (xage (α := (Int × Int)) (a := (x16.1.1, x16.1.2)) (b := (x12.1.1, x12.1.2)) rfl eg28 eq28 rfl rfl rfl rfl rfl) <| gtk rfl rfl rfl rfl rfl (bt h13) <| vl rfl rfl (xpf rfl h14 rfl) <| vl rfl rfl (xpt rfl h13 rfl) <| vl rfl rfl xmv <| ?_
            have hz := ifs hB31; obtain ⟨h16, hB31⟩ := hz
            have hz := bs hB31; obtain ⟨x22, Ex22, hB31⟩ := hz
            refine gtk rfl rfl rfl rfl rfl (bt h16) <| cl rfl rfl (xc cb15 mn) (c15 Ex22) ?_
            rintro _ w98 ⟨rfl, hx50⟩
            have k410 := k399.tr hx50
            have k411 := k400.tr hx50
            have k412 := k401.tr hx50
            have k413 := k402.tr hx50
            have k414 := k403.tr hx50
            have k415 := hx48.tr hx50
            refine vl rfl rfl (xpt rfl h16 rfl) <| vl rfl rfl xas <| nl <| ?_
            cases hB31
            refine lf <| ?_
            exact ⟨rfl, k415⟩
        rintro L w99 ⟨l8_j3, K0_j3⟩
        have k416 := k394.tr K0_j3
        have k417 := k395.tr K0_j3
        have k418 := k396.tr K0_j3
        have k419 := k397.tr K0_j3
        have k420 := k398.tr K0_j3
        cases hF
        exact wp_ret <| rt rfl (.tmp l8_j3 rfl .nil) ⟨rfl, k416⟩
end Go.Proofs.Ythppacohnciinaa
