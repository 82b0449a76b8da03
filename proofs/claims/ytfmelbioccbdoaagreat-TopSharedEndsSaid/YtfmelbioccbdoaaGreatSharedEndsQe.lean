/-
  Part 5 of 7 of what the last text stands on: lemmas about the model, pure functions, walks, laws in plain Lean; each part's own head says its condition. Merged by a program of our own.
-/
import Derived.Test.YtfmelbioccbdoaaGreatSharedEndsQd
import Derived.RangeFuncNested
set_option maxHeartbeats 0
set_option linter.all false
section
namespace Go.Proofs.YtfmelbioccbdoaaGreat
open Go Go.Md Go.RowKit
attribute [local irreducible] Go.wpList Go.Code.wp Go.Calls Go.Md.Rnd Go.Md.Mt Go.Md.MtM Go.Md.RndM Go.Code.wpIn
structure NT (w0 w:World) (base b4:Nat) (a1:Option Addr) (c1:Nat) (c:TCyl) (sv:Value) (st:List TStep) (X:TFits) (ma mu:Nat):Prop where
 bx:Bx w b4 199 (tcells a1 c1 c sv X ma mu)
 row:Row 56 base w sv st
 ma:Mp (κ:=TState) (ν:=Int) w ma []
 mu:Mp (κ:=TState) (ν:=Int) w mu []
 ext:Ext w0 w
 size:base≤w.heap.size
section
variable {w0 w w1 w2:World} {base b4:Nat} {a1:Option Addr} {c1:Nat} {c:TCyl} {sv sv':Value} {st st':List TStep} {X:TFits} {ma mu:Nat}
theorem NT.go (h:NT w0 w base b4 a1 c1 c sv st X ma mu) (k:Ext w w1):NT w0 w1 base b4 a1 c1 c sv st X ma mu :=
 ⟨h.bx.ext k,h.row.ext k,h.ma.ext k,h.mu.ext k,h.ext.tr k,Nat.le_trans h.size k.size⟩
theorem NT.steps (h:NT w0 w base b4 a1 c1 c sv st X ma mu) (hw0:w0.heap.size≤base) (h0:w0.heap.size≤b4) (h4:b4<base) (ha:ma<base) (hu:mu<base) (o:Row 56 base w1 sv' st') (hB:Below base w w1) (hc:Chg b4 w1 w2) (hb:Bx w2 b4 199 (Md.splice (tcells a1 c1 c sv X ma mu) 4 [sv'])) :
  NT w0 w2 base b4 a1 c1 c sv' st' X ma mu:=by
 have hx:Bx w1 b4 199 (tcells a1 c1 c sv X ma mu):=h.bx.below hB h4
 exact ⟨hb,o.chg hc h4,(h.ma.below hB ha).chgb hc hx,(h.mu.below hB hu).chgb hc hx,Ext.chg (h.ext.trans (hB.mono hw0)) hc h0,by rw [hc.size]; exact Nat.le_trans h.size hB.size⟩
theorem NT.fit {Y:TFits} (h:NT w0 w base b4 a1 c1 c sv st X ma mu) (h0:w0.heap.size≤b4) (h4:b4<base) (hc:Chg b4 w w1) (hb:Bx w1 b4 199 (tcells a1 c1 c sv Y ma mu)):NT w0 w1 base b4 a1 c1 c sv st Y ma mu :=
 ⟨hb,h.row.chg hc h4,h.ma.chgb hc h.bx,h.mu.chgb hc h.bx,h.ext.chg hc h0,by rw [hc.size]; exact h.size⟩
end
set_option maxHeartbeats 8000000 in
set_option maxRecDepth 20000 in
theorem c215t {w0:World} {v0:Value} {x0:TCyl} (r0:RV w0 v0 x0) {F:Nat} {r:Ob TTable} (hF:join_newTable F x0=some r) :
  Calls Tryz.prog 215 [v0].toArray w0 (Ret fun v w'=>∃ b a1 c1 sv st X ma mu base,v=.pointer (some ⟨b,0,none⟩)∧r=⟨some (x0,st,X,.mk,.mk)⟩∧NT w0 w' base b a1 c1 x0 sv st X ma mu∧RVo (·<w0.heap.size) w0 (.slice a1 x0.1.length c1) x0.1 ∧
   w0.heap.size≤b∧b<base∧w0.heap.size≤ma∧ma<base∧w0.heap.size≤mu∧mu<base∧ma≠mu):=by
 unfold join_newTable at hF
 have hz:=bs hF; obtain ⟨st,hS,hF⟩:=hz
 have hz:=bs hF; obtain ⟨X,hX,hF⟩:=hz
 cases hF
 have hz:=id r0; obtain ⟨_,rfl,⟨_,_,rfl,⟨a1,c1,rfl,p1,q3,e1⟩,⟨_,_,rfl,rfl,⟨_,_,rfl,rfl,rfl⟩⟩⟩⟩:=hz
 have r3:=RV.of1 p1 q3 e1
 refine entr (n:=96) Tryz.func215 rfl rfl rfl<|Zr<|sbx rfl rfl fun b1 w1 hx1 hg1 hb1=>?_
 refine Za<|nl<|Zr<|Zv (xlda rfl ti48 rfl (Bx.cs hb1))<|smmk (κ:=TState) (ν:=Int) fun ma w2 hx2 hg2 hm2=>?_
 refine smmk (κ:=TState) (ν:=Int) fun mu w3 hx3 hg3 hm3=>?_
 refine Zv (xbdv (r:=tcells a1 c1 x0 (.slice none 0 0) (Ar.fill 16 (Ar.fill 16 0)) ma mu) ti199 sp199 (pc rfl (pc rfl (pc rfl pn))) rfl)<|sbx rfl rfl fun b4 w4 hx4 hg4 hb4=>?_
 have k3:Ext w0 w3:=(hx1.tr hx2).tr hx3
 have hlma:=hm2.lt
 have hlmu:=hm3.lt
 have hlb:=hb4.lt
 have z1:=hx1.size
 have z2:=hx2.size
 have z3:=hx3.size
 have z4:=hx4.size
 have T0:NT w0 w4 w4.heap.size b4 a1 c1 x0 (.slice none 0 0) [] (Ar.fill 16 (Ar.fill 16 0)) ma mu:=⟨hb4,Row.nil,(hm2.ext hx3).ext hx4,hm3.ext hx4,k3.tr hx4,Nat.le_refl _⟩
 have hw0:w0.heap.size≤w4.heap.size:=by omega
 have h0b:w0.heap.size≤b4:=by omega
 have h0a:w0.heap.size≤ma:=by omega
 have h0u:w0.heap.size≤mu:=by omega
 have hab:ma<w4.heap.size:=by omega
 have hub:mu<w4.heap.size:=by omega
 have hne:ma≠mu:=by omega
 generalize hbase:w4.heap.size=base at T0 hw0 hab hub hlb
 refine Za<|nl<|wp_seq<|Zr<|Zm<|Zv (xnil rfl)<|Zv (xfa rfl fa199_0)<|Zv (xfa rfl fa48_0)<|Zv (xld rfl ti46 ((Bx.cs hb4).at 0 rfl))<|Zv (xlen rfl Tryz.underlying46)<|Zm<|nl<|?_
 refine ct (fun L w=>∃ sv,L 3=.pointer (some ⟨b4,0,none⟩)∧NT w0 w base b4 a1 c1 x0 sv st (Ar.fill 16 (Ar.fill 16 0)) ma mu) ?_ ?_
 ·refine wp_block<|lp (I:=fun m L w=>∃ (i:Int) (sts:List TStep) (sv:Value),nt_l1 x0.1 m i sts=some st∧L 21=.int .i64 i∧L 20=.int .i64 (x0.1.length:Int)∧L 19=.slice a1 x0.1.length c1∧L 3=.pointer (some ⟨b4,0,none⟩)∧NT w0 w base b4 a1 c1 x0 sv sts (Ar.fill 16 (Ar.fill 16 0)) ma mu) F
   ⟨_,_,_,hS,rfl,rfl,rfl,rfl,T0⟩ ?_
  rintro m L w ⟨i,sts,sv,hB,l21,l20,l19,l3,T⟩
  rcases m with _ | m
  ·rw [nt_l1] at hB; cases hB
  rw [nt_l1] at hB
  refine Zr<|Zv (xlss l21 l20)<|nl<|wp_seq<|cnd rfl (fun h6=>?_) (fun h6=>?_)
  ·have hB:=ifp hB h6
   have hz:=bs hB; obtain ⟨p,Ep,hB⟩:=hz
   have hz:=bs hB; obtain ⟨s1,E1,hB⟩:=hz
   have hz:=(RV.els (r3.ext T.ext)).ix Ep; obtain ⟨b5,off5,cs5,e,i1,i2,q5,hc5⟩:=hz
   cases e
   obtain rfl:=Flat.iff.1 q5
   refine wp_skip<|wp_seq<|wp_block<|Zr<|Zm<|Zv (xixs l19 l21 Tryz.underlying46 ti176 i1 i2)<|Zv (xlda rfl ti176 rfl hc5)<|sal ti176 fun b6 w5 hx5 hg5 hb6=>?_
   refine Zv (xasa l21)<|sst rfl rfl rfl ti176 hb6 rfl rfl (ble rfl) fun w6 hch6 hb7=>?_
   have kx6:Ext w w6:=hx5.chg hch6 hg5
   have T6:=T.go kx6
   refine nl<|Zr<|Zv (xmva l3)<|Zv (xmva l3)<|Zv (xnil rfl)<|Zv (xfa rfl fa199_1)<|Zv (xld rfl ti51 ((Bx.cs T6.bx).at 4 rfl))<|Zm<|Zv (xbdv (r:=[.int .i64 i,.bool false]) ti56 sp56 (pc rfl pn) rfl)<|sbsv (cs:=[.int .i64 i,.bool false]) Tryz.underlying51 ti56 rfl (pc rfl pn) rfl rfl rfl rfl rfl fun b8 w7 hx7 hg7 hb8=>?_
   have o7:Row (α:=TStep) 56 w6.heap.size w7 (.slice (some ⟨b8,0,none⟩) 1 1) [(i,false)]:=Row.lit hg7 hb8 rfl (ble rfl)
   have T7:=T6.go hx7
   refine sapx (l:=sts) (k:=([(i,false)]:List TStep)) rfl rfl Tryz.underlying51 ti56 rfl rfl T7.row (RV.els o7.rv) E1 T7.size fun v8 w8 o8 hB8 hg8 hw8=>?_
   have hz:=RV.sl o8.rv; obtain ⟨a8,c8,rfl,-,-,-⟩:=hz
   refine Zv (xnil rfl)<|Zv (xfa rfl fa199_1)<|sst rfl rfl rfl ti51 (T7.bx.below hB8 hlb) rfl rfl (by rw [tcells_len]; exact ble rfl) fun w9 hch9 hb9=>?_
   have T9:=T7.steps hw0 h0b hlb hab hub o8 hB8 hch9 hb9
   have hb7x:Bx w9 b6 176 (Flat.enc p):=by
    have h1:Bx w6 b6 176 (Flat.enc p):=hb7
    have hs:=T.size
    exact ((h1.ext hx7).gr hg8 (T.row.ne_new hg5)).chg hch9 (by omega)
   refine nl<|Zr<|Zv (xfa rfl fa176_1)<|Zv (xld rfl ti4 ((Bx.cs hb7x).at 6 rfl))<|nl<|cnd rfl (fun hl=>?_) (fun hl=>?_)
   ·have hB:=ifp hB hl
    have hz:=bs hB; obtain ⟨s2,E2,hB⟩:=hz
    refine rg<|Zv (xmva l3)<|Zv (xmva l3)<|Zv (xnil rfl)<|Zv (xfa rfl fa199_1)<|Zv (xld rfl ti51 ((Bx.cs T9.bx).at 4 rfl))<|Zm<|Zv (xbdv (r:=[.int .i64 i,.bool true]) ti56 sp56 (pc rfl (pc rfl pn)) rfl)<|sbsv (cs:=[.int .i64 i,.bool true]) Tryz.underlying51 ti56 rfl (pc rfl pn) rfl rfl rfl rfl rfl fun b8 w7 hx7 hg7 hb8=>?_
    have o7:Row (α:=TStep) 56 w9.heap.size w7 (.slice (some ⟨b8,0,none⟩) 1 1) [(i,true)]:=Row.lit hg7 hb8 rfl (ble rfl)
    have T7:=T9.go hx7
    refine sapx (l:=s1) (k:=([(i,true)]:List TStep)) rfl rfl Tryz.underlying51 ti56 rfl rfl T7.row (RV.els o7.rv) E2 T7.size fun v8 w8 o8 hB8 hg8 hw8=>?_
    have hz:=RV.sl o8.rv; obtain ⟨a8,c8,rfl,-,-,-⟩:=hz
    refine Zv (xnil rfl)<|Zv (xfa rfl fa199_1)<|sst rfl rfl rfl ti51 (T7.bx.below hB8 hlb) rfl rfl (by rw [tcells_len]; exact ble rfl) fun w9 hch9 hb9=>?_
    have T9:=T7.steps hw0 h0b hlb hab hub o8 hB8 hch9 hb9
    refine nl<|rg<|Zv (xadd l21 rfl)<|Zm<|nl<|?_
    exact lq m (Nat.lt_succ_self _) ⟨_,_,_,hB,rfl,l20,l19,l3,T9⟩
   ·have hB:=ifn hB hl
    refine wp_skip<|rg<|Zv (xadd l21 rfl)<|Zm<|nl<|?_
    exact lq m (Nat.lt_succ_self _) ⟨_,_,_,hB,rfl,l20,l19,l3,T9⟩
  ·have hB:=ifn hB h6
   cases hB
   exact wp_exit<|lf ⟨_,l3,T⟩
 rintro L w5 ⟨sv,l3,T5⟩
 clear hS
 have hz:=RV.sl T5.row.rv; obtain ⟨a5,c5,rfl,-,-,-⟩:=hz
 refine wp_seq<|Zr<|Zv (xmva l3)<|Zv (xnil rfl)<|Zv (xfa rfl fa199_1)<|Zv (xld rfl ti51 ((Bx.cs T5.bx).at 4 rfl))<|Zv (xlen rfl Tryz.underlying51)<|Zm<|nl<|?_
 refine ct (fun L w=>L 3=.pointer (some ⟨b4,0,none⟩)∧NT w0 w base b4 a1 c1 x0 (.slice a5 st.length c5) st X ma mu) ?_ ?_
 ·refine wp_block<|lp (I:=fun m L w=>∃ (i:Int) (Y:TFits),nt_l2 F x0 st m i Y=some X∧L 56=.int .i64 i∧L 55=.int .i64 (st.length:Int)∧L 54=.slice a5 st.length c5∧L 3=.pointer (some ⟨b4,0,none⟩)∧NT w0 w base b4 a1 c1 x0 (.slice a5 st.length c5) st Y ma mu) F
   ⟨_,_,hX,rfl,rfl,rfl,l3,T5⟩ ?_
  rintro m L w ⟨i,Y,hB,l56,l55,l54,l3,T⟩
  rcases m with _ | m
  ·rw [nt_l2] at hB; cases hB
  rw [nt_l2] at hB
  refine Zr<|Zv (xlss l56 l55)<|nl<|wp_seq<|cnd rfl (fun h6=>?_) (fun h6=>?_)
  ·have hB:=ifp hB h6
   have hz:=bs hB; obtain ⟨p,Ep,hB⟩:=hz
   have hz:=bs hB; obtain ⟨Y2,E3,hB⟩:=hz
   have hz:=(RV.els T.row.rv).ix Ep; obtain ⟨b5,off5,cs5,e,i1,i2,q5,hc5⟩:=hz
   cases e
   obtain rfl:=Flat.iff.1 q5
   refine wp_skip<|wp_seq<|wp_block<|Zr<|Zm<|Zv (xixs l54 l56 Tryz.underlying51 ti56 i1 i2)<|Zv (xlda rfl ti56 rfl hc5)<|sal ti56 fun b6 w6 hx6 hg6 hb6=>?_
   refine Zv (xasa l56)<|sst rfl rfl rfl ti56 hb6 rfl rfl (ble rfl) fun w7 hch7 hb7=>?_
   have kx7:Ext w w7:=hx6.chg hch7 hg6
   have T7:=T.go kx7
   have hb7x:Bx w7 b6 56 (Flat.enc p):=hb7
   have hzs:=T.size
   have h6b:base≤b6:=by omega
   refine nl<|Zr<|Zv (xmva l3)<|Zv (xnil rfl)<|Zv (xfa rfl fa199_1)<|Zv (xld rfl ti51 ((Bx.cs T7.bx).at 4 rfl))<|Zv (xlen rfl Tryz.underlying51)<|Zm<|nl<|?_
   refine ct (fun L w=>L 56=.int .i64 i∧L 55=.int .i64 (st.length:Int)∧L 54=.slice (some ⟨b5,off5,none⟩) st.length c5∧L 3=.pointer (some ⟨b4,0,none⟩)∧NT w0 w base b4 a1 c1 x0 (.slice (some ⟨b5,off5,none⟩) st.length c5) st Y2 ma mu) ?_ ?_
   ·refine wp_block<|lp (I:=fun m L w=>∃ (k:Int) (Y:TFits),nt_l3 x0 st i p m k Y=some Y2∧L 66=.int .i64 k∧L 65=.int .i64 (st.length:Int)∧L 64=.slice (some ⟨b5,off5,none⟩) st.length c5∧L 7=.pointer (some ⟨b6,0,none⟩)∧L 6=.int .i64 i∧Bx w b6 56 (Flat.enc p) ∧
      L 56=.int .i64 i∧L 55=.int .i64 (st.length:Int)∧L 54=.slice (some ⟨b5,off5,none⟩) st.length c5∧L 3=.pointer (some ⟨b4,0,none⟩)∧NT w0 w base b4 a1 c1 x0 (.slice (some ⟨b5,off5,none⟩) st.length c5) st Y ma mu) F
     ⟨_,_,E3,rfl,rfl,rfl,rfl,rfl,hb7x,l56,l55,l54,l3,T7⟩ ?_
    clear hB T T7 E3 hc5 hb7 hb7x
    rintro m L w ⟨k,Y,hB,l66,l65,l64,l7,l6,hbp,l56,l55,l54,l3,T⟩
    rcases m with _ | m
    ·rw [nt_l3] at hB; cases hB
    rw [nt_l3] at hB
    refine Zr<|Zv (xlss l66 l65)<|nl<|wp_seq<|cnd rfl (fun h6=>?_) (fun h6=>?_)
    ·have hB:=ifp hB h6
     have hz:=bs hB; obtain ⟨q,Eq,hB⟩:=hz
     have hz:=bs hB; obtain ⟨f,Ef,hB⟩:=hz
     have hz:=ix2 T.row.rv Eq; obtain ⟨cs8,i3,i4,q8,hc8⟩:=hz
     obtain rfl:=Flat.iff.1 q8
     refine wp_skip<|wp_seq<|wp_block<|Zr<|Zm<|Zv (xixs l64 l66 Tryz.underlying51 ti56 i3 i4)<|Zv (xlda rfl ti56 rfl hc8)<|sal ti56 fun b9 w8 hx8 hg8 hb8=>?_
     refine Zv (xasa l66)<|sst rfl rfl rfl ti56 hb8 rfl rfl (ble rfl) fun w9 hch9 hb9=>?_
     have kx9:Ext w w9:=hx8.chg hch9 hg8
     have T9:=T.go kx9
     have hbq:Bx w9 b9 56 (Flat.enc q):=hb9
     have hbp9:=hbp.ext kx9
     refine nl<|wp_seq<|wpl [] (.pure true 0 (.pure false 1 (.pure true 2 (.pure false 3 (.pure true 4 (.pure true 5 (.pure true 6 (.pure true 7 (.pure false 8 (.pure true 10 (.pure false 11 (.eff 9 (.eff 12 (.eff 13 (.pure true 14 .fin) .stop) .stop) .stop)))))))))))) mixed (by kernel_rfl) (fun wd hxd=>?_)
     have Td:=T9.go hxd
     have dq:=hbq.ext hxd
     have dp:=hbp9.ext hxd
     refine Zp rfl (fun _=>xfa l7 fa56_0)<|Zq rfl (fun _ hS=>xld rfl ti3 ((Bx.cs (dp.ext (hS.resolve_left nofun))).at 0 rfl)) (Ext.refl _)<|Zp rfl (fun _=>xfa rfl fa56_0)<|Zq rfl (fun _ hS=>xld rfl ti3 ((Bx.cs (dq.ext (hS.resolve_left nofun))).at 0 rfl)) (Ext.refl _)<|Zp rfl (fun _=>xneq rfl rfl)<|Zn rfl<|?_
     have Ef':(if (!decide (p.1=q.1))=true then (join_table_end (x0,st,Y,.mk,.mk) p 1) >>= fun e=>(join_table_end (x0,st,Y,.mk,.mk) q 0) >>= fun d=>join_table_meets (x0,st,Y,.mk,.mk) e d else some false)=some f:=Ef
     refine Or.elim (Bool.eq_false_or_eq_true (!decide (p.1=q.1))) (fun hg=>?_) (fun hg=>?_)
     ·have Ef':=ifp Ef' hg
      have hz:=bs Ef'; obtain ⟨e,Ee,Ef'⟩:=hz
      have hz:=bs Ef'; obtain ⟨d,Ed,Ef'⟩:=hz
      refine Zt rfl rfl rfl rfl (bt hg) (fun _=>xmva l3)<|Zt rfl rfl rfl rfl (bt hg) (fun _=>xmva l3)<|pvt rfl rfl rfl rfl rfl rfl (bt hg) rfl (fun _ hS=>xlda l7 ti56 rfl (Bx.cs (dp.ext (hS.resolve_left nofun)))) (.inr (Ext.refl _))<|Zt rfl rfl rfl rfl (bt hg) (fun _=>xmva l3)<|pvt rfl rfl rfl rfl rfl rfl (bt hg) rfl (fun _ hS=>xlda rfl ti56 rfl (Bx.cs (dq.ext (hS.resolve_left nofun)))) (.inr (Ext.refl _))<|?_
      refine pe1 rfl<|gtk rfl rfl rfl rfl rfl (bt hg)<|Zc (xc cb298 (mc rfl<|mc rfl<|mc rfl mn)) (c298 (x0:=(x0,st,Y,.mk,.mk)) (Bx.cs Td.bx) (tcells_rep (r3.ext Td.ext) Td.row.rv) (x1:=p) ⟨_,rfl,Flat.iff.2 rfl⟩ Ee) ?_
      rintro _ wE ⟨uE,rfl,rE,hxE⟩
      have TE:=Td.go hxE
      refine nl ⟨fun _ h=>h.tr hxE,?_⟩
      refine pe1 rfl<|gtk rfl rfl rfl rfl rfl (bt hg)<|Zc (xc cb298 (mc rfl<|mc rfl<|mc rfl mn)) (c298 (x0:=(x0,st,Y,.mk,.mk)) (Bx.cs TE.bx) (tcells_rep (r3.ext TE.ext) TE.row.rv) (x1:=q) ⟨_,rfl,Flat.iff.2 rfl⟩ Ed) ?_
      rintro _ wG ⟨uG,rfl,rG,hxG⟩
      have TG:=TE.go hxG
      refine nl ⟨fun _ h=>h.tr hxG,?_⟩
      refine pe1 rfl<|gtk rfl rfl rfl rfl rfl (bt hg)<|Zc (xc cb297 (mc rfl<|mc rfl<|mc rfl mn)) (c297 (x0:=(x0,st,Y,.mk,.mk)) (Bx.cs TG.bx) (tcells_rep (r3.ext TG.ext) TG.row.rv) (rE.ext hxG) rG Ef') ?_
      rintro _ wH ⟨rfl,hxH⟩
      have TH:=TG.go hxH
      have hbp':=((dp.ext hxE).ext hxG).ext hxH
      refine nl ⟨fun _ h=>h.tr hxH,?_⟩
      refine Zp rfl (fun _=>xpt rfl hg rfl)<|?_
      refine cnd rfl (fun hf=>?_) (fun hf=>?_)
      ·have hB:=ifp hB hf
       have hz:=bs hB; obtain ⟨r,Er,hB⟩:=hz
       have hz:=bs hB; obtain ⟨y0,Ey,hB⟩:=hz
       have hz:=ixar (Cs.mid (l1:=[.slice a1 x0.1.length c1,.int .i64 x0.2.1,.int .i64 x0.2.2.1,.int .i64 x0.2.2.2,.slice (some ⟨b5,off5,none⟩) st.length c5]) (X:=Y) (l2:=[.map (some ma),.map (some mu)]) (Bx.cs TH.bx)) Er; obtain ⟨j1,j2,hc1⟩:=hz
       have hz:=ixar (X:=r) hc1 Ey; obtain ⟨j3,j4,hc2⟩:=hz
       refine rg<|Zv (xmva l3)<|Zv (xmva l6)<|Zm<|Zv (xnil rfl)<|Zv (xfa rfl fa199_2)<|Zv (xixa rfl rfl Tryz.underlying196 ti195 j1 j2)<|Zv (xixa rfl rfl Tryz.underlying195 ti3 j3 j4)<|sst (vs:=[.int .i64 1]) rfl rfl rfl ti3 TH.bx rfl rfl (by rw [tcells_len,List.length_singleton]; omega) fun wK hchK hbK=>?_
       rw [show 0 + 5 + i.toNat * 16 + k.toNat * 1=5 + (i.toNat * 16 + k.toNat) by omega,tcells_set Er j3 j4] at hbK
       have T':=TH.fit h0b hlb hchK hbK
       have hbp':=hbp'.chg hchK (by omega)
       refine nl<|rg<|Zv (xadd l66 rfl)<|Zm<|nl<|?_
       exact lq m (Nat.lt_succ_self _) ⟨_,_,hB,rfl,l65,l64,l7,l6,hbp',l56,l55,l54,l3,T'⟩
      ·have hB:=ifn hB hf
       have T':=TH
       refine wp_skip<|rg<|Zv (xadd l66 rfl)<|Zm<|nl<|?_
       exact lq m (Nat.lt_succ_self _) ⟨_,_,hB,rfl,l65,l64,l7,l6,hbp',l56,l55,l54,l3,T'⟩
     ·have Ef':=ifn Ef' hg
      cases Ef'
      refine Zf rfl rfl rfl rfl (bft hg)<|Zf rfl rfl rfl rfl (bft hg)<|pvf rfl rfl rfl rfl rfl rfl (bft hg) rfl (.inr (Ext.refl _))<|Zf rfl rfl rfl rfl (bft hg)<|pvf rfl rfl rfl rfl rfl rfl (bft hg) rfl (.inr (Ext.refl _))<|?_
      refine pe1 rfl<|gfk rfl rfl rfl rfl rfl (bft hg) rfl<|nl ⟨fun _ h=>h,?_⟩
      refine pe1 rfl<|gfk rfl rfl rfl rfl rfl (bft hg) rfl<|nl ⟨fun _ h=>h,?_⟩
      refine pe1 rfl<|gfk rfl rfl rfl rfl rfl (bft hg) rfl<|nl ⟨fun _ h=>h,?_⟩
      refine Zp rfl (fun _=>xpf rfl hg rfl)<|?_
      refine cnd rfl (fun hf=>by cases hf) (fun hf=>?_)
      have hB:=ifn hB rfl
      have hbp':=dp
      have T':=Td
      refine wp_skip<|rg<|Zv (xadd l66 rfl)<|Zm<|nl<|?_
      exact lq m (Nat.lt_succ_self _) ⟨_,_,hB,rfl,l65,l64,l7,l6,hbp',l56,l55,l54,l3,T'⟩
    ·have hB:=ifn hB h6
     cases hB
     exact wp_exit<|lf ⟨l56,l55,l54,l3,T⟩
   ·rintro L w8 ⟨l56,l55,l54,l3,T8⟩
    refine rg<|Zv (xadd l56 rfl)<|Zm<|nl<|?_
    exact lq m (Nat.lt_succ_self _) ⟨_,_,hB,rfl,l55,l54,l3,T8⟩
  ·have hB:=ifn hB h6
   cases hB
   exact wp_exit<|lf ⟨l3,T⟩
 rintro L w6 ⟨l3,T6⟩
 refine Zr<|Zv (xmva l3)<|Za<|nl<|wp_ret<|rt rfl (.tmp rfl rfl .nil) ?_
 exact ⟨b4,a1,c1,_,st,X,ma,mu,base,rfl,rfl,T6,r3.old,h0b,hlb,h0a,hab,h0u,hub,hne⟩
theorem tcells_end {w:World} {b:Nat} {a1:Option Addr} {c1:Nat} {c:TCyl} {sv:Value} {X:TFits} {ma mu:Nat} (h:Bx w b 199 (tcells a1 c1 c sv X ma mu)):w.cell? ⟨b,261,none⟩=some (.map (some ma))∧w.cell? ⟨b,262,none⟩=some (.map (some mu)):=by
 have h3:=Cs.end3 (l1:=[.slice a1 c.1.length c1,.int .i64 c.2.1,.int .i64 c.2.2.1,.int .i64 c.2.2.2,sv]) (X:=X) (l2:=[.map (some ma),.map (some mu)]) (Bx.cs h)
 exact ⟨h3.at 0 rfl,h3.at 1 rfl⟩
theorem c215m {w0:World} {v0:Value} {x0:TCyl} (r0:RV w0 v0 x0) {F:Nat} {r:Ob TTable} (hF:join_newTable F x0=some r) :
  Calls Tryz.prog 215 [v0].toArray w0 (Ret fun v w'=>∃ u0:Value,v=u0∧RV w' u0 r∧TbN w0.heap.size w' u0 r∧Ext w0 w'):=by
 refine Calls.mono (c215t r0 hF) fun e w' he=>?_
 obtain ⟨v,rfl,b,a1,c1,sv,st,X,ma,mu,base,rfl,rfl,T,r3,h0b,hb,h0a,ha,h0u,hu,hne⟩:=he
 have hpos:0<263:=by decide
 have hb1:=Ne.symm (T.ma.not_cells T.bx)
 have hb2:=Ne.symm (T.mu.not_cells T.bx)
 have hrep:Enc.rep (fun q=>q≠ma∧q≠mu) w' (tcells a1 c1 x0 sv X ma mu) ((x0,st,X,.mk,.mk):TTable) :=
  tcells_rep ((r3.ext T.ext).mono fun q _ hq=>⟨by omega,by omega⟩) (T.row.rvo.mono fun q _ hq=>⟨by omega,by omega⟩)
 have hT:TbN w0.heap.size w' (.pointer (some ⟨b,0,none⟩)) (⟨some (x0,st,X,.mk,.mk)⟩:Ob TTable) :=
  ⟨_,b,ma,mu,rfl,rfl,⟨_,rfl,_,rfl,b,_,rfl,⟨hb1,hb2⟩,T.bx.lt,hrep,Bx.cs T.bx⟩,(tcells_end T.bx).1,(tcells_end T.bx).2,T.ma,T.mu,hne,h0a,h0u⟩
 exact ⟨_,rfl,_,rfl,hT.rv,hT,T.ext⟩
theorem c215 {w0:World} {v0:Value} {x0:TCyl} (r0:RV w0 v0 x0) {F:Nat} {r:Ob TTable} (hF:join_newTable F x0=some r) :
  Calls Tryz.prog 215 [v0].toArray w0 (Ret fun v w'=>∃ u0:Value,v=u0∧RV w' u0 r∧Ext w0 w'):=by
 refine Calls.mono (c215m r0 hF) fun e w' he=>?_
 obtain ⟨v,rfl,u,rfl,h1,_,h2⟩:=he
 exact ⟨_,rfl,_,rfl,h1,h2⟩
end Go.Proofs.YtfmelbioccbdoaaGreat
end
section
namespace Go.Proofs.YtfmelbioccbdoaaGreat
open Go Go.Md Go.RowKit
def slices_IndexFunc_api_JoinStep_l1 (F:Nat) (x0:(List (Int×Bool))) (x1:((Int×Bool)→Option Bool)):Nat→Int→Option (Sum Int (Unit))
 | 0,_=>none
 | m + 1,y1 =>
  if (decide (y1<(x0.length:Int)))=true then
   (ix x0 y1) >>= fun x3 =>
   (x1 (x3.1,x3.2)) >>= fun x4 =>
   if x4=true then
    some (.inl y1)
   else
    slices_IndexFunc_api_JoinStep_l1 F x0 x1 m (w64 (y1 + 1))
  else
   some (.inr ())
def slices_IndexFunc_api_JoinStep (F:Nat) (x0:(List (Int×Bool))) (x1:((Int×Bool)→Option Bool)):Option Int :=
 ((slices_IndexFunc_api_JoinStep_l1 F x0 x1 F 0) >>= fun o=>match o with
  | .inl r=>some r
  | .inr () =>
   some (-1))
def slices_ContainsFunc_api_JoinStep (F:Nat) (x0:(List (Int×Bool))) (x1:((Int×Bool)→Option Bool)):Option Bool :=
 (slices_IndexFunc_api_JoinStep F x0 x1) >>= fun x3 =>
 some (decide (0≤x3))
def slices_Index_int_l1 (F:Nat) (x0:(List Int)) (x1:Int):Nat→Int→Option (Sum Int (Unit))
 | 0,_=>none
 | m + 1,y1 =>
  if (decide (y1<(x0.length:Int)))=true then
   (ix x0 y1) >>= fun x3 =>
   if (decide (x1=x3))=true then
    some (.inl y1)
   else
    slices_Index_int_l1 F x0 x1 m (w64 (y1 + 1))
  else
   some (.inr ())
def slices_Index_int (F:Nat) (x0:(List Int)) (x1:Int):Option Int :=
 ((slices_Index_int_l1 F x0 x1 F 0) >>= fun o=>match o with
  | .inl r=>some r
  | .inr () =>
   some (-1))
def slices_Contains_int (F:Nat) (x0:(List Int)) (x1:Int):Option Bool :=
 (slices_Index_int F x0 x1) >>= fun x3 =>
 some (decide (0≤x3))
def join_open_1 (F:Nat) (x0:(Int×Bool)) (x1:(Ob (((List ((((Int×Int)×Int)×((Int×Int)×Int))×Bool))×Int×(Int×Int))×(List (Int×Bool))×(Ar 16 (Ar 16 Int))×Opq×Opq))):Option Bool :=
 (x1.v) >>= fun x3 =>
 (join_table_index F ((x3.1.1,x3.1.2.1,(x3.1.2.2.1,x3.1.2.2.2)),x3.2.1,x3.2.2.1,Opq.mk,Opq.mk) (x0.1,x0.2)) >>= fun x4 =>
 some (decide (x4<0))
def join_open (F:Nat) (x0:((List ((((Int×Int)×Int)×((Int×Int)×Int))×Bool))×Int×(Int×Int))) (x1:(List (Int×Bool))):Option ((Ob (((List ((((Int×Int)×Int)×((Int×Int)×Int))×Bool))×Int×(Int×Int))×(List (Int×Bool))×(Ar 16 (Ar 16 Int))×Opq×Opq))×Int) :=
 (join_CheckCylinder F (x0.1,x0.2.1,(x0.2.2.1,x0.2.2.2))) >>= fun x3 =>
 if (!decide (x3=0))=true then
  some ((⟨none⟩:(Ob (((List ((((Int×Int)×Int)×((Int×Int)×Int))×Bool))×Int×(Int×Int))×(List (Int×Bool))×(Ar 16 (Ar 16 Int))×Opq×Opq))),x3)
 else
  (join_newTable F (x0.1,x0.2.1,(x0.2.2.1,x0.2.2.2))) >>= fun x4 =>
  (slices_ContainsFunc_api_JoinStep F x1 (fun y=>join_open_1 F y x4)) >>= fun x5 =>
  if x5=true then
   some ((⟨none⟩:(Ob (((List ((((Int×Int)×Int)×((Int×Int)×Int))×Bool))×Int×(Int×Int))×(List (Int×Bool))×(Ar 16 (Ar 16 Int))×Opq×Opq))),2)
  else
   some (x4,0)
def join_indexed_l1 (F:Nat) (x1:(List (Int×Bool))) (x3:((Ob (((List ((((Int×Int)×Int)×((Int×Int)×Int))×Bool))×Int×(Int×Int))×(List (Int×Bool))×(Ar 16 (Ar 16 Int))×Opq×Opq))×Int)):Nat→(List Int)→Int→Option ((List Int))
 | 0,_,_=>none
 | m + 1,y1,y2 =>
  if (decide (y2<(x1.length:Int)))=true then
   (ix x1 y2) >>= fun x4 =>
   (x3.1.v) >>= fun x5 =>
   (join_table_index F ((x5.1.1,x5.1.2.1,(x5.1.2.2.1,x5.1.2.2.2)),x5.2.1,x5.2.2.1,Opq.mk,Opq.mk) (x4.1,x4.2)) >>= fun x6 =>
   (app 8 y1 ([x6]:List Int)) >>= fun x7 =>
   join_indexed_l1 F x1 x3 m x7 (w64 (y2 + 1))
  else
   some y1
def join_indexed_l2 (F:Nat) (x1:(List (Int×Bool))):Nat→Int→Int→Option (Sum ((Ob (((List ((((Int×Int)×Int)×((Int×Int)×Int))×Bool))×Int×(Int×Int))×(List (Int×Bool))×(Ar 16 (Ar 16 Int))×Opq×Opq))×(List Int)×Int) (Unit))
 | 0,_,_=>none
 | m + 1,y3,y4 =>
  if (decide (y4<(x1.length:Int)))=true then
   (ix x1 y4) >>= fun x9 =>
   (shr .i64 y3 x9.1) >>= fun x10 =>
   if (decide ((band .i64 x10 1)=1))=true then
    some (.inl ((⟨none⟩:(Ob (((List ((((Int×Int)×Int)×((Int×Int)×Int))×Bool))×Int×(Int×Int))×(List (Int×Bool))×(Ar 16 (Ar 16 Int))×Opq×Opq))),[],11))
   else
    (shl .i64 1 x9.1) >>= fun x11 =>
    join_indexed_l2 F x1 m (bor .i64 y3 x11) (w64 (y4 + 1))
  else
   some (.inr ())
def join_indexed_l3 (F:Nat) (x3:((Ob (((List ((((Int×Int)×Int)×((Int×Int)×Int))×Bool))×Int×(Int×Int))×(List (Int×Bool))×(Ar 16 (Ar 16 Int))×Opq×Opq))×Int)) (z1:(List Int)):Nat→Int→Option (Sum ((Ob (((List ((((Int×Int)×Int)×((Int×Int)×Int))×Bool))×Int×(Int×Int))×(List (Int×Bool))×(Ar 16 (Ar 16 Int))×Opq×Opq))×(List Int)×Int) (Unit))
 | 0,_=>none
 | m + 1,y5 =>
  if (decide (y5<(z1.length:Int)))=true then
   (ix z1 (w64 (y5 - 1))) >>= fun x12 =>
   (ix z1 y5) >>= fun x13 =>
   (x3.1.v) >>= fun x14 =>
   (ix x14.2.2.1.l x12) >>= fun x15 =>
   (ix x15.l x13) >>= fun x16 =>
   if (decide (x16=0))=true then
    some (.inl ((⟨none⟩:(Ob (((List ((((Int×Int)×Int)×((Int×Int)×Int))×Bool))×Int×(Int×Int))×(List (Int×Bool))×(Ar 16 (Ar 16 Int))×Opq×Opq))),[],18))
   else
    join_indexed_l3 F x3 z1 m (w64 (y5 + 1))
  else
   some (.inr ())
def join_indexed (F:Nat) (x0:((List ((((Int×Int)×Int)×((Int×Int)×Int))×Bool))×Int×(Int×Int))) (x1:(List (Int×Bool))):Option ((Ob (((List ((((Int×Int)×Int)×((Int×Int)×Int))×Bool))×Int×(Int×Int))×(List (Int×Bool))×(Ar 16 (Ar 16 Int))×Opq×Opq))×(List Int)×Int) :=
 (join_open F (x0.1,x0.2.1,(x0.2.2.1,x0.2.2.2)) ([])) >>= fun x3 =>
 if (!decide (x3.2=0))=true then
  some ((⟨none⟩:(Ob (((List ((((Int×Int)×Int)×((Int×Int)×Int))×Bool))×Int×(Int×Int))×(List (Int×Bool))×(Ar 16 (Ar 16 Int))×Opq×Opq))),[],x3.2)
 else
  if (!decide ((x1.length:Int)=(x0.1.length:Int)))=true then
   some ((⟨none⟩:(Ob (((List ((((Int×Int)×Int)×((Int×Int)×Int))×Bool))×Int×(Int×Int))×(List (Int×Bool))×(Ar 16 (Ar 16 Int))×Opq×Opq))),[],15)
  else
   ((join_indexed_l1 F x1 x3 F ([]) 0) >>= fun z1 =>
   (slices_Contains_int F z1 (-1)) >>= fun x8 =>
   if x8=true then
    some ((⟨none⟩:(Ob (((List ((((Int×Int)×Int)×((Int×Int)×Int))×Bool))×Int×(Int×Int))×(List (Int×Bool))×(Ar 16 (Ar 16 Int))×Opq×Opq))),[],2)
   else
    ((join_indexed_l2 F x1 F 0 0) >>= fun o=>match o with
     | .inl r=>some r
     | .inr () =>
      ((join_indexed_l3 F x3 z1 F 1) >>= fun o=>match o with
       | .inl r=>some r
       | .inr () =>
        some (x3.1,z1,0))))
def join_CheckJoin (F:Nat) (x0:((List ((((Int×Int)×Int)×((Int×Int)×Int))×Bool))×Int×(Int×Int))) (x1:(List (Int×Bool))):Option Int :=
 (join_indexed F (x0.1,x0.2.1,(x0.2.2.1,x0.2.2.2)) x1) >>= fun x3 =>
 some x3.2.2
def join_Fits (F:Nat) (x0:((List ((((Int×Int)×Int)×((Int×Int)×Int))×Bool))×Int×(Int×Int))) (x1:(Int×Bool)) (x2:(Int×Bool)):Option (Bool×Int) :=
 (join_open F (x0.1,x0.2.1,(x0.2.2.1,x0.2.2.2)) ([(x1.1,x1.2),(x2.1,x2.2)]:List (Int×Bool))) >>= fun x4 =>
 if (!decide (x4.2=0))=true then
  some (false,x4.2)
 else
  (x4.1.v) >>= fun x5 =>
  (join_table_index F ((x5.1.1,x5.1.2.1,(x5.1.2.2.1,x5.1.2.2.2)),x5.2.1,x5.2.2.1,Opq.mk,Opq.mk) (x1.1,x1.2)) >>= fun x6 =>
  (ix x5.2.2.1.l x6) >>= fun x7 =>
  (join_table_index F ((x5.1.1,x5.1.2.1,(x5.1.2.2.1,x5.1.2.2.2)),x5.2.1,x5.2.2.1,Opq.mk,Opq.mk) (x2.1,x2.2)) >>= fun x8 =>
  (ix x7.l x8) >>= fun x9 =>
  some (decide (x9=1),0)
end Go.Proofs.YtfmelbioccbdoaaGreat
end
section
namespace Go.Proofs.YtfmelbioccbdoaaGreat
open Go Go.Md Go.RowKit
attribute [local irreducible] Go.wpList Go.Code.wp Go.Calls Go.Md.Rnd Go.Md.Mt Go.Md.MtM Go.Md.RndM Go.Code.wpIn
theorem c299 {w0:World} {v0:Value} {x0:(List (Int×Bool))} (r0:RV w0 v0 x0) {v1:Value} {x1:(Int×Bool)→Option Bool} (h1:FnB Tryz.prog (Int×Bool) w0 v1 x1) {F:Nat} {r:Int} (hF:slices_IndexFunc_api_JoinStep F x0 x1=some r) :
  Calls Tryz.prog 299 [v0,v1].toArray w0 (Ret fun v w'=>v=.int .i64 r∧Ext w0 w'):=by
 unfold slices_IndexFunc_api_JoinStep at hF
 have hz:=r0.sl; obtain ⟨a1,cq1,rfl,-,-,-⟩:=hz
 refine entr (n:=19) Tryz.func299 rfl rfl rfl<|Zr<|Za<|nl<|wp_seq<|Zr<|Zm<|Zv (xlen rfl Tryz.underlying51)<|Zm<|nl<|?_
 have hz:=bs hF; obtain ⟨o1,hB1,hF⟩:=hz
 refine ct (fun L w=>o1=.inr ()∧Ext w0 w) ?_ ?_
 ·
  refine wp_block<|lp (I:=fun m L w=>∃ y1:Int,slices_IndexFunc_api_JoinStep_l1 F x0 x1 m y1 =some o1∧L 8=.int .i64 y1∧L 0=.slice a1 x0.length cq1∧L 1=v1∧L 7=.int .i64 (x0.length:Int)∧Ext w0 w) F ⟨_,hB1,rfl,rfl,rfl,rfl,(Ext.refl _)⟩ ?_
  rintro m L w1 ⟨y1,hB1,l8_i1,l0_i1,l1_i1,l7_i1,K0_i1⟩
  rcases m with _ | m
  ·rw [slices_IndexFunc_api_JoinStep_l1] at hB1; cases hB1
  rw [slices_IndexFunc_api_JoinStep_l1] at hB1
  have h3:=h1.ext K0_i1
  refine Zr<|Zv (xlss l8_i1 l7_i1)<|nl<|wp_seq<|cnd rfl (fun h4=>?_) (fun h4=>?_)
  ·
   have hB1:=ifp hB1 h4
   refine wp_skip<|wp_seq<|wp_block<|Zr<|Zm<|Za<|nl<|Zr<|Zm<|Zm<|Zm<|?_
   have hz:=bs hB1; obtain ⟨x3,Ex3,hB1⟩:=hz
   have hz:=(RV.els r0).ix Ex3; obtain ⟨b3,f1,cs3,e1,i2,i3,q3,hc1⟩:=hz
   cases e1
   obtain ⟨_,_,rfl,rfl,rfl⟩:=q3
   have hc2:=hc1.ext K0_i1
   refine Zv (xixs l0_i1 l8_i1 Tryz.underlying51 ti56 i2 i3)<|Zv (xlda rfl ti56 rfl hc2)<|?_
   have hz:=bs hB1; obtain ⟨x4,Ex4,hB1⟩:=hz
   have hz:=id h3; obtain ⟨g1,fs1,cs4,e2,hg1,hu1⟩:=hz
   refine Zc (xcv (l1_i1.trans e2) hg1 (mc rfl mn) rfl) (hu1 _ _ _ _ (Ext.refl _) (show RV (α:=(Int×Bool)) _ (.agg [.int .i64 x3.1,.bool x3.2].toArray) (x3.1,x3.2) from ⟨_,rfl,⟨[.int .i64 x3.1],[.bool x3.2],rfl,rfl,rfl⟩⟩) Ex4) ?_
   rintro _ w2 ⟨rfl,hx1⟩
   have k1:=K0_i1.tr hx1
   refine nl<|cnd rfl (fun h6=>?_) (fun h6=>?_)
   ·
    have hB1:=ifp hB1 h6
    refine Zr<|Zm<|Za<|nl<|?_
    cases hB1
    have hF:=(show some _=some _ from hF); cases hF
    exact wp_ret<|rt rfl (.tmp l8_i1 rfl .nil) ⟨rfl,k1⟩
   ·
    have hB1:=ifn hB1 h6
    refine wp_skip<|rg<|Zv (xadd l8_i1 rfl)<|Zm<|nl<|?_
    refine lq m (Nat.lt_succ_self _)<|?_
    exact ⟨_,hB1,rfl,l0_i1,l1_i1,l7_i1,k1⟩
  ·
   have hB1:=ifn hB1 h4
   refine wp_exit<|?_
   cases hB1
   refine lf<|?_
   exact ⟨rfl,K0_i1⟩
 rintro L w3 ⟨rfl,K0_j1⟩
 refine Zr<|Za<|nl<|?_
 cases hF
 exact wp_ret<|rt rfl (.tmp rfl rfl .nil) ⟨rfl,K0_j1⟩
theorem c216 {w0:World} {v0:Value} {x0:(List (Int×Bool))} (r0:RV w0 v0 x0) {v1:Value} {x1:(Int×Bool)→Option Bool} (h1:FnB Tryz.prog (Int×Bool) w0 v1 x1) {F:Nat} {r:Bool} (hF:slices_ContainsFunc_api_JoinStep F x0 x1=some r) :
  Calls Tryz.prog 216 [v0,v1].toArray w0 (Ret fun v w'=>v=.bool r∧Ext w0 w'):=by
 unfold slices_ContainsFunc_api_JoinStep at hF
 have hz:=r0.sl; obtain ⟨a1,cq1,rfl,-,-,-⟩:=hz
 refine entr (n:=9) Tryz.func216 rfl rfl rfl<|Zr<|Za<|nl<|Zr<|Zm<|Zm<|?_
 have hz:=bs hF; obtain ⟨x3,Ex3,hF⟩:=hz
 refine Zc (xc cb299 (mc rfl (mc rfl mn))) (c299 r0 h1 Ex3) ?_
 rintro _ w1 ⟨rfl,hx1⟩
 refine Zv (xgeq rfl rfl)<|Za<|nl<|?_
 cases hF
 exact wp_ret<|rt rfl (.tmp rfl rfl .nil) ⟨rfl,hx1⟩
theorem c250 {w0:World} {v0:Value} {x0:(List Int)} (r0:RV w0 v0 x0) {x1:Int} {F:Nat} {r:Int} (hF:slices_Index_int F x0 x1=some r) :
  Calls Tryz.prog 250 [v0,.int .i64 x1].toArray w0 (Ret fun v w'=>v=.int .i64 r∧Ext w0 w'):=by
 unfold slices_Index_int at hF
 have hz:=r0.sl; obtain ⟨a1,cq1,rfl,-,-,-⟩:=hz
 refine entr (n:=19) Tryz.func250 rfl rfl rfl<|Zr<|Za<|nl<|wp_seq<|Zr<|Zm<|Zv (xlen rfl Tryz.underlying41)<|Zm<|nl<|?_
 have hz:=bs hF; obtain ⟨o1,hB1,hF⟩:=hz
 refine ct (fun L w=>o1=.inr ()∧Ext w0 w) ?_ ?_
 ·
  refine wp_block<|lp (I:=fun m L w=>∃ y1:Int,slices_Index_int_l1 F x0 x1 m y1 =some o1∧L 8=.int .i64 y1∧L 0=.slice a1 x0.length cq1∧L 1=.int .i64 x1∧L 7=.int .i64 (x0.length:Int)∧Ext w0 w) F ⟨_,hB1,rfl,rfl,rfl,rfl,(Ext.refl _)⟩ ?_
  rintro m L w1 ⟨y1,hB1,l8_i1,l0_i1,l1_i1,l7_i1,K0_i1⟩
  rcases m with _ | m
  ·rw [slices_Index_int_l1] at hB1; cases hB1
  rw [slices_Index_int_l1] at hB1
  refine Zr<|Zv (xlss l8_i1 l7_i1)<|nl<|wp_seq<|cnd rfl (fun h3=>?_) (fun h3=>?_)
  ·
   have hB1:=ifp hB1 h3
   refine wp_skip<|wp_seq<|wp_block<|Zr<|Zm<|Za<|nl<|Zr<|Zm<|Zm<|Zm<|?_
   have hz:=bs hB1; obtain ⟨x3,Ex3,hB1⟩:=hz
   have hz:=(RV.els r0).ix Ex3; obtain ⟨b3,f1,cs3,e1,i2,i3,q3,hc1⟩:=hz
   cases e1
   obtain rfl:=q3
   have hc2:=hc1.ext K0_i1
   refine Zv (xixs l0_i1 l8_i1 Tryz.underlying41 ti3 i2 i3)<|Zv (xld rfl ti3 (hc2.at 0 rfl))<|Zv (xeql l1_i1 rfl)<|nl<|cnd rfl (fun h4=>?_) (fun h4=>?_)
   ·
    have hB1:=ifp hB1 h4
    refine Zr<|Zm<|Za<|nl<|?_
    cases hB1
    have hF:=(show some _=some _ from hF); cases hF
    exact wp_ret<|rt rfl (.tmp l8_i1 rfl .nil) ⟨rfl,K0_i1⟩
   ·
    have hB1:=ifn hB1 h4
    refine wp_skip<|rg<|Zv (xadd l8_i1 rfl)<|Zm<|nl<|?_
    refine lq m (Nat.lt_succ_self _)<|?_
    exact ⟨_,hB1,rfl,l0_i1,l1_i1,l7_i1,K0_i1⟩
  ·
   have hB1:=ifn hB1 h3
   refine wp_exit<|?_
   cases hB1
   refine lf<|?_
   exact ⟨rfl,K0_i1⟩
 rintro L w2 ⟨rfl,K0_j1⟩
 refine Zr<|Za<|nl<|?_
 cases hF
 exact wp_ret<|rt rfl (.tmp rfl rfl .nil) ⟨rfl,K0_j1⟩
theorem c144 {w0:World} {v0:Value} {x0:(List Int)} (r0:RV w0 v0 x0) {x1:Int} {F:Nat} {r:Bool} (hF:slices_Contains_int F x0 x1=some r) :
  Calls Tryz.prog 144 [v0,.int .i64 x1].toArray w0 (Ret fun v w'=>v=.bool r∧Ext w0 w'):=by
 unfold slices_Contains_int at hF
 have hz:=r0.sl; obtain ⟨a1,cq1,rfl,-,-,-⟩:=hz
 refine entr (n:=9) Tryz.func144 rfl rfl rfl<|Zr<|Za<|nl<|Zr<|Zm<|Zm<|?_
 have hz:=bs hF; obtain ⟨x3,Ex3,hF⟩:=hz
 refine Zc (xc cb250 (mc rfl (mc rfl mn))) (c250 r0 Ex3) ?_
 rintro _ w1 ⟨rfl,hx1⟩
 refine Zv (xgeq rfl rfl)<|Za<|nl<|?_
 cases hF
 exact wp_ret<|rt rfl (.tmp rfl rfl .nil) ⟨rfl,hx1⟩
theorem c217 {w0:World} {v0:Value} {x0:(Int×Bool)} (r0:RV w0 v0 x0) {b1:Nat} {cs1:List Value} {x1:(Ob (((List ((((Int×Int)×Int)×((Int×Int)×Int))×Bool))×Int×(Int×Int))×(List (Int×Bool))×(Ar 16 (Ar 16 Int))×Opq×Opq))} (h1:Cs w0 b1 0 cs1) (q1:Enc.rep (fun _=>True) w0 cs1 x1) {F:Nat} {r:Bool} (hF:join_open_1 F x0 x1=some r) :
  Calls Tryz.prog 217 [v0,.pointer (some ⟨b1,0,none⟩)].toArray w0 (Ret fun v w'=>v=.bool r∧Ext w0 w'):=by
 unfold join_open_1 at hF
 have hz:=id r0; obtain ⟨_,rfl,⟨_,_,rfl,rfl,rfl⟩⟩:=hz
 have q3:=q1
 have hz:=obRep q3; obtain ⟨a1,rfl,r3⟩:=hz
 refine entr (n:=8) Tryz.func217 rfl rfl rfl<|Zr<|sbx rfl rfl fun b3 w1 hx1 hg1 hb1=>?_
 have h3:=h1.ext hx1
 refine Za<|nl<|Zr<|Zv (xld rfl ti177 (h3.at 0 rfl))<|Zv (xlda rfl ti56 rfl (Bx.cs hb1))<|?_
 have hz:=bs hF; obtain ⟨x3,Ex3,hF⟩:=hz
 have hz:=obGet r3 Ex3; obtain ⟨b4,cs3,e1,q4,hc1⟩:=hz
 cases e1
 obtain ⟨_,_,rfl,⟨_,_,rfl,⟨a2,cq1,rfl,p1,q5,e2⟩,⟨_,_,rfl,rfl,⟨_,_,rfl,rfl,rfl⟩⟩⟩,⟨_,_,rfl,⟨a3,cq2,rfl,p2,q6,e3⟩,⟨_,_,rfl,rfl,⟨_,_,rfl,⟨a4,rfl,q7⟩,⟨a5,rfl,q8⟩⟩⟩⟩⟩:=q4
 have r6:=RV.of1 p1 q5 e2
 have r7:=RV.of1 p2 q6 e3
 have hc2:=hc1.ext hx1
 have r8:=r6.ext hx1
 have r9:=r7.ext hx1
 have hz:=bs hF; obtain ⟨x4,Ex4,hF⟩:=hz
 refine Zc (xc cb114 (mc rfl (mc rfl mn))) (c114 (x0:=((x3.1.1,x3.1.2.1,(x3.1.2.2.1,x3.1.2.2.2)),x3.2.1,x3.2.2.1,Opq.mk,Opq.mk)) hc2 ⟨[.slice a2 x3.1.1.length cq1]++([.int .i64 x3.1.2.1]++([.int .i64 x3.1.2.2.1]++[.int .i64 x3.1.2.2.2])),[.slice a3 x3.2.1.length cq2]++(((List.flatMap Flat.enc x3.2.2.1.l))++([a4]++[a5])),rfl,⟨[.slice a2 x3.1.1.length cq1],[.int .i64 x3.1.2.1]++([.int .i64 x3.1.2.2.1]++[.int .i64 x3.1.2.2.2]),rfl,r8.rep1,⟨[.int .i64 x3.1.2.1],[.int .i64 x3.1.2.2.1]++[.int .i64 x3.1.2.2.2],rfl,rfl,⟨[.int .i64 x3.1.2.2.1],[.int .i64 x3.1.2.2.2],rfl,rfl,rfl⟩⟩⟩,⟨[.slice a3 x3.2.1.length cq2],((List.flatMap Flat.enc x3.2.2.1.l))++([a4]++[a5]),rfl,r9.rep1,⟨(List.flatMap Flat.enc x3.2.2.1.l),[a4]++[a5],rfl,rfl,⟨[a4],[a5],rfl,⟨_,rfl,q7⟩,⟨_,rfl,q8⟩⟩⟩⟩⟩ (show RV (α:=(Int×Bool)) _ (.agg [.int .i64 x0.1,.bool x0.2].toArray) (x0.1,x0.2) from ⟨_,rfl,⟨[.int .i64 x0.1],[.bool x0.2],rfl,rfl,rfl⟩⟩) Ex4) ?_
 rintro _ w2 ⟨rfl,hx2⟩
 have k1:=hx1.tr hx2
 refine Zv (xlss rfl rfl)<|Za<|nl<|?_
 cases hF
 exact wp_ret<|rt rfl (.tmp rfl rfl .nil) ⟨rfl,k1⟩
theorem c113 {w0:World} {v0:Value} {x0:((List ((((Int×Int)×Int)×((Int×Int)×Int))×Bool))×Int×(Int×Int))} (r0:RV w0 v0 x0) {v1:Value} {x1:(List (Int×Bool))} (r1:RV w0 v1 x1) {F:Nat} {r:((Ob (((List ((((Int×Int)×Int)×((Int×Int)×Int))×Bool))×Int×(Int×Int))×(List (Int×Bool))×(Ar 16 (Ar 16 Int))×Opq×Opq))×Int)} (hF:join_open F x0 x1=some r) :
  Calls Tryz.prog 113 [v0,v1].toArray w0 (Ret fun v w'=>∃ u0:Value,v=.tuple #[u0,.int .i64 r.2]∧RV w' u0 r.1∧Ext w0 w'):=by
 unfold join_open at hF
 have hz:=id r0; obtain ⟨_,rfl,⟨_,_,rfl,⟨a1,cq1,rfl,p1,q3,e1⟩,⟨_,_,rfl,rfl,⟨_,_,rfl,rfl,rfl⟩⟩⟩⟩:=hz
 have r3:=RV.of1 p1 q3 e1
 have hz:=r1.sl; obtain ⟨a2,cq2,rfl,-,-,-⟩:=hz
 refine entr (n:=19) Tryz.func113 rfl rfl rfl<|Zr<|sbx rfl rfl fun b3 w1 hx1 hg1 hb1=>?_
 have r4:=r1.ext hx1
 have r5:=r3.ext hx1
 refine Za<|Za<|nl<|wp_seq<|Zr<|Zv (xlda rfl ti48 rfl (Bx.cs hb1))<|?_
 have hz:=bs hF; obtain ⟨x3,Ex3,hF⟩:=hz
 refine Zc (xc cb214 (mc rfl mn)) (c214 (show RV (α:=((List ((((Int×Int)×Int)×((Int×Int)×Int))×Bool))×Int×(Int×Int))) _ (.agg [.slice a1 x0.1.length cq1,.int .i64 x0.2.1,.int .i64 x0.2.2.1,.int .i64 x0.2.2.2].toArray) (x0.1,x0.2.1,(x0.2.2.1,x0.2.2.2)) from ⟨_,rfl,⟨[.slice a1 x0.1.length cq1],[.int .i64 x0.2.1]++([.int .i64 x0.2.2.1]++[.int .i64 x0.2.2.2]),rfl,r5.rep1,⟨[.int .i64 x0.2.1],[.int .i64 x0.2.2.1]++[.int .i64 x0.2.2.2],rfl,rfl,⟨[.int .i64 x0.2.2.1],[.int .i64 x0.2.2.2],rfl,rfl,rfl⟩⟩⟩⟩) Ex3) ?_
 rintro _ w2 ⟨rfl,hx2⟩
 have k1:=hx1.tr hx2
 have hb2:=hb1.ext hx2
 have r7:=r5.ext hx2
 have r8:=r4.ext hx2
 refine Za<|nl<|Zr<|Zm<|Zv (xneq rfl rfl)<|nl<|cnd rfl (fun h3=>?_) (fun h3=>?_)
 ·
  have hF:=ifp hF h3
  refine Zr<|Zm<|Za<|Za<|nl<|?_
  cases hF
  exact wp_ret<|rt rfl (.tmp rfl rfl (.tmp rfl rfl .nil)) ⟨_,rfl,obNil,k1⟩
 ·
  have hF:=ifn hF h3
  refine wp_skip<|Zr<|Zv (xlda rfl ti48 rfl (Bx.cs hb2))<|?_
  have hz:=bs hF; obtain ⟨x4,Ex4,hF⟩:=hz
  refine Zc (xc cb215 (mc rfl mn)) (c215 (show RV (α:=((List ((((Int×Int)×Int)×((Int×Int)×Int))×Bool))×Int×(Int×Int))) _ (.agg [.slice a1 x0.1.length cq1,.int .i64 x0.2.1,.int .i64 x0.2.2.1,.int .i64 x0.2.2.2].toArray) (x0.1,x0.2.1,(x0.2.2.1,x0.2.2.2)) from ⟨_,rfl,⟨[.slice a1 x0.1.length cq1],[.int .i64 x0.2.1]++([.int .i64 x0.2.2.1]++[.int .i64 x0.2.2.2]),rfl,r7.rep1,⟨[.int .i64 x0.2.1],[.int .i64 x0.2.2.1]++[.int .i64 x0.2.2.2],rfl,rfl,⟨[.int .i64 x0.2.2.1],[.int .i64 x0.2.2.2],rfl,rfl,rfl⟩⟩⟩⟩) Ex4) ?_
  rintro _ w3 ⟨u1,rfl,r9,hx3⟩
  have k2:=k1.tr hx3
  have r10:=r8.ext hx3
  have hz:=obPtr r9; obtain ⟨a3,rfl⟩:=hz
  refine sal ti177 fun b4 w4 hx4 hg2 hb3=>?_
  have k3:=k2.tr hx4
  refine sst rfl rfl rfl ti177 hb3 rfl rfl (ble rfl) fun w5 hch1 hb4=>?_
  have k4:=Ext.chg k3 hch1 (Nat.le_trans k2.size hg2)
  have k5:=Ext.chg hx4 hch1 (Nat.le_trans (Nat.le_refl _) hg2)
  have r13:=r10.ext k5
  have r14:=r9.ext k5
  have hb5:Bx w5 b4 177 [.pointer a3]:=hb4
  refine nl<|wp_seq<|Zr<|Zm<|Zv (xmf mn (mc rfl mn))<|?_
  have hz:=bs hF; obtain ⟨x5,Ex5,hF⟩:=hz
  refine Zc (xc cb216 (mc rfl (mc rfl mn))) (c216 r13 ⟨217,[],[.pointer (some ⟨b4,0,none⟩)],rfl,cb217,fun w' u x b hk hu hp=>c217 hu (Bx.cs (hb5.ext hk)) (obRep1 (r14.ext hk)) hp⟩ Ex5) ?_
  rintro _ w6 ⟨rfl,hx5⟩
  have k6:=k4.tr hx5
  have hb6:=hb5.ext hx5
  have r15:=r14.ext hx5
  refine nl<|cnd rfl (fun h4=>?_) (fun h4=>?_)
  ·
   have hF:=ifp hF h4
   refine Zr<|Za<|Za<|nl<|?_
   cases hF
   exact wp_ret<|rt rfl (.tmp rfl rfl (.tmp rfl rfl .nil)) ⟨_,rfl,obNil,k6⟩
  ·
   have hF:=ifn hF h4
   refine wp_skip<|Zr<|Zv (xld rfl ti177 ((Bx.cs hb6).at 0 rfl))<|Za<|Za<|nl<|?_
   cases hF
   exact wp_ret<|rt rfl (.tmp rfl rfl (.tmp rfl rfl .nil)) ⟨_,rfl,r15,k6⟩
theorem c103 {w0:World} {v0:Value} {x0:((List ((((Int×Int)×Int)×((Int×Int)×Int))×Bool))×Int×(Int×Int))} (r0:RV w0 v0 x0) {v1:Value} {x1:(List (Int×Bool))} (r1:RV w0 v1 x1) {F:Nat} {r:((Ob (((List ((((Int×Int)×Int)×((Int×Int)×Int))×Bool))×Int×(Int×Int))×(List (Int×Bool))×(Ar 16 (Ar 16 Int))×Opq×Opq))×(List Int)×Int)} (hF:join_indexed F x0 x1=some r) :
  Calls Tryz.prog 103 [v0,v1].toArray w0 (Ret fun v w'=>∃ u0 u1:Value,v=.tuple #[u0,u1,.int .i64 r.2.2]∧RV w' u0 r.1∧RV w' u1 r.2.1∧Ext w0 w'):=by
 unfold join_indexed at hF
 have hz:=id r0; obtain ⟨_,rfl,⟨_,_,rfl,⟨a1,cq1,rfl,p1,q3,e1⟩,⟨_,_,rfl,rfl,⟨_,_,rfl,rfl,rfl⟩⟩⟩⟩:=hz
 have r3:=RV.of1 p1 q3 e1
 have hz:=r1.sl; obtain ⟨a2,cq2,rfl,-,-,-⟩:=hz
 refine entr (n:=92) Tryz.func103 rfl rfl rfl<|Zr<|sbx rfl rfl fun b3 w1 hx1 hg1 hb1=>?_
 have r5:=r3.ext hx1
 refine Za<|Za<|Za<|nl<|Zr<|Zv (xlda rfl ti48 rfl (Bx.cs hb1))<|?_
 have hz:=bs hF; obtain ⟨x3,Ex3,hF⟩:=hz
 refine Zc (xc cb113 (mc rfl (mc rfl mn))) (c113 (show RV (α:=((List ((((Int×Int)×Int)×((Int×Int)×Int))×Bool))×Int×(Int×Int))) _ (.agg [.slice a1 x0.1.length cq1,.int .i64 x0.2.1,.int .i64 x0.2.2.1,.int .i64 x0.2.2.2].toArray) (x0.1,x0.2.1,(x0.2.2.1,x0.2.2.2)) from ⟨_,rfl,⟨[.slice a1 x0.1.length cq1],[.int .i64 x0.2.1]++([.int .i64 x0.2.2.1]++[.int .i64 x0.2.2.2]),rfl,r5.rep1,⟨[.int .i64 x0.2.1],[.int .i64 x0.2.2.1]++[.int .i64 x0.2.2.2],rfl,rfl,⟨[.int .i64 x0.2.2.1],[.int .i64 x0.2.2.2],rfl,rfl,rfl⟩⟩⟩⟩) (RVo.nil (Nat.zero_le _)) Ex3) ?_
 rintro _ w2 ⟨u1,rfl,r7,hx2⟩
 have k1:=hx1.tr hx2
 have hb2:=hb1.ext hx2
 have hz:=obPtr r7; obtain ⟨a3,rfl⟩:=hz
 refine Zm<|Zv (xext rfl rfl)<|Zv (xext rfl rfl)<|Za<|Za<|nl<|wp_seq<|Zr<|Zm<|Zv (xneq rfl rfl)<|nl<|cnd rfl (fun h3=>?_) (fun h3=>?_)
 ·
  have hF:=ifp hF h3
  refine Zr<|Zm<|Za<|Za<|Za<|nl<|?_
  cases hF
  exact wp_ret<|rt rfl (.tmp rfl rfl (.tmp rfl rfl (.tmp rfl rfl .nil))) ⟨_,_,rfl,obNil,(RVo.nil (Nat.zero_le _)),k1⟩
 ·
  have hF:=ifn hF h3
  refine wp_skip<|wp_seq<|Zr<|Zm<|Zv (xlen rfl Tryz.underlying51)<|Zv (xfa rfl fa48_0)<|Zv (xld rfl ti46 ((Bx.cs hb2).at 0 rfl))<|Zv (xlen rfl Tryz.underlying46)<|Zv (xneq rfl rfl)<|nl<|cnd rfl (fun h4=>?_) (fun h4=>?_)
  ·
   have hF:=ifp hF h4
   refine Zr<|Za<|Za<|Za<|nl<|?_
   cases hF
   exact wp_ret<|rt rfl (.tmp rfl rfl (.tmp rfl rfl (.tmp rfl rfl .nil))) ⟨_,_,rfl,obNil,(RVo.nil (Nat.zero_le _)),k1⟩
  ·
   have hF:=ifn hF h4
   refine wp_skip<|Zr<|Za<|nl<|wp_seq<|Zr<|Zm<|Zv (xlen rfl Tryz.underlying51)<|Zm<|nl<|?_
   have o1:Row (α:=Int) 3 w2.heap.size w2 (.slice none 0 0) []:=Row.nil
   have hz:=bs hF; obtain ⟨z1,hB1,hF⟩:=hz
   refine ct (fun L w=>∃ v4:Value,L 9=v4∧Row 3 w2.heap.size w v4 z1∧L 1=.slice a2 x1.length cq2∧L 7=.pointer a3∧Ext w2 w) ?_ ?_
   ·
    refine wp_block<|lp (I:=fun m L w=>∃ y1:(List Int),∃ y2:Int,∃ v3:Value,join_indexed_l1 F x1 x3 m y1 y2 =some z1∧L 9=v3∧Row 3 w2.heap.size w v3 y1∧L 32=.int .i64 y2∧L 1=.slice a2 x1.length cq2∧L 7=.pointer a3∧L 30=.slice a2 x1.length cq2∧L 31=.int .i64 (x1.length:Int)∧Ext w2 w) F ⟨_,_,_,hB1,rfl,o1,rfl,rfl,rfl,rfl,rfl,(Ext.refl _)⟩ ?_
    rintro m L w3 ⟨y1,y2,v3,hB1,l9_i1,O9_i1,l32_i1,l1_i1,l7_i1,l30_i1,l31_i1,K0_i1⟩
    rcases m with _ | m
    ·rw [join_indexed_l1] at hB1; cases hB1
    rw [join_indexed_l1] at hB1
    have k2:=k1.tr K0_i1
    have hz:=RV.sl O9_i1.rv; obtain ⟨a4,cq3,rfl,-,-,-⟩:=hz
    refine Zr<|Zv (xlss l32_i1 l31_i1)<|nl<|wp_seq<|cnd rfl (fun h5=>?_) (fun h5=>?_)
    ·
     have hB1:=ifp hB1 h5
     refine wp_skip<|wp_seq<|wp_block<|Zr<|?_
     have hz:=bs hB1; obtain ⟨x4,Ex4,hB1⟩:=hz
     have hz:=(RV.els r1).ix Ex4; obtain ⟨b4,f1,cs3,e2,i2,i3,q4,hc1⟩:=hz
     cases e2
     obtain ⟨_,_,rfl,rfl,rfl⟩:=q4
     have hc2:=hc1.ext k2
     refine Zv (xixs l30_i1 l32_i1 Tryz.underlying51 ti56 i2 i3)<|Zv (xlda rfl ti56 rfl hc2)<|sal ti56 fun b5 w4 hx3 hg2 hb3=>?_
     have k4:=K0_i1.tr hx3
     refine sst rfl rfl rfl ti56 hb3 rfl rfl (ble rfl) fun w5 hch1 hb4=>?_
     have k6:=Ext.chg k4 hch1 (Nat.le_trans K0_i1.size hg2)
     have k7:=Ext.chg hx3 hch1 (Nat.le_trans (Nat.le_refl _) hg2)
     have O2:=O9_i1.ext k7
     have hb5:Bx w5 b5 56 [.int .i64 x4.1,.bool x4.2]:=hb4
     refine nl<|wpl [] (.pure true 0 (.pure true 1 (.pure false 2 (.pure true 3 (.pure false 4 (.pure true 5 (.pure true 6 (.pure false 7 (.eff 8 (.eff 9 (.eff 10 (.pure true 11 .fin) .stop) .stop) .stop))))))))) mixed (by kernel_rfl) (fun w6 hx4=>?_)
     have k9:=k6.tr hx4
     have hb6:=hb5.ext hx4
     have O3:=O2.ext hx4
     refine Zn rfl<|Zn rfl<|Zq rfl (fun _ hS=>xlen l9_i1 Tryz.underlying41) (Ext.refl _)<|Zn rfl<|Zq rfl (fun _ hS=>xlen l9_i1 Tryz.underlying41) (Ext.refl _)<|?_
     have r18:=RV.full O3.rv
     refine Zp rfl (fun _=>xslf l9_i1 (RV.cap O3.rv).2.1 Tryz.underlying41 ti3 rfl rfl)<|Zn rfl<|Zq rfl (fun _ hS=>xlda rfl ti56 rfl (Bx.cs (hb6.ext (hS.resolve_left nofun)))) (Ext.refl _)<|?_
     have hz:=bs hB1; obtain ⟨x5,Ex5,hB1⟩:=hz
     have hz:=obGet r7 Ex5; obtain ⟨b6,cs4,e3,q5,hc3⟩:=hz
     cases e3
     obtain ⟨_,_,rfl,⟨_,_,rfl,⟨a5,cq4,rfl,p2,q6,e4⟩,⟨_,_,rfl,rfl,⟨_,_,rfl,rfl,rfl⟩⟩⟩,⟨_,_,rfl,⟨a6,cq5,rfl,p3,q7,e5⟩,⟨_,_,rfl,rfl,⟨_,_,rfl,⟨a7,rfl,q8⟩,⟨a8,rfl,q9⟩⟩⟩⟩⟩:=q5
     have r19:=RV.of1 p2 q6 e4
     have r20:=RV.of1 p3 q7 e5
     have hc4:=hc3.ext k9
     have r21:=r19.ext k9
     have r22:=r20.ext k9
     have hz:=bs hB1; obtain ⟨x6,Ex6,hB1⟩:=hz
     refine pe1 rfl<|Zc (xc cb114 (mc l7_i1 (mc rfl mn))) (c114 (x0:=((x5.1.1,x5.1.2.1,(x5.1.2.2.1,x5.1.2.2.2)),x5.2.1,x5.2.2.1,Opq.mk,Opq.mk)) hc4 ⟨[.slice a5 x5.1.1.length cq4]++([.int .i64 x5.1.2.1]++([.int .i64 x5.1.2.2.1]++[.int .i64 x5.1.2.2.2])),[.slice a6 x5.2.1.length cq5]++(((List.flatMap Flat.enc x5.2.2.1.l))++([a7]++[a8])),rfl,⟨[.slice a5 x5.1.1.length cq4],[.int .i64 x5.1.2.1]++([.int .i64 x5.1.2.2.1]++[.int .i64 x5.1.2.2.2]),rfl,r21.rep1,⟨[.int .i64 x5.1.2.1],[.int .i64 x5.1.2.2.1]++[.int .i64 x5.1.2.2.2],rfl,rfl,⟨[.int .i64 x5.1.2.2.1],[.int .i64 x5.1.2.2.2],rfl,rfl,rfl⟩⟩⟩,⟨[.slice a6 x5.2.1.length cq5],((List.flatMap Flat.enc x5.2.2.1.l))++([a7]++[a8]),rfl,r22.rep1,⟨(List.flatMap Flat.enc x5.2.2.1.l),[a7]++[a8],rfl,rfl,⟨[a7],[a8],rfl,⟨_,rfl,q8⟩,⟨_,rfl,q9⟩⟩⟩⟩⟩ (show RV (α:=(Int×Bool)) _ (.agg [.int .i64 x4.1,.bool x4.2].toArray) (x4.1,x4.2) from ⟨_,rfl,⟨[.int .i64 x4.1],[.bool x4.2],rfl,rfl,rfl⟩⟩) Ex6) ?_
     rintro _ w7 ⟨rfl,hx5⟩
     have k12:=k9.tr hx5
     have r26:=r18.ext hx5
     refine nl ⟨fun _ _=>hx5,?_⟩
     refine pe1 rfl<|sbsv (cs:=[.int .i64 x6]) Tryz.underlying41 ti3 rfl (pc rfl pn) rfl rfl rfl rfl rfl fun b7 w8 hx6 hg3 hb7=>?_
     have k15:=k12.tr hx6
     have k17:=hx5.tr hx6
     have r30:=r26.ext hx6
     have o3:Row (α:=Int) 3 w7.heap.size w8 (.slice (some ⟨b7,0,none⟩) 1 1) [x6]:=Row.lit hg3 hb7 rfl (ble rfl)
     refine nl ⟨fun _ _=>k17,?_⟩
     have hz:=bs hB1; obtain ⟨x7,Ex7,hB1⟩:=hz
     refine pe1 rfl<|sapf (l:=y1) (k:=([x6]:List Int)) rfl rfl Tryz.underlying41 ti3 rfl rfl r30 o3.rv rfl Ex7 fun v5 w9 o4 hx7=>?_
     have k19:=k15.tr hx7
     have k21:=k17.tr hx7
     have hz:=RV.sl o4.rv; obtain ⟨a9,cq6,rfl,-,-,-⟩:=hz
     refine nl ⟨fun _ _=>k21,?_⟩
     refine Zp rfl (fun _=>xas)<|rg<|Zv (xadd l32_i1 rfl)<|Zm<|nl<|?_
     refine lq m (Nat.lt_succ_self _)<|?_
     exact ⟨_,_,_,hB1,rfl,(o4.bnd k15.size),rfl,l1_i1,l7_i1,l30_i1,l31_i1,k19⟩
    ·
     have hB1:=ifn hB1 h5
     refine wp_exit<|?_
     cases hB1
     refine lf<|?_
     exact ⟨_,l9_i1,O9_i1,l1_i1,l7_i1,K0_i1⟩
   rintro L w10 ⟨v4,l9_j1,O9_j1,l1_j1,l7_j1,K0_j1⟩
   have k23:=k1.tr K0_j1
   have r36:=r7.ext K0_j1
   have hz:=RV.sl O9_j1.rv; obtain ⟨a10,cq7,rfl,-,-,-⟩:=hz
   refine wp_seq<|Zr<|Zm<|?_
   have hz:=bs hF; obtain ⟨x8,Ex8,hF⟩:=hz
   refine Zc (xc cb144 (mc l9_j1 (mc rfl mn))) (c144 O9_j1.rv Ex8) ?_
   rintro _ w11 ⟨rfl,hx8⟩
   have k24:=k23.tr hx8
   have k25:=K0_j1.tr hx8
   have r38:=r36.ext hx8
   have O4:=O9_j1.ext hx8
   refine nl<|cnd rfl (fun h6=>?_) (fun h6=>?_)
   ·
    have hF:=ifp hF h6
    refine Zr<|Za<|Za<|Za<|nl<|?_
    cases hF
    exact wp_ret<|rt rfl (.tmp rfl rfl (.tmp rfl rfl (.tmp rfl rfl .nil))) ⟨_,_,rfl,obNil,(RVo.nil (Nat.zero_le _)),k24⟩
   ·
    have hF:=ifn hF h6
    refine wp_skip<|Zr<|Za<|nl<|wp_seq<|Zr<|Zm<|Zv (xlen l1_j1 Tryz.underlying51)<|Zm<|nl<|?_
    have hz:=bs hF; obtain ⟨o5,hB4,hF⟩:=hz
    refine ct (fun L w=>o5=.inr ()∧L 7=.pointer a3∧L 9=.slice a10 z1.length cq7∧w2.heap.size≤w.heap.size∧Ext w11 w) ?_ ?_
    ·
     refine wp_block<|lp (I:=fun m L w=>∃ y3:Int,∃ y4:Int,join_indexed_l2 F x1 m y3 y4 =some o5∧L 12=.int .i64 y3∧L 52=.int .i64 y4∧L 7=.pointer a3∧L 9=.slice a10 z1.length cq7∧L 50=.slice a2 x1.length cq2∧L 51=.int .i64 (x1.length:Int)∧w2.heap.size≤w.heap.size∧Ext w11 w) F ⟨_,_,hB4,rfl,rfl,l7_j1,l9_j1,l1_j1,rfl,k25.size,(Ext.refl _)⟩ ?_
     rintro m L w12 ⟨y3,y4,hB4,l12_i4,l52_i4,l7_i4,l9_i4,l50_i4,l51_i4,Z0_i4,K0_i4⟩
     rcases m with _ | m
     ·rw [join_indexed_l2] at hB4; cases hB4
     rw [join_indexed_l2] at hB4
     have k26:=k24.tr K0_i4
     refine Zr<|Zv (xlss l52_i4 l51_i4)<|nl<|wp_seq<|cnd rfl (fun h7=>?_) (fun h7=>?_)
     ·
      have hB4:=ifp hB4 h7
      refine wp_skip<|wp_seq<|wp_block<|Zr<|?_
      have hz:=bs hB4; obtain ⟨x9,Ex9,hB4⟩:=hz
      have hz:=(RV.els r1).ix Ex9; obtain ⟨b8,f2,cs5,e6,i5,i6,q10,hc8⟩:=hz
      cases e6
      obtain ⟨_,_,rfl,rfl,rfl⟩:=q10
      have hc9:=hc8.ext k26
      refine Zv (xixs l50_i4 l52_i4 Tryz.underlying51 ti56 i5 i6)<|Zv (xlda rfl ti56 rfl hc9)<|sal ti56 fun b9 w13 hx9 hg4 hb8=>?_
      have k28:=k26.tr hx9
      have k30:=K0_i4.tr hx9
      have zs1:=Nat.le_trans Z0_i4 hx9.size
      refine sst rfl rfl rfl ti56 hb8 rfl rfl (ble rfl) fun w14 hch2 hb9=>?_
      have k31:=Ext.chg k28 hch2 (Nat.le_trans k26.size hg4)
      have k33:=Ext.chg k30 hch2 (Nat.le_trans K0_i4.size hg4)
      have zs2:=Nat.le_trans zs1 (Nat.le_of_eq hch2.size.symm)
      have hb10:Bx w14 b9 56 [.int .i64 x9.1,.bool x9.2]:=hb9
      refine nl<|wp_seq<|Zr<|Zm<|Zv (xfa rfl fa56_0)<|Zv (xld rfl ti3 ((Bx.cs hb10).at 0 rfl))<|?_
      have hz:=bs hB4; obtain ⟨x10,Ex10,hB4⟩:=hz
      refine Zv (xshr l12_i4 rfl Ex10)<|Zv (xand rfl rfl)<|Zv (xeql rfl rfl)<|nl<|cnd rfl (fun h8=>?_) (fun h8=>?_)
      ·
       have hB4:=ifp hB4 h8
       refine Zr<|Za<|Za<|Za<|nl<|?_
       cases hB4
       have hF:=(show some _=some _ from hF); cases hF
       exact wp_ret<|rt rfl (.tmp rfl rfl (.tmp rfl rfl (.tmp rfl rfl .nil))) ⟨_,_,rfl,obNil,(RVo.nil (Nat.zero_le _)),k31⟩
      ·
       have hB4:=ifn hB4 h8
       refine wp_skip<|rg<|Zm<|Zv (xfa rfl fa56_0)<|Zv (xld rfl ti3 ((Bx.cs hb10).at 0 rfl))<|?_
       have hz:=bs hB4; obtain ⟨x11,Ex11,hB4⟩:=hz
       refine Zv (xshl rfl rfl Ex11)<|Zv (xor_ l12_i4 rfl)<|Za<|nl<|rg<|Zv (xadd l52_i4 rfl)<|Zm<|nl<|?_
       refine lq m (Nat.lt_succ_self _)<|?_
       exact ⟨_,_,hB4,rfl,rfl,l7_i4,l9_i4,l50_i4,l51_i4,zs2,k33⟩
     ·
      have hB4:=ifn hB4 h7
      refine wp_exit<|?_
      cases hB4
      refine lf<|?_
      exact ⟨rfl,l7_i4,l9_i4,Z0_i4,K0_i4⟩
    rintro L w15 ⟨rfl,l7_j2,l9_j2,Z0_j2,K0_j2⟩
    have k35:=k24.tr K0_j2
    have k36:=k25.tr K0_j2
    have r45:=r38.ext K0_j2
    have O8:=O4.ext K0_j2
    refine wp_seq<|Zr<|Za<|nl<|?_
    have hz:=bs hF; obtain ⟨o6,hB9,hF⟩:=hz
    refine ct (fun L w=>o6=.inr ()∧L 7=.pointer a3∧L 9=.slice a10 z1.length cq7∧w2.heap.size≤w.heap.size∧Ext w15 w) ?_ ?_
    ·
     refine wp_block<|lp (I:=fun m L w=>∃ y5:Int,join_indexed_l3 F x3 z1 m y5 =some o6∧L 15=.int .i64 y5∧L 7=.pointer a3∧L 9=.slice a10 z1.length cq7∧w2.heap.size≤w.heap.size∧Ext w15 w) F ⟨_,hB9,rfl,l7_j2,l9_j2,Z0_j2,(Ext.refl _)⟩ ?_
     rintro m L w16 ⟨y5,hB9,l15_i7,l7_i7,l9_i7,Z0_i7,K0_i7⟩
     rcases m with _ | m
     ·rw [join_indexed_l3] at hB9; cases hB9
     rw [join_indexed_l3] at hB9
     have k37:=k35.tr K0_i7
     have k38:=k36.tr K0_i7
     have O9:=O8.ext K0_i7
     refine wp_seq<|Zr<|Zm<|Zm<|Zv (xlen l9_i7 Tryz.underlying41)<|Zv (xlss l15_i7 rfl)<|nl<|cnd rfl (fun h9=>?_) (fun h9=>?_)
     ·
      have hB9:=ifp hB9 h9
      refine wp_skip<|wp_seq<|wp_block<|wp_seq<|wpl [] (.pure true 0 (.pure true 1 (.pure true 2 (.pure true 3 (.pure true 4 (.pure false 5 (.pure true 6 (.pure true 7 (.pure true 8 (.pure false 9 (.pure true 10 (.pure true 11 (.pure true 12 (.pure true 13 (.pure false 14 (.pure true 15 .fin)))))))))))))))) mixed (by kernel_rfl) (fun w17 hx10=>?_)
      have k40:=k37.tr hx10
      have k41:=k38.tr hx10
      have k43:=K0_i7.tr hx10
      have zs3:=Nat.le_trans Z0_i7 hx10.size
      have O10:=O9.ext hx10
      refine Zn rfl<|Zn rfl<|Zn rfl<|Zp rfl (fun _=>xsub l15_i7 rfl)<|?_
      have hz:=bs hB9; obtain ⟨x12,Ex12,hB9⟩:=hz
      have hz:=(RV.els O10.rv).ix Ex12; obtain ⟨b10,f3,cs6,e7,i8,i9,q11,hc10⟩:=hz
      cases e7
      obtain rfl:=q11
      refine Zp rfl (fun _=>xixs l9_i7 rfl Tryz.underlying41 ti3 i8 i9)<|Zq rfl (fun _ hS=>xld rfl ti3 ((hc10.ext (hS.resolve_left nofun)).at 0 rfl)) (Ext.refl _)<|Zn rfl<|Zn rfl<|?_
      have hz:=bs hB9; obtain ⟨x13,Ex13,hB9⟩:=hz
      have hz:=ix2 O10.rv Ex13; obtain ⟨cs7,i10,i11,q12,hc11⟩:=hz
      obtain rfl:=q12
      refine Zp rfl (fun _=>xixs l9_i7 l15_i7 Tryz.underlying41 ti3 i10 i11)<|Zq rfl (fun _ hS=>xld rfl ti3 ((hc11.ext (hS.resolve_left nofun)).at 0 rfl)) (Ext.refl _)<|?_
      have hz:=bs hB9; obtain ⟨x14,Ex14,hB9⟩:=hz
      have hz:=obGet r7 Ex14; obtain ⟨b11,cs8,e8,q13,hc12⟩:=hz
      cases e8
      obtain ⟨_,_,rfl,⟨_,_,rfl,⟨a11,cq8,rfl,p4,q14,e9⟩,⟨_,_,rfl,rfl,⟨_,_,rfl,rfl,rfl⟩⟩⟩,⟨_,_,rfl,⟨a12,cq9,rfl,p5,q15,e10⟩,⟨_,_,rfl,rfl,⟨_,_,rfl,⟨a13,rfl,q16⟩,⟨a14,rfl,q17⟩⟩⟩⟩⟩:=q13
      have hc13:=hc12.ext k41
      refine Zp rfl (fun _=>xnil l7_i7)<|Zp rfl (fun _=>xfa rfl fa199_2)<|?_
      have hc14:Cs w17 b11 (0 + 5) (List.flatMap Flat.enc x14.2.2.1.l):=Cs.mid (l1:=[.slice a11 x14.1.1.length cq8,.int .i64 x14.1.2.1,.int .i64 x14.1.2.2.1,.int .i64 x14.1.2.2.2,.slice a12 x14.2.1.length cq9]) (X:=x14.2.2.1) (l2:=[a13,a14]) hc13
      have hz:=bs hB9; obtain ⟨x15,Ex15,hB9⟩:=hz
      have hz:=ixar hc14 Ex15; obtain ⟨i12,i13,hc15⟩:=hz
      refine Zp rfl (fun _=>xixa rfl rfl Tryz.underlying196 ti195 i12 i13)<|?_
      have hz:=bs hB9; obtain ⟨x16,Ex16,hB9⟩:=hz
      have hz:=ixar hc15 Ex16; obtain ⟨i14,i15,hc16⟩:=hz
      refine Zp rfl (fun _=>xixa rfl rfl Tryz.underlying195 ti3 i14 i15)<|Zq rfl (fun _ hS=>xld rfl ti3 ((hc16.ext (hS.resolve_left nofun)).at 0 rfl)) (Ext.refl _)<|Zp rfl (fun _=>xeql rfl rfl)<|cnd rfl (fun h10=>?_) (fun h10=>?_)
      ·
       have hB9:=ifp hB9 h10
       refine Zr<|Za<|Za<|Za<|nl<|?_
       cases hB9
       have hF:=(show some _=some _ from hF); cases hF
       exact wp_ret<|rt rfl (.tmp rfl rfl (.tmp rfl rfl (.tmp rfl rfl .nil))) ⟨_,_,rfl,obNil,(RVo.nil (Nat.zero_le _)),k40⟩
      ·
       have hB9:=ifn hB9 h10
       refine wp_skip<|rg<|Zm<|Zv (xadd l15_i7 rfl)<|Za<|nl<|?_
       refine lq m (Nat.lt_succ_self _)<|?_
       exact ⟨_,hB9,rfl,l7_i7,l9_i7,zs3,k43⟩
     ·
      have hB9:=ifn hB9 h9
      refine wp_exit<|?_
      cases hB9
      refine lf<|?_
      exact ⟨rfl,l7_i7,l9_i7,Z0_i7,K0_i7⟩
    rintro L w18 ⟨rfl,l7_j3,l9_j3,Z0_j3,K0_j3⟩
    have k44:=k35.tr K0_j3
    have r52:=r45.ext K0_j3
    have O11:=O8.ext K0_j3
    refine Zr<|Zm<|Zm<|Za<|Za<|Za<|nl<|?_
    cases hF
    exact wp_ret<|rt rfl (.tmp l7_j3 rfl (.tmp l9_j3 rfl (.tmp rfl rfl .nil))) ⟨_,_,rfl,r52,O11.rv,k44⟩
theorem c28 {w0:World} {v0:Value} {x0:((List ((((Int×Int)×Int)×((Int×Int)×Int))×Bool))×Int×(Int×Int))} (r0:RV w0 v0 x0) {v1:Value} {x1:(List (Int×Bool))} (r1:RV w0 v1 x1) {F:Nat} {r:Int} (hF:join_CheckJoin F x0 x1=some r) :
  Calls Tryz.prog 28 [v0,v1].toArray w0 (Ret fun v w'=>v=.int .i64 r∧Ext w0 w'):=by
 unfold join_CheckJoin at hF
 have hz:=id r0; obtain ⟨_,rfl,⟨_,_,rfl,⟨a1,cq1,rfl,p1,q3,e1⟩,⟨_,_,rfl,rfl,⟨_,_,rfl,rfl,rfl⟩⟩⟩⟩:=hz
 have r3:=RV.of1 p1 q3 e1
 have hz:=r1.sl; obtain ⟨a2,cq2,rfl,-,-,-⟩:=hz
 refine entr (n:=16) Tryz.func28 rfl rfl rfl<|Zr<|sbx rfl rfl fun b3 w1 hx1 hg1 hb1=>?_
 have r4:=r1.ext hx1
 have r5:=r3.ext hx1
 refine Za<|nl<|Zr<|Zv (xlda rfl ti48 rfl (Bx.cs hb1))<|Zm<|?_
 have hz:=bs hF; obtain ⟨x3,Ex3,hF⟩:=hz
 refine Zc (xc cb103 (mc rfl (mc rfl mn))) (c103 (show RV (α:=((List ((((Int×Int)×Int)×((Int×Int)×Int))×Bool))×Int×(Int×Int))) _ (.agg [.slice a1 x0.1.length cq1,.int .i64 x0.2.1,.int .i64 x0.2.2.1,.int .i64 x0.2.2.2].toArray) (x0.1,x0.2.1,(x0.2.2.1,x0.2.2.2)) from ⟨_,rfl,⟨[.slice a1 x0.1.length cq1],[.int .i64 x0.2.1]++([.int .i64 x0.2.2.1]++[.int .i64 x0.2.2.2]),rfl,r5.rep1,⟨[.int .i64 x0.2.1],[.int .i64 x0.2.2.1]++[.int .i64 x0.2.2.2],rfl,rfl,⟨[.int .i64 x0.2.2.1],[.int .i64 x0.2.2.2],rfl,rfl,rfl⟩⟩⟩⟩) r4 Ex3) ?_
 rintro _ w2 ⟨u1,u2,rfl,r7,r8,hx2⟩
 have k1:=hx1.tr hx2
 have hz:=obPtr r7; obtain ⟨a3,rfl⟩:=hz
 have hz:=RV.sl r8; obtain ⟨a4,cq3,rfl,-,-,-⟩:=hz
 refine Zm<|Zv (xext rfl rfl)<|Zv (xext rfl rfl)<|Zv (xext rfl rfl)<|Za<|Za<|Za<|nl<|Zr<|Zm<|Za<|nl<|?_
 cases hF
 exact wp_ret<|rt rfl (.tmp rfl rfl .nil) ⟨rfl,k1⟩
theorem c33 {w0:World} {v0:Value} {x0:((List ((((Int×Int)×Int)×((Int×Int)×Int))×Bool))×Int×(Int×Int))} (r0:RV w0 v0 x0) {v1:Value} {x1:(Int×Bool)} (r1:RV w0 v1 x1) {v2:Value} {x2:(Int×Bool)} (r2:RV w0 v2 x2) {F:Nat} {r:(Bool×Int)} (hF:join_Fits F x0 x1 x2=some r) :
  Calls Tryz.prog 33 [v0,v1,v2].toArray w0 (Ret fun v w'=>v=.tuple #[.bool r.1,.int .i64 r.2]∧Ext w0 w'):=by
 unfold join_Fits at hF
 have hz:=id r0; obtain ⟨_,rfl,⟨_,_,rfl,⟨a1,cq1,rfl,p1,q4,e1⟩,⟨_,_,rfl,rfl,⟨_,_,rfl,rfl,rfl⟩⟩⟩⟩:=hz
 have r4:=RV.of1 p1 q4 e1
 have hz:=id r1; obtain ⟨_,rfl,⟨_,_,rfl,rfl,rfl⟩⟩:=hz
 have hz:=id r2; obtain ⟨_,rfl,⟨_,_,rfl,rfl,rfl⟩⟩:=hz
 refine entr (n:=34) Tryz.func33 rfl rfl rfl<|Zr<|sbx rfl rfl fun b4 w1 hx1 hg1 hb1=>?_
 have r7:=r4.ext hx1
 refine sbx rfl rfl fun b5 w2 hx2 hg2 hb2=>?_
 have k1:=hx1.tr hx2
 have hb3:=hb1.ext hx2
 have r9:=r7.ext hx2
 refine sbx rfl rfl fun b6 w3 hx3 hg3 hb4=>?_
 have k2:=k1.tr hx3
 have hb5:=hb3.ext hx3
 have r12:=r9.ext hx3
 have hb6:=hb2.ext hx3
 refine Za<|Za<|nl<|Zr<|Zv (xlda rfl ti48 rfl (Bx.cs hb5))<|Zv (xlda rfl ti56 rfl (Bx.cs hb6))<|Zv (xlda rfl ti56 rfl (Bx.cs hb4))<|sbsv (cs:=[.int .i64 x1.1,.bool x1.2,.int .i64 x2.1,.bool x2.2]) Tryz.underlying51 ti56 rfl (pc rfl (pc rfl pn)) rfl rfl rfl rfl rfl fun b7 w4 hx4 hg4 hb7=>?_
 have k4:=k2.tr hx4
 have hb8:=hb6.ext hx4
 have hb9:=hb4.ext hx4
 have r14:=r12.ext hx4
 have o1:Row (α:=(Int×Bool)) 56 w3.heap.size w4 (.slice (some ⟨b7,0,none⟩) 2 2) [(x1.1,x1.2),(x2.1,x2.2)]:=Row.lit hg4 hb7 rfl (ble rfl)
 have hz:=bs hF; obtain ⟨x4,Ex4,hF⟩:=hz
 refine Zc (xc cb113 (mc rfl (mc rfl mn))) (c113 (show RV (α:=((List ((((Int×Int)×Int)×((Int×Int)×Int))×Bool))×Int×(Int×Int))) _ (.agg [.slice a1 x0.1.length cq1,.int .i64 x0.2.1,.int .i64 x0.2.2.1,.int .i64 x0.2.2.2].toArray) (x0.1,x0.2.1,(x0.2.2.1,x0.2.2.2)) from ⟨_,rfl,⟨[.slice a1 x0.1.length cq1],[.int .i64 x0.2.1]++([.int .i64 x0.2.2.1]++[.int .i64 x0.2.2.2]),rfl,r14.rep1,⟨[.int .i64 x0.2.1],[.int .i64 x0.2.2.1]++[.int .i64 x0.2.2.2],rfl,rfl,⟨[.int .i64 x0.2.2.1],[.int .i64 x0.2.2.2],rfl,rfl,rfl⟩⟩⟩⟩) o1.rv Ex4) ?_
 rintro _ w5 ⟨u1,rfl,r16,hx5⟩
 have k7:=k4.tr hx5
 have hb10:=hb8.ext hx5
 have hb11:=hb9.ext hx5
 have hz:=obPtr r16; obtain ⟨a2,rfl⟩:=hz
 refine Zm<|Zv (xext rfl rfl)<|Zv (xext rfl rfl)<|Za<|Za<|nl<|wp_seq<|Zr<|Zm<|Zv (xneq rfl rfl)<|nl<|cnd rfl (fun h4=>?_) (fun h4=>?_)
 ·
  have hF:=ifp hF h4
  refine Zr<|Zm<|Za<|Za<|nl<|?_
  cases hF
  exact wp_ret<|rt rfl (.tmp rfl rfl (.tmp rfl rfl .nil)) ⟨rfl,k7⟩
 ·
  have hF:=ifn hF h4
  refine wp_skip<|wp_seq<|wpl [] (.pure true 0 (.pure true 1 (.pure false 2 (.pure true 4 (.pure false 5 (.pure true 7 (.pure true 8 (.eff 3 (.pure true 9 (.eff 6 (.pure true 10 (.eff 11 (.pure true 12 (.pure true 13 (.pure true 14 .fin))) .stop)) .stop)) .stop)))))))) mixed (by kernel_rfl) (fun w6 hx6=>?_)
  have k11:=k7.tr hx6
  have hb12:=hb10.ext hx6
  have hb13:=hb11.ext hx6
  have r17:=r16.ext hx6
  refine Zn rfl<|Zn rfl<|Zq rfl (fun _ hS=>xlda rfl ti56 rfl (Bx.cs (hb12.ext (hS.resolve_left nofun)))) (Ext.refl _)<|Zn rfl<|Zq rfl (fun _ hS=>xlda rfl ti56 rfl (Bx.cs (hb13.ext (hS.resolve_left nofun)))) (Ext.refl _)<|?_
  have hz:=bs hF; obtain ⟨x5,Ex5,hF⟩:=hz
  have hz:=obGet r17 Ex5; obtain ⟨b8,cs4,e2,q5,hc1⟩:=hz
  cases e2
  obtain ⟨_,_,rfl,⟨_,_,rfl,⟨a3,cq2,rfl,p2,q6,e3⟩,⟨_,_,rfl,rfl,⟨_,_,rfl,rfl,rfl⟩⟩⟩,⟨_,_,rfl,⟨a4,cq3,rfl,p3,q7,e4⟩,⟨_,_,rfl,rfl,⟨_,_,rfl,⟨a5,rfl,q8⟩,⟨a6,rfl,q9⟩⟩⟩⟩⟩:=q5
  have r18:=RV.of1 p2 q6 e3
  have r19:=RV.of1 p3 q7 e4
  refine Zp rfl (fun _=>xnil rfl)<|Zp rfl (fun _=>xfa rfl fa199_2)<|?_
  have hz:=bs hF; obtain ⟨x6,Ex6,hF⟩:=hz
  refine pe1 rfl<|Zc (xc cb114 (mc rfl (mc rfl mn))) (c114 (x0:=((x5.1.1,x5.1.2.1,(x5.1.2.2.1,x5.1.2.2.2)),x5.2.1,x5.2.2.1,Opq.mk,Opq.mk)) hc1 ⟨[.slice a3 x5.1.1.length cq2]++([.int .i64 x5.1.2.1]++([.int .i64 x5.1.2.2.1]++[.int .i64 x5.1.2.2.2])),[.slice a4 x5.2.1.length cq3]++(((List.flatMap Flat.enc x5.2.2.1.l))++([a5]++[a6])),rfl,⟨[.slice a3 x5.1.1.length cq2],[.int .i64 x5.1.2.1]++([.int .i64 x5.1.2.2.1]++[.int .i64 x5.1.2.2.2]),rfl,r18.rep1,⟨[.int .i64 x5.1.2.1],[.int .i64 x5.1.2.2.1]++[.int .i64 x5.1.2.2.2],rfl,rfl,⟨[.int .i64 x5.1.2.2.1],[.int .i64 x5.1.2.2.2],rfl,rfl,rfl⟩⟩⟩,⟨[.slice a4 x5.2.1.length cq3],((List.flatMap Flat.enc x5.2.2.1.l))++([a5]++[a6]),rfl,r19.rep1,⟨(List.flatMap Flat.enc x5.2.2.1.l),[a5]++[a6],rfl,rfl,⟨[a5],[a6],rfl,⟨_,rfl,q8⟩,⟨_,rfl,q9⟩⟩⟩⟩⟩ (show RV (α:=(Int×Bool)) _ (.agg [.int .i64 x1.1,.bool x1.2].toArray) (x1.1,x1.2) from ⟨_,rfl,⟨[.int .i64 x1.1],[.bool x1.2],rfl,rfl,rfl⟩⟩) Ex6) ?_
  rintro _ w7 ⟨rfl,hx7⟩
  have k15:=k11.tr hx7
  have r20:=r18.ext hx7
  have r21:=r19.ext hx7
  have hc2:=hc1.ext hx7
  refine nl ⟨fun _ _=>hx7,?_⟩
  have hc3:Cs w7 b8 (0 + 5) (List.flatMap Flat.enc x5.2.2.1.l):=Cs.mid (l1:=[.slice a3 x5.1.1.length cq2,.int .i64 x5.1.2.1,.int .i64 x5.1.2.2.1,.int .i64 x5.1.2.2.2,.slice a4 x5.2.1.length cq3]) (X:=x5.2.2.1) (l2:=[a5,a6]) hc2
  have hz:=bs hF; obtain ⟨x7,Ex7,hF⟩:=hz
  have hz:=ixar hc3 Ex7; obtain ⟨i1,i2,hc4⟩:=hz
  refine Zp rfl (fun _=>xixa rfl rfl Tryz.underlying196 ti195 i1 i2)<|?_
  have hz:=bs hF; obtain ⟨x8,Ex8,hF⟩:=hz
  refine pe1 rfl<|Zc (xc cb114 (mc rfl (mc rfl mn))) (c114 (x0:=((x5.1.1,x5.1.2.1,(x5.1.2.2.1,x5.1.2.2.2)),x5.2.1,x5.2.2.1,Opq.mk,Opq.mk)) hc2 ⟨[.slice a3 x5.1.1.length cq2]++([.int .i64 x5.1.2.1]++([.int .i64 x5.1.2.2.1]++[.int .i64 x5.1.2.2.2])),[.slice a4 x5.2.1.length cq3]++(((List.flatMap Flat.enc x5.2.2.1.l))++([a5]++[a6])),rfl,⟨[.slice a3 x5.1.1.length cq2],[.int .i64 x5.1.2.1]++([.int .i64 x5.1.2.2.1]++[.int .i64 x5.1.2.2.2]),rfl,r20.rep1,⟨[.int .i64 x5.1.2.1],[.int .i64 x5.1.2.2.1]++[.int .i64 x5.1.2.2.2],rfl,rfl,⟨[.int .i64 x5.1.2.2.1],[.int .i64 x5.1.2.2.2],rfl,rfl,rfl⟩⟩⟩,⟨[.slice a4 x5.2.1.length cq3],((List.flatMap Flat.enc x5.2.2.1.l))++([a5]++[a6]),rfl,r21.rep1,⟨(List.flatMap Flat.enc x5.2.2.1.l),[a5]++[a6],rfl,rfl,⟨[a5],[a6],rfl,⟨_,rfl,q8⟩,⟨_,rfl,q9⟩⟩⟩⟩⟩ (show RV (α:=(Int×Bool)) _ (.agg [.int .i64 x2.1,.bool x2.2].toArray) (x2.1,x2.2) from ⟨_,rfl,⟨[.int .i64 x2.1],[.bool x2.2],rfl,rfl,rfl⟩⟩) Ex8) ?_
  rintro _ w8 ⟨rfl,hx8⟩
  have k19:=k15.tr hx8
  have k23:=hx7.tr hx8
  have hc5:=hc4.ext hx8
  refine nl ⟨fun _ _=>k23,?_⟩
  have hz:=bs hF; obtain ⟨x9,Ex9,hF⟩:=hz
  have hz:=ixar hc5 Ex9; obtain ⟨i3,i4,hc6⟩:=hz
  refine Zp rfl (fun _=>xixa rfl rfl Tryz.underlying195 ti3 i3 i4)<|pe1 rfl<|Zv (xld rfl ti3 (hc6.at 0 rfl))<|nl ⟨fun _ _=>k23,?_⟩
  refine Zp rfl (fun _=>xeql rfl rfl)<|Zp rfl (fun _=>xas)<|Zp rfl (fun _=>xas)<|?_
  cases hF
  exact wp_ret<|rt rfl (.tmp rfl rfl (.tmp rfl rfl .nil)) ⟨rfl,k19⟩
end Go.Proofs.YtfmelbioccbdoaaGreat
end
section
namespace Go.Proofs.YtfmelbioccbdoaaGreat
open Go Go.Md Go.RowKit
attribute [local irreducible] Go.wpList Go.Code.wp Go.Calls Go.Md.Rnd Go.Md.Mt Go.Md.MtM Go.Md.RndM Go.Code.wpIn Go.wpListIn
structure Tb (N:Nat) (w:World) (b ma mu:Nat) (x:TTable):Prop where
 size:N≤w.heap.size
 rv:RVo (fun q=>q<N∧q≠ma∧q≠mu) w (.pointer (some ⟨b,0,none⟩)) (⟨some x⟩:Ob TTable)
 ca:w.cell? ⟨b,261,none⟩=some (.map (some ma))
 cu:w.cell? ⟨b,262,none⟩=some (.map (some mu))
 la:ma<N
 lu:mu<N
 ne:ma≠mu
section
variable {N:Nat} {w w1:World} {b ma mu c d:Nat} {x:TTable}
theorem Tb.lb (h:Tb N w b ma mu x):b<N∧b≠ma∧b≠mu:=by
 have hz:=obGetO h.rv rfl; obtain ⟨b',ds,e,h1,_,_⟩:=hz
 cases e
 exact h1
theorem Tb.belx (h:Tb N w b ma mu x) (k:BelX N c d w w1) (hc:c=ma∨c=mu∨N≤c) (hd:d=ma∨d=mu∨N≤d):Tb N w1 b ma mu x:=by
 have hb:=h.lb
 have e:w1.heap[b]?=w.heap[b]?:=k.block b hb.1 (by omega) (by omega)
 exact ⟨Nat.le_trans h.size k.size,h.rv.keep (fun q hq _=>k.block q hq.1 (by omega) (by omega)) k.size,(World.cell?_of_block (a:=⟨b,261,none⟩) e).trans h.ca,(World.cell?_of_block (a:=⟨b,262,none⟩) e).trans h.cu,h.la,h.lu,h.ne⟩
theorem Tb.belp {ok:Nat→Prop} {M:Nat} (h:Tb N w b ma mu x) (k:BelP ok M w w1) (hM:N≤M) (hk:∀ q,q<N→q≠ma→q≠mu→ok q):Tb N w1 b ma mu x:=by
 have hb:=h.lb
 have e:w1.heap[b]?=w.heap[b]?:=k.block b (by omega) (hk b hb.1 hb.2.1 hb.2.2)
 exact ⟨Nat.le_trans h.size k.size,h.rv.keep (fun q hq _=>k.block q (by omega) (hk q hq.1 hq.2.1 hq.2.2)) k.size,(World.cell?_of_block (a:=⟨b,261,none⟩) e).trans h.ca,(World.cell?_of_block (a:=⟨b,262,none⟩) e).trans h.cu,h.la,h.lu,h.ne⟩
theorem Tb.ext (h:Tb N w b ma mu x) (k:Ext w w1):Tb N w1 b ma mu x:=h.belx (c:=ma) (d:=ma) (BelX.of k h.size) (.inl rfl) (.inl rfl)
theorem Tb.mono {M:Nat} (h:Tb N w b ma mu x) (hM:N≤M) (hs:M≤w.heap.size):Tb M w b ma mu x :=
 ⟨hs,h.rv.mono fun q _ hq=>⟨by omega,hq.2⟩,h.ca,h.cu,Nat.lt_of_lt_of_le h.la hM,Nat.lt_of_lt_of_le h.lu hM,h.ne⟩
theorem Tb.cs (h:Tb N w b ma mu x):∃ cs,Cs w b 0 cs∧Enc.rep (fun _=>True) w cs x:=by
 have hz:=obGetO h.rv rfl; obtain ⟨b',ds,e,_,h1,h2⟩:=hz
 cases e
 exact ⟨ds,h2,Enc.mono (fun _ _ _=>trivial) h1⟩
theorem Tb.steps (h:Tb N w b ma mu x):∃ a k,w.cell? ⟨b,4,none⟩=some (.slice a x.2.1.length k)∧RVo (fun q=>q<N∧q≠ma∧q≠mu) w (.slice a x.2.1.length k) x.2.1:=by
 have hz:=obGetO h.rv rfl; obtain ⟨b',ds,e,_,h1,h2⟩:=hz
 cases e
 obtain ⟨_,_,rfl,⟨_,_,rfl,⟨a1,c1,rfl,p1,q3,e1⟩,⟨_,_,rfl,rfl,⟨_,_,rfl,rfl,rfl⟩⟩⟩,⟨_,_,rfl,⟨a2,c2,rfl,p2,q4,e2⟩,_⟩⟩:=h1
 exact ⟨a2,c2,h2.at 4 rfl,RVo.sl.2 ⟨a2,c2,rfl,p2,q4,e2⟩⟩
theorem Tb.pieces (h:Tb N w b ma mu x):∃ a k,w.cell? ⟨b,0,none⟩=some (.slice a x.1.1.length k)∧RVo (fun q=>q<N∧q≠ma∧q≠mu) w (.slice a x.1.1.length k) x.1.1:=by
 have hz:=obGetO h.rv rfl; obtain ⟨b',ds,e,_,h1,h2⟩:=hz
 cases e
 obtain ⟨_,_,rfl,⟨_,_,rfl,⟨a1,c1,rfl,p1,q3,e1⟩,⟨_,_,rfl,rfl,⟨_,_,rfl,rfl,rfl⟩⟩⟩,⟨_,_,rfl,⟨a2,c2,rfl,p2,q4,e2⟩,_⟩⟩:=h1
 exact ⟨a1,c1,h2.at 0 rfl,RVo.sl.2 ⟨a1,c1,rfl,p1,q3,e1⟩⟩
theorem Tb.fits (h:Tb N w b ma mu x):Cs w b 5 (x.2.2.1.l.flatMap Flat.enc):=by
 have hz:=obGetO h.rv rfl; obtain ⟨b',ds,e,_,h1,h2⟩:=hz
 cases e
 obtain ⟨_,_,rfl,⟨_,_,rfl,⟨a1,c1,rfl,p1,q3,e1⟩,⟨_,_,rfl,rfl,⟨_,_,rfl,rfl,rfl⟩⟩⟩,⟨_,_,rfl,⟨a2,c2,rfl,p2,q4,e2⟩,⟨_,_,rfl,rfl,_⟩⟩⟩:=h1
 exact (h2.snd.snd).fst
theorem TbP.tb {M:Nat} {v:Value} (h:TbP M w v x b ma mu):v=.pointer (some ⟨b,0,none⟩)∧Tb w.heap.size w b ma mu x∧Mp (κ:=TState) (ν:=Int) w ma []∧Mp (κ:=TState) (ν:=Int) w mu []:=by
 obtain ⟨rfl,h1,h2,h3,h4,h5,h6,_⟩:=h
 refine ⟨rfl,⟨Nat.le_refl _,?_,h2,h3,h4.lt,h5.lt,h6⟩,h4,h5⟩
 obtain ⟨cs,e,h7⟩:=h1
 refine ⟨cs,e,?_⟩
 obtain ⟨a,e1,b',ds,e2,h8,h9,h10,h11⟩:=h7
 exact ⟨a,e1,b',ds,e2,⟨h9,h8⟩,h9,Enc.mono (fun q hq hok=>⟨hq,hok⟩) h10,h11⟩
end
def jb_ok (x:TTable) (s:TState) (k:Int):Option Bool :=
 (join_table_behind_1 k s ⟨some x⟩) >>= fun f =>
 if f=true then
  (if decide (s.2=-1)=true then some true else (ix x.2.2.1.l s.2) >>= fun r=>(ix r.l k) >>= fun y=>some (decide (y=1)))
 else some false
def jb_from (x:TTable) (s:TState):Nat→Nat→Option (List TState)
 | 0,_=>some []
 | n + 1,k=>(jb_ok x s k) >>= fun f=>(jb_from x s n (k + 1)) >>= fun t=>if f=true then (join_table_on x s k) >>= fun u=>some (u::t) else some t
def join_behind (x:TTable) (s:TState):Option (List TState) :=
 if (!decide (s.2=-1))=true then (ix x.2.2.1.l s.2) >>= fun r=>if decide (r=Ar.fill 16 0)=true then some [] else jb_from x s x.2.1.length 0
 else jb_from x s x.2.1.length 0
set_option maxHeartbeats 8000000 in
theorem seq310 {m:Nat} {w:World} {bs bt bf b ma mu N:Nat} {ok:Nat→Prop} {x:TTable} {s:TState} {l:List TState} (hs:Bx w bs 326 (Flat.enc s)) (ht:Bx w bt 177 [.pointer (some ⟨b,0,none⟩)]) (hf:Bx w bf 236 [.func (.func 309) #[] #[.pointer (some ⟨bs,0,none⟩),.pointer (some ⟨bt,0,none⟩)]])
  (n1:ok bs) (n2:ok bt) (n3:ok bf) (hT:Tb N w b ma mu x) (hok:∀ q,q<N→q≠ma→q≠mu→ok q) (hL:join_behind x s=some l) :
  SeqP Tryz.prog (BelP ok w.heap.size) m 310 #[.pointer (some ⟨bs,0,none⟩),.pointer (some ⟨bt,0,none⟩),.pointer (some ⟨bf,0,none⟩)] (l.map fun u=>#[fv u]) w:=by
 intro ll J Jx W kW hJ hJx hY h0
 have KW:BelP ok w.heap.size w W:=BelP.of kW (Nat.le_refl _)
 have TW:=hT.ext kW
 have dsW:=hs.ext kW
 have dtW:=ht.ext kW
 refine (callsIn_wide.2 ?_:CallsIn Fence.wide m Tryz.prog 310 ([.func (.yield ll) #[] #[],.pointer (some ⟨bs,0,none⟩),.pointer (some ⟨bt,0,none⟩),.pointer (some ⟨bf,0,none⟩)].toArray) W _)
 refine Calls.mono (R:=Ret fun v W'=>J (l.map fun u=>#[fv u]).length W'∨Jx W') ?_ ?_
 rotate_left
 ·rintro e W' ⟨v,rfl,h⟩
  exact ⟨⟨v,rfl⟩,h⟩
 unfold join_behind at hL
 refine entr (n:=58) Tryz.func310 rfl rfl rfl<|wp_seq<|?_
 refine ct (fun L w'=>L 0=.func (.yield ll) #[] #[]∧L 1=.pointer (some ⟨bs,0,none⟩)∧L 2=.pointer (some ⟨bt,0,none⟩)∧L 3=.pointer (some ⟨bf,0,none⟩)∧Ext W w'∧jb_from x s x.2.1.length 0=some l) ?_ ?_
 ·refine wp_seq<|wpl [] (.pure true 0 (.pure false 1 (.pure true 2 (.pure true 3 (.pure false 4 (.pure true 5 (.pure false 6 (.pure true 7 (.pure true 8 (.pure true 9 (.pure false 10 (.pure true 11 (.pure true 12 (.pure true 13 .fin)))))))))))))) mixed (by kernel_rfl) (fun wd hxd=>?_)
  have ds:=dsW.ext hxd
  have dt:=dtW.ext hxd
  have Td:=TW.ext hxd
  refine Zp rfl (fun _=>xfa rfl fa326_1)<|Zq rfl (fun _ hS=>xld rfl ti3 ((Bx.cs (ds.ext (hS.resolve_left nofun))).at 1 rfl)) (Ext.refl _)<|Zp rfl (fun _=>xneq rfl rfl)<|Zn rfl<|?_
  refine Or.elim (Bool.eq_false_or_eq_true (!decide (s.2=-1))) (fun hg=>?_) (fun hg=>?_)
  ·have hL:=ifp hL hg
   have hz:=Md.bs hL; obtain ⟨r,Er,hL⟩:=hz
   have hz:=ixar Td.fits Er; obtain ⟨j1,j2,hc1⟩:=hz
   refine pvt rfl rfl rfl rfl rfl rfl (Md.bt hg) rfl (fun _ hS=>xld rfl ti177 ((Bx.cs (dt.ext (hS.resolve_left nofun))).at 0 rfl)) (.inr (Ext.refl _))<|Zt rfl rfl rfl rfl (Md.bt hg) (fun _=>xfa rfl fa326_1)<|pvt rfl rfl rfl rfl rfl rfl (Md.bt hg) rfl (fun _ hS=>xld rfl ti3 ((Bx.cs (ds.ext (hS.resolve_left nofun))).at 1 rfl)) (.inr (Ext.refl _))<|Zt rfl rfl rfl rfl (Md.bt hg) (fun _=>xnil rfl)<|Zt rfl rfl rfl rfl (Md.bt hg) (fun _=>xfa rfl fa199_2)<|?_
   refine Zt rfl rfl rfl rfl (Md.bt hg) (fun _=>xixa rfl rfl Tryz.underlying196 ti195 j1 j2)<|pvt rfl rfl rfl rfl rfl rfl (Md.bt hg) rfl (fun _ hS=>xlda rfl ti195 (arlen r) (hc1.ext (hS.resolve_left nofun))) (.inr (Ext.refl _))<|Zt rfl rfl rfl rfl (Md.bt hg) (fun _=>xbdav (r:=List.flatMap Flat.enc (Ar.fill 16 0:Ar 16 Int).l) ti195 Tryz.underlying195 ti3 pn rfl)<|?_
   refine Zt rfl rfl rfl rfl (Md.bt hg) (fun _=>xage (α:=Ar 16 Int) (a:=r) (b:=Ar.fill 16 0) rfl eg195 eq195 rfl rfl rfl rfl rfl)<|Zp rfl (fun _=>xpt rfl hg rfl)<|?_
   refine cnd rfl (fun hq=>?_) (fun hq=>?_)
   ·have hL:=ifp hL hq
    cases hL
    exact wp_ret<|rt rfl .nil (.inl (hJ 0 _ _ h0 hxd))
   ·have hL:=ifn hL hq
    exact wp_skip<|lf ⟨rfl,rfl,rfl,rfl,hxd,hL⟩
  ·have hL:=ifn hL hg
   refine pvf rfl rfl rfl rfl rfl rfl (bft hg) rfl (.inr (Ext.refl _))<|Zf rfl rfl rfl rfl (bft hg)<|pvf rfl rfl rfl rfl rfl rfl (bft hg) rfl (.inr (Ext.refl _))<|Zf rfl rfl rfl rfl (bft hg)<|Zf rfl rfl rfl rfl (bft hg)<|Zf rfl rfl rfl rfl (bft hg)<|pvf rfl rfl rfl rfl rfl rfl (bft hg) rfl (.inr (Ext.refl _))<|Zf rfl rfl rfl rfl (bft hg)<|Zf rfl rfl rfl rfl (bft hg)<|?_
   refine Zp rfl (fun _=>xpf rfl hg rfl)<|?_
   refine cnd rfl (fun hq=>by cases hq) (fun hq=>?_)
   exact wp_skip<|lf ⟨rfl,rfl,rfl,rfl,hxd,hL⟩
 clear hL
 rintro L w2 ⟨l0,l1,l2,l3,k2,hL⟩
 have T2:=TW.ext k2
 have dt2:=dtW.ext k2
 have hz:=T2.steps; obtain ⟨a2,c2,h4,hsl⟩:=hz
 have hlen:=(RVo.rv hsl).cap
 have hj2:J 0 w2:=hJ 0 _ _ h0 k2
 have K2:BelP ok w.heap.size w w2:=BelP.of (kW.tr k2) (Nat.le_refl _)
 refine Zr<|Zv (xld l2 ti177 ((Bx.cs dt2).at 0 rfl))<|Zv (xnil rfl)<|Zv (xfa rfl fa199_1)<|Zv (xld rfl ti51 h4)<|Zv (xlen rfl Tryz.underlying51)<|Zm<|nl<|?_
 refine wp_block<|lp (I:=fun m' L w1=>∃ (k:Nat) (pre t:List TState),k + m'=x.2.1.length∧jb_from x s m' k=some t∧l=pre++t∧L 25=.int .i64 (k:Int)∧L 24=.int .i64 (x.2.1.length:Int)∧L 0=.func (.yield ll) #[] #[]∧L 1=.pointer (some ⟨bs,0,none⟩)∧L 2=.pointer (some ⟨bt,0,none⟩)∧L 3=.pointer (some ⟨bf,0,none⟩)∧J pre.length w1∧BelP ok w.heap.size w w1) x.2.1.length
  ⟨0,[],l,by simp,hL,rfl,rfl,rfl,l0,l1,l2,l3,hj2,K2⟩ ?_
 clear l0 l1 l2 l3 hL
 rintro m' L w1 ⟨k,pre,t,hk,hB,hl,l25,l24,l0,l1,l2,l3,hj,hx⟩
 refine Zr<|Zv (xlss l25 l24)<|nl<|wp_seq<|cnd rfl (fun hc0=>?_) (fun hc0=>?_)
 ·have hc0:(k:Int)<(x.2.1.length:Int):=by simpa using hc0
  obtain ⟨n,rfl⟩:∃ n,m'=n + 1:=⟨m' - 1,by omega⟩
  rw [jb_from] at hB
  have hz:=Md.bs hB; obtain ⟨f,Ef,hB⟩:=hz
  have hz:=Md.bs hB; obtain ⟨t',Et,hB⟩:=hz
  unfold jb_ok at Ef
  have hz:=Md.bs Ef; obtain ⟨f0,Ef0,Ef⟩:=hz
  have hadd:w64 ((k:Int) + 1)=((k + 1:Nat):Int):=by
   have hmx:x.2.1.length≤maxLen:=by omega
   rw [w64,IntWalk.i64_in _ (by unfold maxLen at hmx; omega)]
   rfl
  have hNw:=hx.size
  refine wp_skip<|wp_seq<|wp_block<|Zr<|Zv (xmva l25)<|Za<|nl<|wp_seq<|wplW (m:=m) (fun wd w'=>Ext wd w') [26] (.pure false 0 (.pure true 1 (.eff 2 (.pure true 3 (.pure true 4 (.pure false 5 (.pure true 6 (.pure true 7 (.pure false 8 (.pure true 9 (.pure false 10 (.pure true 11 (.pure true 12 (.pure true 13 (.pure true 14 (.pure true 15 (.pure false 16 (.pure true 17 (.pure true 18 (.pure true 19 (.pure true 20 (.pure true 21 (.pure false 22 (.pure false 23 (.pure true 24 (.eff 25 (.eff 26 (.pure true 27 (.pure true 28 .fin)) .stop) .stop))))))))))))))))))))))) .stop))) mixed (by kernel_rfl) (fun wd hxd=>?_)
  have hxd':=hx.ext hxd hNw
  have ds:=hs.belp hxd' hs.lt n1
  have dt:=ht.belp hxd' ht.lt n2
  have df:=hf.belp hxd' hf.lt n3
  have Td:=hT.belp hxd' hT.size hok
  have hjd:=hJ _ _ _ hj hxd
  refine pvw rfl rfl rfl (fun _ hS=>xld l3 ti236 ((Bx.cs (df.ext (hS.resolve_left nofun))).at 0 rfl)) (.inr (Ext.refl _))<|pvw rfl rfl rfl (fun _ _=>xmv) (.inl rfl)<|?_
  refine pe1w rfl<|Zc (xcv (fs:=[]) (cs:=[.pointer (some ⟨bs,0,none⟩),.pointer (some ⟨bt,0,none⟩)]) rfl cb309 (mc rfl mn) rfl) (c309 (x1:=s) (x2:=(⟨some x⟩:Ob TTable)) (Bx.cs ds) (Flat.iff.2 rfl) (Bx.cs dt) (obRep1 Td.rv.rv) Ef0) ?_
  rintro _ w3 ⟨rfl,hx3⟩
  refine nl ⟨fun _ h=>h.tr hx3,?_⟩
  have kd3:=hxd.tr hx3
  have hx3':=hx.ext kd3 hNw
  have hjd3:=hJ _ _ _ hj kd3
  have ds3:=ds.ext hx3
  have dt3:=dt.ext hx3
  have Td3:=Td.ext hx3
  refine pvw rfl rfl rfl (fun _ _=>xmv) (.inl rfl)<|?_
  have skip_:∀ (L':Fr),f=false→L' 24=.int .i64 (x.2.1.length:Int)→L' 0=.func (.yield ll) #[] #[]→L' 1=.pointer (some ⟨bs,0,none⟩)→L' 2=.pointer (some ⟨bt,0,none⟩)→L' 3=.pointer (some ⟨bf,0,none⟩) →
    ∃ (k':Nat) (pre t:List TState),k' + n=x.2.1.length∧jb_from x s n k'=some t∧l=pre++t∧Value.int .i64 (w64 ((k:Int) + 1))=.int .i64 (k':Int)∧L' 24=.int .i64 (x.2.1.length:Int)∧L' 0=.func (.yield ll) #[] #[]∧L' 1=.pointer (some ⟨bs,0,none⟩)∧L' 2=.pointer (some ⟨bt,0,none⟩)∧L' 3=.pointer (some ⟨bf,0,none⟩)∧J pre.length w3∧BelP ok w.heap.size w w3:=by
   intro L' hf0 h24 h0 h1 h2 h3
   have hB:=ifn hB hf0
   cases hB
   exact ⟨k + 1,pre,_,by omega,Et,hl,congrArg _ hadd,h24,h0,h1,h2,h3,hjd3,hx3'⟩
  refine Or.elim (Bool.eq_false_or_eq_true f0) (fun hf0=>?_) (fun hf0=>?_)
  ·have Ef:=ifp Ef hf0
   refine pvtw rfl rfl rfl rfl rfl rfl (Md.bt hf0) rfl (fun _ _=>xfa l1 fa326_1) (.inl rfl)<|pvtw rfl rfl rfl rfl rfl rfl (Md.bt hf0) rfl (fun _ hS=>xld rfl ti3 ((Bx.cs (ds.ext (hS.resolve_left nofun))).at 1 rfl)) (.inr hx3)<|pvtw rfl rfl rfl rfl rfl rfl (Md.bt hf0) rfl (fun _ _=>xeql rfl rfl) (.inl rfl)<|pvtw rfl rfl rfl rfl rfl rfl (Md.bt hf0) rfl (fun _ _=>xmv) (.inl rfl)<|?_
   refine Or.elim (Bool.eq_false_or_eq_true (decide (s.2=-1))) (fun hs2=>?_) (fun hs2=>?_)
   ·have Ef:=ifp Ef hs2
    obtain rfl:true=f:=by cases Ef; rfl
    refine pvfw rfl rfl rfl rfl rfl rfl (btf hs2) rfl (.inr hx3)<|pvfw rfl rfl rfl rfl rfl rfl (btf hs2) rfl (.inl rfl)<|pvfw rfl rfl rfl rfl rfl rfl (btf hs2) rfl (.inr hx3)<|pvfw rfl rfl rfl rfl rfl rfl (btf hs2) rfl (.inl rfl)<|pvfw rfl rfl rfl rfl rfl rfl (btf hs2) rfl (.inl rfl)<|pvfw rfl rfl rfl rfl rfl rfl (btf hs2) rfl (.inl rfl)<|pvfw rfl rfl rfl rfl rfl rfl (btf hs2) rfl (.inl rfl)<|pvfw rfl rfl rfl rfl rfl rfl (btf hs2) rfl (.inl rfl)<|pvfw rfl rfl rfl rfl rfl rfl (btf hs2) rfl (.inr hx3)<|pvfw rfl rfl rfl rfl rfl rfl (btf hs2) rfl (.inl rfl)<|?_
    refine pvtw rfl rfl rfl rfl rfl rfl (Md.bt hf0) rfl (fun _ _=>xpt rfl hs2 rfl) (.inl rfl)<|pvw rfl rfl rfl (fun _ _=>xpt rfl hf0 rfl) (.inl rfl)<|pvw rfl rfl rfl (fun _ _=>xmv) (.inl rfl)<|?_
    have hf:true=true:=rfl
    have hB:=ifp hB hf
    have hz:=Md.bs hB; obtain ⟨u,Eu,hB⟩:=hz
    cases hB
    have hz:=Td3.cs; obtain ⟨cs3,hc3,hr3⟩:=hz
    refine pvtw rfl rfl rfl rfl rfl rfl (Md.bt hf) rfl (fun _ _=>xmva l0) (.inl rfl)<|pvtw rfl rfl rfl rfl rfl rfl (Md.bt hf) rfl (fun _ hS=>xld l2 ti177 ((Bx.cs (dt.ext (hS.resolve_left nofun))).at 0 rfl)) (.inr hx3)<|pvtw rfl rfl rfl rfl rfl rfl (Md.bt hf) rfl (fun _ hS=>xlda l1 ti326 rfl (Bx.cs (ds.ext (hS.resolve_left nofun)))) (.inr hx3)<|pvtw rfl rfl rfl rfl rfl rfl (Md.bt hf) rfl (fun _ _=>xmv) (.inl rfl)<|?_
    refine pe1w rfl<|gtk rfl rfl rfl rfl rfl (Md.bt hf)<|Zc (xc cb272 (mc rfl<|mc rfl<|mc rfl mn)) (c272 (x0:=x) hc3 hr3 (x1:=s) ⟨_,rfl,Flat.iff.2 rfl⟩ Eu) ?_
    rintro _ w4 ⟨u0,rfl,ru,hx4⟩
    refine nl ⟨fun _ h=>h.tr hx4,?_⟩
    obtain ⟨cu,rfl,hu⟩:=ru
    obtain rfl:=Flat.iff.1 hu
    have hus:(l.map fun u=>(#[fv u]:Array Value))[pre.length]?=some #[fv u]:=by
     rw [List.getElem?_map,hl,List.getElem?_append_right (Nat.le_refl _),Nat.sub_self]
     rfl
    have hz:=hY pre.length #[fv u] w4 hus (hJ _ _ _ hjd3 hx4); obtain ⟨fn,tmps,assign,body,hy,hR⟩:=hz
    refine pyw rfl rfl rfl rfl rfl rfl (Md.bt hf) rfl (by decide) (xyl rfl (mc rfl mn) hy) hR fun e w5 he=>?_
    rcases he with ⟨rfl,hj5,k5⟩ | ⟨rfl,hj5⟩
    ·refine ⟨_,rfl,?_⟩
     refine pvtw rfl rfl rfl rfl rfl rfl (Md.bt hf) rfl (fun _ _=>xnot rfl) (.inl rfl)<|pvw rfl rfl rfl (fun _ _=>xpt rfl hf rfl) (.inl rfl)<|?_
     refine cnd rfl (fun h=>by cases h) (fun _=>?_)
     refine wp_skip<|rg<|Zv (xadd l25 rfl)<|Zm<|nl<|?_
     refine lq n (Nat.lt_succ_self _) ⟨k + 1,pre++[u],t',by omega,Et,by rw [hl,List.append_assoc]; rfl,congrArg _ hadd,l24,l0,l1,l2,l3,?_,(hx3'.ext hx4 (Nat.le_trans hNw kd3.size)).trans k5⟩
     rw [List.length_append]
     exact hj5
    ·refine ⟨_,rfl,?_⟩
     refine pvtw rfl rfl rfl rfl rfl rfl (Md.bt hf) rfl (fun _ _=>xnot rfl) (.inl rfl)<|pvw rfl rfl rfl (fun _ _=>xpt rfl hf rfl) (.inl rfl)<|?_
     refine cnd rfl (fun _=>?_) (fun h=>by cases h)
     exact wp_ret<|rt rfl .nil (.inr hj5)
   ·have Ef:=ifn Ef hs2
    have hz:=Md.bs Ef; obtain ⟨r,Er,Ef⟩:=hz
    have hz:=Md.bs Ef; obtain ⟨y,Ey,Ef⟩:=hz
    obtain rfl:decide (y=1)=f:=by cases Ef; rfl
    have hz:=ixar Td.fits Er; obtain ⟨j1,j2,hc1⟩:=hz
    have hz:=ixar (X:=r) hc1 Ey; obtain ⟨j3,j4,hc2⟩:=hz
    refine pvtw rfl rfl rfl rfl rfl rfl (Md.bf hs2) rfl (fun _ hS=>xld l2 ti177 ((Bx.cs (dt.ext (hS.resolve_left nofun))).at 0 rfl)) (.inr hx3)<|pvtw rfl rfl rfl rfl rfl rfl (Md.bf hs2) rfl (fun _ _=>xfa l1 fa326_1) (.inl rfl)<|pvtw rfl rfl rfl rfl rfl rfl (Md.bf hs2) rfl (fun _ hS=>xld rfl ti3 ((Bx.cs (ds.ext (hS.resolve_left nofun))).at 1 rfl)) (.inr hx3)<|pvtw rfl rfl rfl rfl rfl rfl (Md.bf hs2) rfl (fun _ _=>xmv) (.inl rfl)<|pvtw rfl rfl rfl rfl rfl rfl (Md.bf hs2) rfl (fun _ _=>xnil rfl) (.inl rfl)<|pvtw rfl rfl rfl rfl rfl rfl (Md.bf hs2) rfl (fun _ _=>xfa rfl fa199_2) (.inl rfl)<|pvtw rfl rfl rfl rfl rfl rfl (Md.bf hs2) rfl (fun _ _=>xixa rfl rfl Tryz.underlying196 ti195 j1 j2) (.inl rfl)<|pvtw rfl rfl rfl rfl rfl rfl (Md.bf hs2) rfl (fun _ _=>xixa rfl rfl Tryz.underlying195 ti3 j3 j4) (.inl rfl)<|pvtw rfl rfl rfl rfl rfl rfl (Md.bf hs2) rfl (fun _ hS=>xld rfl ti3 ((hc2.ext (hS.resolve_left nofun)).at 0 rfl)) (.inr hx3)<|pvtw rfl rfl rfl rfl rfl rfl (Md.bf hs2) rfl (fun _ _=>xeql rfl rfl) (.inl rfl)<|?_
    refine pvtw rfl rfl rfl rfl rfl rfl (Md.bt hf0) rfl (fun _ _=>xpf rfl hs2 rfl) (.inl rfl)<|pvw rfl rfl rfl (fun _ _=>xpt rfl hf0 rfl) (.inl rfl)<|pvw rfl rfl rfl (fun _ _=>xmv) (.inl rfl)<|?_
    refine Or.elim (Bool.eq_false_or_eq_true (decide (y=1))) (fun hf=>?_) (fun hf=>?_)
    ·skip
     have hB:=ifp hB hf
     have hz:=Md.bs hB; obtain ⟨u,Eu,hB⟩:=hz
     cases hB
     have hz:=Td3.cs; obtain ⟨cs3,hc3,hr3⟩:=hz
     refine pvtw rfl rfl rfl rfl rfl rfl (Md.bt hf) rfl (fun _ _=>xmva l0) (.inl rfl)<|pvtw rfl rfl rfl rfl rfl rfl (Md.bt hf) rfl (fun _ hS=>xld l2 ti177 ((Bx.cs (dt.ext (hS.resolve_left nofun))).at 0 rfl)) (.inr hx3)<|pvtw rfl rfl rfl rfl rfl rfl (Md.bt hf) rfl (fun _ hS=>xlda l1 ti326 rfl (Bx.cs (ds.ext (hS.resolve_left nofun)))) (.inr hx3)<|pvtw rfl rfl rfl rfl rfl rfl (Md.bt hf) rfl (fun _ _=>xmv) (.inl rfl)<|?_
     refine pe1w rfl<|gtk rfl rfl rfl rfl rfl (Md.bt hf)<|Zc (xc cb272 (mc rfl<|mc rfl<|mc rfl mn)) (c272 (x0:=x) hc3 hr3 (x1:=s) ⟨_,rfl,Flat.iff.2 rfl⟩ Eu) ?_
     rintro _ w4 ⟨u0,rfl,ru,hx4⟩
     refine nl ⟨fun _ h=>h.tr hx4,?_⟩
     obtain ⟨cu,rfl,hu⟩:=ru
     obtain rfl:=Flat.iff.1 hu
     have hus:(l.map fun u=>(#[fv u]:Array Value))[pre.length]?=some #[fv u]:=by
      rw [List.getElem?_map,hl,List.getElem?_append_right (Nat.le_refl _),Nat.sub_self]
      rfl
     have hz:=hY pre.length #[fv u] w4 hus (hJ _ _ _ hjd3 hx4); obtain ⟨fn,tmps,assign,body,hy,hR⟩:=hz
     refine pyw rfl rfl rfl rfl rfl rfl (Md.bt hf) rfl (by decide) (xyl rfl (mc rfl mn) hy) hR fun e w5 he=>?_
     rcases he with ⟨rfl,hj5,k5⟩ | ⟨rfl,hj5⟩
     ·refine ⟨_,rfl,?_⟩
      refine pvtw rfl rfl rfl rfl rfl rfl (Md.bt hf) rfl (fun _ _=>xnot rfl) (.inl rfl)<|pvw rfl rfl rfl (fun _ _=>xpt rfl hf rfl) (.inl rfl)<|?_
      refine cnd rfl (fun h=>by cases h) (fun _=>?_)
      refine wp_skip<|rg<|Zv (xadd l25 rfl)<|Zm<|nl<|?_
      refine lq n (Nat.lt_succ_self _) ⟨k + 1,pre++[u],t',by omega,Et,by rw [hl,List.append_assoc]; rfl,congrArg _ hadd,l24,l0,l1,l2,l3,?_,(hx3'.ext hx4 (Nat.le_trans hNw kd3.size)).trans k5⟩
      rw [List.length_append]
      exact hj5
     ·refine ⟨_,rfl,?_⟩
      refine pvtw rfl rfl rfl rfl rfl rfl (Md.bt hf) rfl (fun _ _=>xnot rfl) (.inl rfl)<|pvw rfl rfl rfl (fun _ _=>xpt rfl hf rfl) (.inl rfl)<|?_
      refine cnd rfl (fun _=>?_) (fun h=>by cases h)
      exact wp_ret<|rt rfl .nil (.inr hj5)
    ·refine pvfw rfl rfl rfl rfl rfl rfl (bft hf) rfl (.inl rfl)<|pvfw rfl rfl rfl rfl rfl rfl (bft hf) rfl (.inr hx3)<|pvfw rfl rfl rfl rfl rfl rfl (bft hf) rfl (.inr hx3)<|pvfw rfl rfl rfl rfl rfl rfl (bft hf) rfl (.inl rfl)<|?_
     refine pexw rfl rfl rfl rfl rfl rfl (bft hf) rfl<|?_
     refine pexw rfl rfl rfl rfl rfl rfl (bft hf) rfl<|?_
     refine pvfw rfl rfl rfl rfl rfl rfl (bft hf) rfl (.inl rfl)<|?_
     refine pvw rfl rfl rfl (fun _ _=>xpf rfl hf rfl) (.inl rfl)<|?_
     refine cnd rfl (fun h=>by cases h) (fun _=>?_)
     refine wp_skip<|rg<|Zv (xadd l25 rfl)<|Zm<|nl<|?_
     exact lq n (Nat.lt_succ_self _) (skip_ _ hf l24 l0 l1 l2 l3)
  ·have Ef:=ifn Ef hf0
   obtain rfl:false=f:=by cases Ef; rfl
   refine pvfw rfl rfl rfl rfl rfl rfl (bft hf0) rfl (.inl rfl)<|pvfw rfl rfl rfl rfl rfl rfl (bft hf0) rfl (.inr hx3)<|pvfw rfl rfl rfl rfl rfl rfl (bft hf0) rfl (.inl rfl)<|pvfw rfl rfl rfl rfl rfl rfl (bft hf0) rfl (.inl rfl)<|?_
   refine pvfw rfl rfl rfl rfl rfl rfl Md.bu rfl (.inr hx3)<|pvfw rfl rfl rfl rfl rfl rfl Md.bu rfl (.inl rfl)<|pvfw rfl rfl rfl rfl rfl rfl Md.bu rfl (.inr hx3)<|pvfw rfl rfl rfl rfl rfl rfl Md.bu rfl (.inl rfl)<|pvfw rfl rfl rfl rfl rfl rfl Md.bu rfl (.inl rfl)<|pvfw rfl rfl rfl rfl rfl rfl Md.bu rfl (.inl rfl)<|pvfw rfl rfl rfl rfl rfl rfl Md.bu rfl (.inl rfl)<|pvfw rfl rfl rfl rfl rfl rfl Md.bu rfl (.inl rfl)<|pvfw rfl rfl rfl rfl rfl rfl Md.bu rfl (.inr hx3)<|pvfw rfl rfl rfl rfl rfl rfl Md.bu rfl (.inl rfl)<|?_
   refine pvfw rfl rfl rfl rfl rfl rfl (bft hf0) rfl (.inl rfl)<|pvw rfl rfl rfl (fun _ _=>xpf rfl hf0 rfl) (.inl rfl)<|pvw rfl rfl rfl (fun _ _=>xmv) (.inl rfl)<|?_
   refine pvfw rfl rfl rfl rfl rfl rfl (bft rfl) rfl (.inl rfl)<|pvfw rfl rfl rfl rfl rfl rfl (bft rfl) rfl (.inr hx3)<|pvfw rfl rfl rfl rfl rfl rfl (bft rfl) rfl (.inr hx3)<|pvfw rfl rfl rfl rfl rfl rfl (bft rfl) rfl (.inl rfl)<|?_
   refine pexw rfl rfl rfl rfl rfl rfl (bft rfl) rfl<|?_
   refine pexw rfl rfl rfl rfl rfl rfl (bft rfl) rfl<|?_
   refine pvfw rfl rfl rfl rfl rfl rfl (bft rfl) rfl (.inl rfl)<|?_
   refine pvw rfl rfl rfl (fun _ _=>xpf rfl rfl rfl) (.inl rfl)<|?_
   refine cnd rfl (fun h=>by cases h) (fun _=>?_)
   refine wp_skip<|rg<|Zv (xadd l25 rfl)<|Zm<|nl<|?_
   exact lq n (Nat.lt_succ_self _) (skip_ _ rfl l24 l0 l1 l2 l3)
 ·have hc0:¬ (k:Int)<(x.2.1.length:Int):=by simpa using hc0
  obtain rfl:m'=0:=by omega
  rw [jb_from] at hB
  cases hB
  refine wp_exit<|rtn rfl .nil (.inl ?_)
  rw [List.length_map,hl,List.append_nil]
  exact hj
end Go.Proofs.YtfmelbioccbdoaaGreat
end
section
namespace Go.Proofs.YtfmelbioccbdoaaGreat
open Go Go.Md Go.RowKit
attribute [local irreducible] Go.wpList Go.Code.wp Go.Calls Go.Md.Rnd Go.Md.Mt Go.Md.MtM Go.Md.RndM Go.Code.wpIn Go.wpListIn
def BhV (lo:Nat) (w:World) (v:Value) (s:TState) (b:Nat):Prop:=∃ bs bt bf,v=.func (.func 310) #[] #[.pointer (some ⟨bs,0,none⟩),.pointer (some ⟨bt,0,none⟩),.pointer (some ⟨bf,0,none⟩)] ∧
 Bx w bs 326 (Flat.enc s)∧Bx w bt 177 [.pointer (some ⟨b,0,none⟩)]∧Bx w bf 236 [.func (.func 309) #[] #[.pointer (some ⟨bs,0,none⟩),.pointer (some ⟨bt,0,none⟩)]]∧lo≤bs∧lo≤bt∧lo≤bf
theorem BhV.go {lo:Nat} {w:World} {v:Value} {s:TState} {b ma mu N:Nat} {ok:Nat→Prop} {x:TTable} {l:List TState} (h:BhV lo w v s b) (hT:Tb N w b ma mu x) (hok:∀ q,q<N→q≠ma→q≠mu→ok q) (hlo:∀ q,lo≤q→ok q) (hL:join_behind x s=some l) (m:Nat) :
  ∃ gf cs,v=.func (.func gf) #[] cs∧Callable Tryz.prog gf∧SeqP Tryz.prog (BelP ok w.heap.size) m gf cs (l.map fun u=>#[fv u]) w:=by
 obtain ⟨bs,bt,bf,rfl,h1,h2,h3,h4,h5,h6⟩:=h
 exact ⟨310,_,rfl,cb310,seq310 h1 h2 h3 (hlo _ h4) (hlo _ h5) (hlo _ h6) hT hok hL⟩
theorem c229 {w0:World} {b:Nat} {s:TState}:Calls Tryz.prog 229 [.pointer (some ⟨b,0,none⟩),fv s].toArray w0 (Ret fun v w'=>BhV w0.heap.size w' v s b∧Ext w0 w'):=by
 refine entr (n:=8) Tryz.func229 rfl rfl rfl<|Zr<|sbx rfl rfl fun bt w1 hx1 hg1 hb1=>sbx rfl (cells_fv s) fun bs w2 hx2 hg2 hb2=>?_
 refine Za<|nl<|Zr<|Zv (xmf (l:=[]) (k:=[.pointer (some ⟨bs,0,none⟩),.pointer (some ⟨bt,0,none⟩)]) rfl rfl)<|sal ti236 fun bf w3 hx3 hg3 hb3=>sst rfl rfl rfl ti236 hb3 rfl rfl (ble rfl) fun w4 hch4 hb4=>?_
 have s1:=hx1.size
 have s2:=hx2.size
 have s3:=hx3.size
 have k3:Ext w0 w4:=((hx1.tr hx2).tr hx3).chg hch4 (by omega)
 have l1:=hb1.lt
 have l2:=hb2.lt
 refine nl<|Zr<|Zv (xmf (l:=[]) (k:=[.pointer (some ⟨bs,0,none⟩),.pointer (some ⟨bt,0,none⟩),.pointer (some ⟨bf,0,none⟩)]) rfl rfl)<|Za<|nl<|wp_ret<|rt rfl (.tmp rfl rfl .nil) ⟨⟨bs,bt,bf,rfl,?_,?_,?_,by omega,hg1,by omega⟩,k3⟩
 ·exact (hb2.ext hx3).chg hch4 (by omega)
 ·exact ((hb1.ext hx2).ext hx3).chg hch4 (by omega)
 ·exact hb4
abbrev TMem:=List (TState×Int)
def jl_sum (f:TMem→TState→Option (Int×TMem)):List TState→Int→TMem→Option (Int×TMem)
 | [],n,A=>some (n,A)
 | u::l,n,A=>(f A u) >>= fun q=>jl_sum f l (w64 (n + q.1)) q.2
def join_left (x:TTable):Nat→TMem→TState→Option (Int×TMem)
 | 0,_,_=>none
 | m + 1,A,s =>
  (shl .i64 1 (x.1.1.length:Int)) >>= fun p =>
  if decide (s.1=w64 (p - 1))=true then some (1,A)
  else
   (kok s) >>= fun _ =>
   if mhas A s=true then some (mget 0 A s,A)
   else (join_behind x s) >>= fun l=>(jl_sum (fun A u=>join_left x m A u) l 0 A) >>= fun r=>some (r.1,mput r.2 s r.1)
theorem zv2 (w:World):(zeroValue 2).run Tryz.prog w=.ok (fv (0:Int)) w:=TI.zv (α:=Int) (d:=0) ti2 rfl rfl w
set_option maxHeartbeats 8000000 in
theorem c226 {x:TTable}:∀ (m:Nat) {w0:World} {b ma mu N:Nat} {A:TMem} {s:TState} {r:Int×TMem},Tb N w0 b ma mu x→Mp w0 ma A→join_left x m A s=some r →
  Calls Tryz.prog 226 [.pointer (some ⟨b,0,none⟩),fv s].toArray w0 (Ret fun v w'=>v=.int .i64 r.1∧Mp w' ma r.2∧BelP (fun q=>q≠ma) w0.heap.size w0 w'):=by
 intro m
 induction m with
 | zero=>intro w0 b ma mu N A s r _ _ hF; rw [join_left] at hF; cases hF
 | succ m ih =>
  intro w0 b ma mu N A s r hT0 hm0 hF
  rw [join_left] at hF
  have hz:=Md.bs hF; obtain ⟨p,Ep,hF⟩:=hz
  refine entrM (m:=9) (n:=47) Tryz.func226 rfl rfl rfl<|Zr<|sbx rfl rfl fun bt w1 hx1 hg1 hb1=>sbx rfl (cells_fv s) fun bs w2 hx2 hg2 hb2=>?_
  have k2:=hx1.tr hx2
  have T2:=hT0.ext k2
  have hm2:=hm0.ext k2
  have hb1:=hb1.ext hx2
  have z1:=hx1.size
  have z2:=hx2.size
  have l1:=hb1.lt
  have l2:=hb2.lt
  have la:=hm0.lt
  have hz:=T2.pieces; obtain ⟨a1,c1,h4,hs4⟩:=hz
  refine Za<|nl<|wp_seq<|wp_seq<|wpl [] (.pure true 0 (.pure false 1 (.pure false 2 (.pure true 3 (.pure true 4 (.pure true 5 (.pure false 6 (.pure true 7 (.pure true 8 (.pure true 9 (.pure true 10 .fin))))))))))) mixed (by kernel_rfl) (fun wd hxd=>?_)
  have k3:=k2.tr hxd
  have ds:=hb2.ext hxd
  have dt:=hb1.ext hxd
  refine Zp rfl (fun _=>xfa rfl fa326_0)<|Zq rfl (fun _ hS=>xld rfl ti3 ((Bx.cs (ds.ext (hS.resolve_left nofun))).at 0 rfl)) (Ext.refl _)<|Zq rfl (fun _ hS=>xld rfl ti177 ((Bx.cs (dt.ext (hS.resolve_left nofun))).at 0 rfl)) (Ext.refl _)<|Zp rfl (fun _=>xnil rfl)<|Zp rfl (fun _=>xfa rfl fa199_0)<|Zp rfl (fun _=>xfa rfl fa48_0)<|Zq rfl (fun _ hS=>xld rfl ti46 (cell_ext (cell_ext h4 hxd) (hS.resolve_left nofun))) (Ext.refl _)<|?_
  refine Zp rfl (fun _=>xlen rfl Tryz.underlying46)<|Zp rfl (fun _=>xshl rfl rfl Ep)<|Zp rfl (fun _=>xsub rfl rfl)<|Zp rfl (fun _=>xeql rfl rfl)<|?_
  refine cnd rfl (fun hc=>?_) (fun hc=>?_)
  ·have hF:=ifp hF hc
   cases hF
   refine Zr<|Za<|nl<|wp_ret<|rtMs (B:=w0.heap.size) rfl Mks.nil fun w' hk=>⟨_,.tmp rfl rfl .nil,rfl,?_,?_⟩
   ·exact (hm2.ext hxd).tak hk
   ·exact (BelP.of k3 (Nat.le_refl _)).tak hk (Nat.le_refl _)
  have hF:=ifn hF hc
  have hz:=Md.bs hF; obtain ⟨_,Ek,hF⟩:=hz
  have hkey:=kok_spec Ek
  have hm3:=hm2.ext hxd
  have T3:=T2.ext hxd
  refine wp_skip<|wp_seq<|wp_seq<|wpl [] (.pure false 0 (.pure true 1 (.pure true 2 (.pure false 3 (.pure false 4 (.pure false 5 (.pure true 6 (.pure true 7 (.pure true 8 (.pure true 9 (.pure true 10 .fin))))))))))) mixed (by kernel_rfl) (fun we hxe=>?_)
  have es:=ds.ext hxe
  have et:=dt.ext hxe
  have Te:=T3.ext hxe
  have hme:=hm3.ext hxe
  have k4:=k3.tr hxe
  refine Zq rfl (fun _ hS=>xld rfl ti177 ((Bx.cs (et.ext (hS.resolve_left nofun))).at 0 rfl)) (Ext.refl _)<|Zp rfl (fun _=>xnil rfl)<|Zp rfl (fun _=>xfa rfl fa199_3)<|Zq rfl (fun _ hS=>xld rfl ti197 (cell_ext Te.ca (hS.resolve_left nofun))) (Ext.refl _)<|Zq rfl (fun _ hS=>xlda rfl ti326 (Flat.len s) (Bx.cs (es.ext (hS.resolve_left nofun)))) (Ext.refl _)<|?_
  refine Zq rfl (fun _ hS=>xlkuo (d:=(0:Int)) Tryz.underlying197 kt326 (zv2 _) (hme.ext (hS.resolve_left nofun)) hkey rfl rfl) (Ext.refl _)<|Zn rfl<|Zp rfl (fun _=>xext (vs:=[fv (mget 0 A s),.bool (mhas A s)]) rfl rfl)<|Zp rfl (fun _=>xext (vs:=[fv (mget 0 A s),.bool (mhas A s)]) rfl rfl)<|Zp rfl (fun _=>xas)<|Zp rfl (fun _=>xas)<|?_
  refine Zr<|Zm<|nl<|cnd rfl (fun hh=>?_) (fun hh=>?_)
  ·have hF:=ifp hF hh
   cases hF
   refine Zr<|Zm<|Za<|nl<|wp_ret<|rtMs (B:=w0.heap.size) rfl Mks.nil fun w' hk=>⟨_,.tmp rfl rfl .nil,rfl,?_,?_⟩
   ·exact hme.tak hk
   ·exact (BelP.of k4 (Nat.le_refl _)).tak hk (Nat.le_refl _)
  have hF:=ifn hF hh
  have hz:=Md.bs hF; obtain ⟨l,El,hF⟩:=hz
  have hz:=Md.bs hF; obtain ⟨r',Er,hF⟩:=hz
  cases hF
  refine wp_skip<|Zr<|sal ti2 fun b7 w4 hx4 hg4 hb4=>sst rfl rfl rfl ti2 hb4 rfl rfl (ble rfl) fun w5 hch5 hb5=>?_
  have kx5:Ext we w5:=hx4.chg hch5 hg4
  have k5:=k4.tr kx5
  have T5:=Te.ext kx5
  have hm5:=hme.ext kx5
  have fs:=es.ext kx5
  have ft:=et.ext kx5
  have h7:Bx w5 b7 2 [.int .i64 0]:=hb5
  refine nl<|wp_seq<|Zr<|Zv (xld rfl ti177 ((Bx.cs ft).at 0 rfl))<|Zv (xlda rfl ti326 (Flat.len s) (Bx.cs fs))<|Zc (xc cb229 (mc rfl<|mc rfl mn)) (c229 (b:=b) (s:=s)) fun v w6 hv=>?_
  obtain ⟨hbh,hx6⟩:=hv
  have k6:=k5.tr hx6
  have T6:=T5.ext hx6
  have hm6:=hm5.ext hx6
  have gs:=fs.ext hx6
  have gt:=ft.ext hx6
  have g7:=h7.ext hx6
  have y4:=k4.size
  have y5:=hx4.size
  have y6:=hx6.size
  have z5:=k5.size
  have z7:=h7.lt
  have zt:=dt.lt
  have zs:=ds.lt
  have ye:=hxe.size
  have yd:=hxd.size
  have hma6:ma<w6.heap.size:=by have:=hm6.lt; exact this
  have hNs:=hT0.size
  have hn7:b7≠ma:=fun e=>(hm5.not_cells h7) e.symm
  have hnt:bt≠ma:=fun e=>(hm6.not_cells gt) e.symm
  have hb7w0:w0.heap.size≤b7:=by omega
  have hseq:=hbh.go (N:=N) (ok:=fun q=>q≠ma∧q≠b7) T6 (fun q h1 h2 h3=>⟨h2,by omega⟩) (fun q h1=>⟨by omega,by omega⟩) El 8
  refine nl<|wp_block<|rangeB (α:=TState) (xs:=l) (m:=9) (by decide) rfl KpOk.belp hseq rfl rfl rfl ti326 rfl
   (fun k W=>∃ (n:Int) (A':TMem),jl_sum (fun A u=>join_left x m A u) (l.drop k) n A'=some r'∧Bx W b7 2 [.int .i64 n]∧Mp W ma A'∧BelP (fun q=>q≠ma∧q≠b7) w6.heap.size w6 W∧w6.heap.size≤W.heap.size)
   (fun _ _=>False) (fun k=>Okb.ex fun _=>Okb.ex fun _=>Okb.pure.and (Okb.bx.and ((Okb.mp hma6).and ((Okb.belp (Nat.le_refl _) (Nat.le_refl _)).and Okb.size)))) (fun _=>Okb.pure) ⟨0,A,Er,g7,hm6,BelP.refl,Nat.le_refl _⟩ ?round (fun k W h=>by obtain ⟨_,_,_,_,_,_,h⟩:=h; exact h) ?done (fun _ _ _ _ h _=>h.elim)
  case round =>
   rintro ll k u A1 W b8 hu ⟨n,A',hB,i1,i2,i3,i4⟩ hA hg8 hg8' hb8
   rw [drop_at hu,jl_sum] at hB
   have hz:=Md.bs hB; obtain ⟨q,Eq,hB⟩:=hz
   have i1:=i1.asg hA
   have i2:=i2.asg hA hma6
   have i3:=i3.asg hA i4 (Nat.le_refl _)
   have hW:w6.heap.size≤W.heap.size:=i3.size
   refine wpIn_block<|wplRS (fun wd w'=>BelP (fun q=>q≠ma) wd.heap.size wd w') [5] (.pure false 0 (.pure false 1 (.pure false 2 (.eff 3 (.pure true 4 (.eff 5 .fin .stop)) .stop)))) mixed (by kernel_rfl) (fun wg hxg=>?_)
   have j7:=i1.ext hxg
   have j8:=hb8.ext hxg
   have i3g:=i3.ext hxg hW
   have jt:=gt.belp i3g gt.lt ⟨hnt,by omega⟩
   have jm:=i2.ext hxg
   have Tg:=T6.belp i3g T6.size (fun q h1 h2 h3=>⟨h2,by omega⟩)
   have hn8:b8≠ma:=by omega
   refine Zq rfl (fun _ hS=>xld rfl ti2 ((Bx.cs (j7.belp (hS.resolve_left nofun) j7.lt hn7)).at 0 rfl)) BelP.refl<|Zq rfl (fun _ hS=>xld rfl ti177 ((Bx.cs (jt.belp (hS.resolve_left nofun) jt.lt hnt)).at 0 rfl)) BelP.refl<|Zq rfl (fun _ hS=>xlda rfl ti326 (Flat.len u) (Bx.cs (j8.belp (hS.resolve_left nofun) j8.lt hn8))) BelP.refl<|?_
   refine pe1 rfl<|Zc (xc cb226 (mc rfl<|mc rfl mn)) (ih Tg jm Eq) ?_
   rintro _ w7 ⟨rfl,hm7,hp7⟩
   have j77:=j7.belp hp7 j7.lt hn7
   refine nl ⟨fun _ h=>h.trans hp7,?_⟩
   refine Zp rfl (fun _=>xadd rfl rfl)<|pe1 rfl<|sst rfl rfl rfl ti2 j77 rfl rfl (ble rfl) fun w8 hch8 hb8'=>nl ⟨fun h=>(h (by decide)).elim,?_⟩
   have hg:=hxg.size
   have e1:BelP (fun q=>q≠ma∧q≠b7) w6.heap.size W w8:=((BelP.of hxg hW).trans (hp7.weak fun q h1 h2=>⟨by omega,h2.1⟩)).chg hch8 (.inr fun h=>h.2 rfl)
   refine ⟨((hxg.kf).trans (hp7.kf fun q h1=>by omega)).chgc hch8 (.inl (by omega)),e1,_,q.2,hB,hb8',hm7.chgb hch8 j77,i3.trans e1,?_⟩
   rw [hch8.size]
   exact Nat.le_trans hW (Nat.le_trans hg hp7.size)
  case done =>
   rintro D' W hD ⟨n,A',hB,i1,i2,i3,i4⟩ hK
   rw [List.drop_length,jl_sum] at hB
   cases hB
   have hs7:=gs.belp i3 gs.lt ⟨fun e=>(hm6.not_cells gs) e.symm,by omega⟩
   have ht7:=gt.belp i3 gt.lt ⟨hnt,by omega⟩
   have T7:=T6.belp i3 T6.size (fun q h1 h2 h3=>⟨h2,by omega⟩)
   refine wp_seq<|wpl [6] (.pure false 0 (.pure true 1 (.pure true 2 (.pure false 3 (.pure false 4 (.pure false 5 (.eff 6 .fin .stop))))))) mixed (by kernel_rfl) (fun wf hxf=>?_)
   have ks:=hs7.ext hxf
   have kt:=ht7.ext hxf
   have k7:=i1.ext hxf
   have Tf:=T7.ext hxf
   have hmf:=i2.ext hxf
   refine Zq rfl (fun _ hS=>xld rfl ti177 ((Bx.cs (kt.ext (hS.resolve_left nofun))).at 0 rfl)) (Ext.refl _)<|Zp rfl (fun _=>xnil rfl)<|Zp rfl (fun _=>xfa rfl fa199_3)<|Zq rfl (fun _ hS=>xld rfl ti197 (cell_ext Tf.ca (hS.resolve_left nofun))) (Ext.refl _)<|Zq rfl (fun _ hS=>xlda rfl ti326 (Flat.len s) (Bx.cs (ks.ext (hS.resolve_left nofun)))) (Ext.refl _)<|Zq rfl (fun _ hS=>xld rfl ti2 ((Bx.cs (k7.ext (hS.resolve_left nofun))).at 0 rfl)) (Ext.refl _)<|?_
   refine pe1 rfl<|smup (k:=s) (v:=n) rfl rfl rfl Tryz.underlying197 kt326 hmf hkey fun w8 hch8 hm8=>nl ⟨fun h=>(h (by decide)).elim,?_⟩
   have k8:=k7.chg hch8 hn7
   refine Zr<|Zv (xld rfl ti2 ((Bx.cs k8).at 0 rfl))<|Za<|nl<|?_
   have M:Mks w0.heap.size ({ target:=.collected D',args:=#[] }::[]) w8:=by
    have h1:Mks w0.heap.size ({ target:=.collected D',args:=#[] }::[]) W:=Mks.cons (w:=w6) Mks.nil Mks.nil (by omega) hD hK
    exact (h1.ext hxf).chg hch8 hmf.nd
   refine wp_ret<|rtMs rfl M fun w' hk=>⟨_,.tmp rfl rfl .nil,rfl,hm8.tak hk,?_⟩
   exact ((((BelP.of k6 (Nat.le_refl _)).trans (i3.weak fun q h1 h2=>⟨by omega,h2,by omega⟩)).ext hxf (by omega)).chg hch8 (.inr fun h=>h rfl)).tak hk (Nat.le_refl _)
end Go.Proofs.YtfmelbioccbdoaaGreat
end
section
namespace Go.Proofs.YtfmelbioccbdoaaGreat
open Go Go.Md Go.RowKit
attribute [local irreducible] Go.wpList Go.Code.wp Go.Calls Go.Md.Rnd Go.Md.Mt Go.Md.MtM Go.Md.RndM Go.Code.wpIn Go.wpListIn
theorem c117 {x:TTable} {m:Nat} {w0:World} {b ma mu N:Nat} {A:TMem} {r:Int×TMem} (hT:Tb N w0 b ma mu x) (hm:Mp w0 ma A) (hF:join_left x m A (0,-1)=some r) :
  Calls Tryz.prog 117 [.pointer (some ⟨b,0,none⟩)].toArray w0 (Ret fun v w'=>v=.int .i64 r.1∧Mp w' ma r.2∧BelP (fun q=>q≠ma) w0.heap.size w0 w'):=by
 refine entr (n:=6) Tryz.func117 rfl rfl rfl<|Zr<|Za<|nl<|Zr<|Zm<|Zv (xbdv (r:=[.int .i64 0,.int .i64 (-1)]) ti326 sp326 (pc rfl pn) rfl)<|Zc (xc cb226 (mc rfl<|mc rfl mn)) (c226 m hT hm hF) ?_
 rintro _ w1 ⟨rfl,h1,h2⟩
 refine Za<|nl<|wp_ret<|rt rfl (.tmp rfl rfl .nil) ⟨rfl,h1,h2⟩
def jc_sum (x:TTable) (f:TMem→TState→Option (Int×TMem)) (old last:Int):Nat→Nat→Int→TMem→Option (Int×TMem)
 | 0,_,n,U=>some (n,U)
 | m + 1,k,n,U =>
  (ix x.2.1 (k:Int)) >>= fun st=>(shr .i64 old st.1) >>= fun y =>
  if decide (band .i64 y 1=1)=true then
   (ix x.2.2.1.l (k:Int)) >>= fun r=>(ix r.l last) >>= fun z =>
   if decide (z=1)=true then (f U (old,(k:Int))) >>= fun q=>jc_sum x f old last m (k + 1) (w64 (n + q.1)) q.2
   else jc_sum x f old last m (k + 1) n U
  else jc_sum x f old last m (k + 1) n U
def join_come (x:TTable):Nat→TMem→TState→Option (Int×TMem)
 | 0,_,_=>none
 | m + 1,U,s =>
  (ix x.2.1 s.2) >>= fun st=>(shl .i64 1 st.1) >>= fun p =>
  if decide (bandn .i64 s.1 p=0)=true then some (1,U)
  else
   (kok s) >>= fun _ =>
   if mhas U s=true then some (mget 0 U s,U)
   else (jc_sum x (fun U u=>join_come x m U u) (bandn .i64 s.1 p) s.2 x.2.1.length 0 0 U) >>= fun r=>some (r.1,mput r.2 s r.1)
set_option maxHeartbeats 8000000 in
theorem c228 {x:TTable}:∀ (m:Nat) {w0:World} {b ma mu N:Nat} {U:TMem} {s:TState} {r:Int×TMem},Tb N w0 b ma mu x→Mp w0 mu U→join_come x m U s=some r →
  Calls Tryz.prog 228 [.pointer (some ⟨b,0,none⟩),fv s].toArray w0 (Ret fun v w'=>v=.int .i64 r.1∧Mp w' mu r.2∧BelP (fun q=>q≠mu) w0.heap.size w0 w'):=by
 intro m
 induction m with
 | zero=>intro w0 b ma mu N U s r _ _ hF; rw [join_come] at hF; cases hF
 | succ m ih =>
  intro w0 b ma mu N U s r hT0 hm0 hF
  rw [join_come] at hF
  have hz:=Md.bs hF; obtain ⟨st,Es,hF⟩:=hz
  have hz:=Md.bs hF; obtain ⟨p,Ep,hF⟩:=hz
  refine entr (n:=80) Tryz.func228 rfl rfl rfl<|Zr<|sbx rfl (cells_fv s) fun bs w1 hx1 hg1 hb1=>?_
  refine Za<|nl<|wp_seq<|wpl [] (.pure true 0 (.pure false 1 (.pure true 2 (.pure true 3 (.pure true 4 (.pure false 5 (.pure true 6 (.pure false 7 (.pure true 8 (.pure true 9 (.pure false 10 (.pure true 11 (.pure true 12 (.pure true 13 .fin)))))))))))))) mixed (by kernel_rfl) (fun wd hxd=>?_)
  have k3:=hx1.tr hxd
  have T3:=hT0.ext k3
  have hm3:=hm0.ext k3
  have ds:=hb1.ext hxd
  have hz:=T3.steps; obtain ⟨a1,c1,h4,hs4⟩:=hz
  have hz:=(RVo.sl.1 hs4); obtain ⟨a1',c1',e3,_,hcap,els⟩:=hz
  cases e3
  have hz:=Els.ix els Es; obtain ⟨b5,off5,cs5,rfl,i1,i2,q5,hc5⟩:=hz
  obtain rfl:=Flat.iff.1 q5
  refine Zp rfl (fun _=>xfa rfl fa326_0)<|Zq rfl (fun _ hS=>xld rfl ti3 ((Bx.cs (ds.ext (hS.resolve_left nofun))).at 0 rfl)) (Ext.refl _)<|Zn rfl<|Zp rfl (fun _=>xnil rfl)<|Zp rfl (fun _=>xfa rfl fa199_1)<|Zq rfl (fun _ hS=>xld rfl ti51 (cell_ext h4 (hS.resolve_left nofun))) (Ext.refl _)<|?_
  refine Zp rfl (fun _=>xfa rfl fa326_1)<|Zq rfl (fun _ hS=>xld rfl ti3 ((Bx.cs (ds.ext (hS.resolve_left nofun))).at 1 rfl)) (Ext.refl _)<|Zp rfl (fun _=>xixs rfl rfl Tryz.underlying51 ti56 i1 i2)<|Zp rfl (fun _=>xfa rfl fa56_0)<|Zq rfl (fun _ hS=>xld rfl ti3 ((hc5.ext (hS.resolve_left nofun)).at 0 rfl)) (Ext.refl _)<|Zp rfl (fun _=>xshl rfl rfl Ep)<|Zp rfl (fun _=>xandn rfl rfl)<|Zp rfl (fun _=>xas)<|?_
  refine wp_seq<|Zr<|Zm<|Zv (xeql rfl rfl)<|nl<|cnd rfl (fun hc=>?_) (fun hc=>?_)
  ·have hF:=ifp hF hc
   cases hF
   exact Zr<|Za<|nl<|wp_ret<|rt rfl (.tmp rfl rfl .nil) ⟨rfl,hm3,BelP.of k3 (Nat.le_refl _)⟩
  have hF:=ifn hF hc
  have hz:=Md.bs hF; obtain ⟨_,Ek,hF⟩:=hz
  have hkey:=kok_spec Ek
  generalize hold:bandn .i64 s.1 p=old at hF hc
  refine wp_skip<|wp_seq<|wp_seq<|wpl [] (.pure true 0 (.pure true 1 (.pure true 2 (.pure false 3 (.pure false 4 (.pure false 5 (.pure true 6 (.pure true 7 (.pure true 8 (.pure true 9 (.pure true 10 .fin))))))))))) mixed (by kernel_rfl) (fun we hxe=>?_)
  have es:=ds.ext hxe
  have Te:=T3.ext hxe
  have hme:=hm3.ext hxe
  have k4:=k3.tr hxe
  refine Zn rfl<|Zp rfl (fun _=>xnil rfl)<|Zp rfl (fun _=>xfa rfl fa199_4)<|Zq rfl (fun _ hS=>xld rfl ti197 (cell_ext Te.cu (hS.resolve_left nofun))) (Ext.refl _)<|Zq rfl (fun _ hS=>xlda rfl ti326 (Flat.len s) (Bx.cs (es.ext (hS.resolve_left nofun)))) (Ext.refl _)<|?_
  refine Zq rfl (fun _ hS=>xlkuo (d:=(0:Int)) Tryz.underlying197 kt326 (zv2 _) (hme.ext (hS.resolve_left nofun)) hkey rfl rfl) (Ext.refl _)<|Zn rfl<|Zp rfl (fun _=>xext (vs:=[fv (mget 0 U s),.bool (mhas U s)]) rfl rfl)<|Zp rfl (fun _=>xext (vs:=[fv (mget 0 U s),.bool (mhas U s)]) rfl rfl)<|Zp rfl (fun _=>xas)<|Zp rfl (fun _=>xas)<|?_
  refine Zr<|Zm<|nl<|cnd rfl (fun hh=>?_) (fun hh=>?_)
  ·have hF:=ifp hF hh
   cases hF
   exact Zr<|Zm<|Za<|nl<|wp_ret<|rt rfl (.tmp rfl rfl .nil) ⟨rfl,hme,BelP.of k4 (Nat.le_refl _)⟩
  have hF:=ifn hF hh
  have hz:=Md.bs hF; obtain ⟨r',Er,hF⟩:=hz
  cases hF
  have h5:=cell_ext h4 hxe
  have hl5:=hs4.ext hxe
  have hnb:bs≠mu:=fun e=>(hme.not_cells es) e.symm
  have z0:=k4.size
  refine wp_skip<|Zr<|Za<|nl<|wp_seq<|Zr<|Zm<|Zv (xnil rfl)<|Zv (xfa rfl fa199_1)<|Zv (xld rfl ti51 h5)<|Zv (xlen rfl Tryz.underlying51)<|Zm<|nl<|?_
  refine ct (fun L w=>L 8=.int .i64 r'.1∧L 0=.pointer (some ⟨b,0,none⟩)∧L 3=.pointer (some ⟨bs,0,none⟩)∧Mp w mu r'.2∧BelP (fun q=>q≠mu) we.heap.size we w) ?_ ?_
  ·refine wp_block<|lp (I:=fun m' L w=>∃ (k:Nat) (n:Int) (U':TMem),k + m'=x.2.1.length∧jc_sum x (fun U u=>join_come x m U u) old s.2 m' k n U'=some r'∧L 42=.int .i64 (k:Int)∧L 41=.int .i64 (x.2.1.length:Int)∧L 40=.slice (some ⟨b5,off5,none⟩) x.2.1.length c1∧L 5=.int .i64 old ∧
     L 8=.int .i64 n∧L 0=.pointer (some ⟨b,0,none⟩)∧L 3=.pointer (some ⟨bs,0,none⟩)∧Mp w mu U'∧BelP (fun q=>q≠mu) we.heap.size we w) x.2.1.length
    ⟨0,0,U,by simp,Er,rfl,rfl,rfl,rfl,rfl,rfl,rfl,hme,BelP.refl⟩ ?_
   clear Er hme
   rintro m' L w1 ⟨k,n,U',hk,hB,l42,l41,l40,l5,l8,l0,l3,hm,hx⟩
   refine Zr<|Zv (xlss l42 l41)<|nl<|wp_seq<|cnd rfl (fun hc0=>?_) (fun hc0=>?_)
   ·have hc0:(k:Int)<(x.2.1.length:Int):=by simpa using hc0
    obtain ⟨n',rfl⟩:∃ n',m'=n' + 1:=⟨m' - 1,by omega⟩
    rw [jc_sum] at hB
    have hz:=Md.bs hB; obtain ⟨st1,Es1,hB⟩:=hz
    have hz:=Md.bs hB; obtain ⟨y,Ey,hB⟩:=hz
    have hadd:w64 ((k:Int) + 1)=((k + 1:Nat):Int):=by
     have hmx:x.2.1.length≤maxLen:=by omega
     rw [w64,IntWalk.i64_in _ (by unfold maxLen at hmx; omega)]
     rfl
    have sl1:RVo (fun q=>q<N∧q≠ma∧q≠mu) w1 (.slice (some ⟨b5,off5,none⟩) x.2.1.length c1) x.2.1:=hl5.keep (fun q hq h=>hx.block q h hq.2.2) hx.size
    have hz:=ix2 sl1.rv Es1; obtain ⟨cs6,i3,i4,q6,hc6⟩:=hz
    obtain rfl:=Flat.iff.1 q6
    refine wp_skip<|wp_seq<|wp_block<|Zr<|Zm<|Zv (xixs l40 l42 Tryz.underlying51 ti56 i3 i4)<|Zv (xlda rfl ti56 rfl hc6)<|sal ti56 fun b10 w2 hx2 hg2 hb2=>?_
    refine Zv (xasa l42)<|sst rfl rfl rfl ti56 hb2 rfl rfl (ble rfl) fun w3 hch3 hb3=>?_
    have kx3:Ext w1 w3:=hx2.chg hch3 hg2
    have hbx:Bx w3 b10 56 (Flat.enc st1):=hb3
    refine nl<|wp_seq<|wpl [] (.pure true 0 (.pure true 1 (.pure false 2 (.pure true 3 (.pure true 4 (.pure true 5 (.pure true 6 (.pure true 7 (.pure true 8 (.pure true 9 (.pure false 10 (.pure true 11 (.pure true 12 (.pure true 13 (.pure true 14 (.pure false 15 (.pure true 16 (.pure true 17 .fin)))))))))))))))))) mixed (by kernel_rfl) (fun wg hxg=>?_)
    have kxg:=kx3.tr hxg
    have hxg':=hx.ext kxg hx.size
    have dg:=hbx.ext hxg
    have sg:=es.belp hxg' es.lt hnb
    have Tg:=Te.belp hxg' Te.size (fun q h1 h2 h3=>h3)
    have mg:=hm.ext kxg
    refine Zp rfl (fun _=>xmva l5)<|Zp rfl (fun _=>xfa rfl fa56_0)<|Zq rfl (fun _ hS=>xld rfl ti3 ((Bx.cs (dg.ext (hS.resolve_left nofun))).at 0 rfl)) (Ext.refl _)<|Zp rfl (fun _=>xshr rfl rfl Ey)<|Zp rfl (fun _=>xand rfl rfl)<|Zp rfl (fun _=>xeql rfl rfl)<|Zn rfl<|?_
    refine Or.elim (Bool.eq_false_or_eq_true (decide (band .i64 y 1=1))) (fun hg=>?_) (fun hg=>?_)
    ·have hB:=ifp hB hg
     have hz:=Md.bs hB; obtain ⟨r,Er,hB⟩:=hz
     have hz:=Md.bs hB; obtain ⟨z,Ez,hB⟩:=hz
     have hz:=ixar Tg.fits Er; obtain ⟨j1,j2,hc1⟩:=hz
     have hz:=ixar (X:=r) hc1 Ez; obtain ⟨j3,j4,hc2⟩:=hz
     refine Zt rfl rfl rfl rfl (Md.bt hg) (fun _=>xmva l0)<|Zt rfl rfl rfl rfl (Md.bt hg) (fun _=>xmv)<|Zt rfl rfl rfl rfl (Md.bt hg) (fun _=>xfa l3 fa326_1)<|pvt rfl rfl rfl rfl rfl rfl (Md.bt hg) rfl (fun _ hS=>xld rfl ti3 ((Bx.cs (sg.ext (hS.resolve_left nofun))).at 1 rfl)) (.inr (Ext.refl _))<|Zt rfl rfl rfl rfl (Md.bt hg) (fun _=>xnil rfl)<|?_
     refine Zt rfl rfl rfl rfl (Md.bt hg) (fun _=>xfa rfl fa199_2)<|Zt rfl rfl rfl rfl (Md.bt hg) (fun _=>xixa rfl rfl Tryz.underlying196 ti195 j1 j2)<|Zt rfl rfl rfl rfl (Md.bt hg) (fun _=>xixa rfl rfl Tryz.underlying195 ti3 j3 j4)<|pvt rfl rfl rfl rfl rfl rfl (Md.bt hg) rfl (fun _ hS=>xld rfl ti3 ((hc2.ext (hS.resolve_left nofun)).at 0 rfl)) (.inr (Ext.refl _))<|Zt rfl rfl rfl rfl (Md.bt hg) (fun _=>xeql rfl rfl)<|?_
     refine Zp rfl (fun _=>xpt rfl hg rfl)<|?_
     refine cnd rfl (fun hf=>?_) (fun hf=>?_)
     ·have hB:=ifp hB hf
      have hz:=Md.bs hB; obtain ⟨q,Eq,hB⟩:=hz
      refine rg<|Zv (xmva l8)<|Zv (xmva l0)<|Zv (xmva l5)<|Zm<|Zv (xbdv (r:=[.int .i64 old,.int .i64 (k:Int)]) ti326 sp326 (pc rfl (pc rfl pn)) rfl)<|Zc (xc cb228 (mc rfl<|mc rfl mn)) (ih Tg mg Eq) ?_
      rintro _ w5 ⟨rfl,hm5,hp5⟩
      refine Zv (xadd rfl rfl)<|Za<|nl<|rg<|Zv (xadd l42 rfl)<|Zm<|nl<|?_
      have hsz:=hxg'.size
      exact lq n' (Nat.lt_succ_self _) ⟨k + 1,_,q.2,by omega,hB,congrArg _ hadd,l41,l40,l5,rfl,l0,l3,hm5,hxg'.trans (hp5.mono hsz)⟩
     ·have hB:=ifn hB hf
      refine wp_skip<|rg<|Zv (xadd l42 rfl)<|Zm<|nl<|?_
      exact lq n' (Nat.lt_succ_self _) ⟨k + 1,n,U',by omega,hB,congrArg _ hadd,l41,l40,l5,l8,l0,l3,mg,hxg'⟩
    ·have hB:=ifn hB hg
     refine Zf rfl rfl rfl rfl (bft hg)<|Zf rfl rfl rfl rfl (bft hg)<|Zf rfl rfl rfl rfl (bft hg)<|pvf rfl rfl rfl rfl rfl rfl (bft hg) rfl (.inr (Ext.refl _))<|Zf rfl rfl rfl rfl (bft hg)<|Zf rfl rfl rfl rfl (bft hg)<|Zf rfl rfl rfl rfl (bft hg)<|Zf rfl rfl rfl rfl (bft hg)<|pvf rfl rfl rfl rfl rfl rfl (bft hg) rfl (.inr (Ext.refl _))<|Zf rfl rfl rfl rfl (bft hg)<|?_
     refine Zp rfl (fun _=>xpf rfl hg rfl)<|?_
     refine cnd rfl (fun hf=>by cases hf) (fun hf=>?_)
     refine wp_skip<|rg<|Zv (xadd l42 rfl)<|Zm<|nl<|?_
     exact lq n' (Nat.lt_succ_self _) ⟨k + 1,n,U',by omega,hB,congrArg _ hadd,l41,l40,l5,l8,l0,l3,mg,hxg'⟩
   ·have hc0:¬ (k:Int)<(x.2.1.length:Int):=by simpa using hc0
    obtain rfl:m'=0:=by omega
    rw [jc_sum] at hB
    cases hB
    exact wp_exit<|lf ⟨l8,l0,l3,hm,hx⟩
  rintro L w5 ⟨l8,l0,l3,hm,hx⟩
  refine wp_seq<|wpl [6] (.pure true 0 (.pure true 1 (.pure true 2 (.pure false 3 (.pure false 4 (.pure true 5 (.eff 6 .fin .stop))))))) mixed (by kernel_rfl) (fun wf hxf=>?_)
  have hxf':=hx.ext hxf hx.size
  have ks:=es.belp hxf' es.lt hnb
  have Tf:=Te.belp hxf' Te.size (fun q h1 h2 h3=>h3)
  have hmf:=hm.ext hxf
  refine Zp rfl (fun _=>xmva l0)<|Zp rfl (fun _=>xnil rfl)<|Zp rfl (fun _=>xfa rfl fa199_4)<|Zq rfl (fun _ hS=>xld rfl ti197 (cell_ext Tf.cu (hS.resolve_left nofun))) (Ext.refl _)<|Zq rfl (fun _ hS=>xlda l3 ti326 (Flat.len s) (Bx.cs (ks.ext (hS.resolve_left nofun)))) (Ext.refl _)<|Zp rfl (fun _=>xmva l8)<|?_
  refine pe1 rfl<|smup (k:=s) (v:=r'.1) rfl rfl rfl Tryz.underlying197 kt326 hmf hkey fun w8 hch8 hm8=>nl ⟨fun h=>(h (by decide)).elim,?_⟩
  refine Zr<|Zv (xmva l8)<|Za<|nl<|wp_ret<|rt rfl (.tmp rfl rfl .nil) ⟨rfl,hm8,?_⟩
  exact ((BelP.of k4 (Nat.le_refl _)).trans (hxf'.mono z0)).chg hch8 (.inr fun h=>h rfl)
end Go.Proofs.YtfmelbioccbdoaaGreat
end
section
namespace Go.Proofs.YtfmelbioccbdoaaGreat
open Go Go.Md Go.RowKit
attribute [local irreducible] Go.wpList Go.Code.wp Go.Calls Go.Md.Rnd Go.Md.Mt Go.Md.MtM Go.Md.RndM Go.Code.wpIn Go.wpListIn
def js_from (own step:Int):Nat→Nat→List TState
 | 0,_=>[]
 | n + 1,k=>if (!decide (band .i64 (k:Int) own=0))=true then ((k:Int),step)::js_from own step n (k + 1) else js_from own step n (k + 1)
def join_states (x:TTable) (step:Int):Option (List TState) :=
 (ix x.2.1 step) >>= fun st=>(shl .i64 1 st.1) >>= fun own=>(shl .i64 1 (x.1.1.length:Int)) >>= fun top =>
 if decide (0≤top∧top≤1000000)=true then some (js_from own step top.toNat 0) else none
set_option maxHeartbeats 8000000 in
theorem seq308 {m:Nat} {w:World} {bt b3 b ma mu N:Nat} {ok:Nat→Prop} {x:TTable} {step:Int} {l:List TState} (ht:Bx w bt 177 [.pointer (some ⟨b,0,none⟩)]) (h3:Bx w b3 3 [.int .i64 step])
  (n1:ok bt) (n2:ok b3) (hT:Tb N w b ma mu x) (hok:∀ q,q<N→q≠ma→q≠mu→ok q) (hL:join_states x step=some l) :
  SeqP Tryz.prog (BelP ok w.heap.size) m 308 #[.pointer (some ⟨bt,0,none⟩),.pointer (some ⟨b3,0,none⟩)] (l.map fun u=>#[fv u]) w:=by
 intro ll J Jx W kW hJ hJx hY h0
 have KW:BelP ok w.heap.size w W:=BelP.of kW (Nat.le_refl _)
 have TW:=hT.ext kW
 have dtW:=ht.ext kW
 have d3W:=h3.ext kW
 refine (callsIn_wide.2 ?_:CallsIn Fence.wide m Tryz.prog 308 ([.func (.yield ll) #[] #[],.pointer (some ⟨bt,0,none⟩),.pointer (some ⟨b3,0,none⟩)].toArray) W _)
 refine Calls.mono (R:=Ret fun v W'=>J (l.map fun u=>#[fv u]).length W'∨Jx W') ?_ ?_
 rotate_left
 ·rintro e W' ⟨v,rfl,h⟩
  exact ⟨⟨v,rfl⟩,h⟩
 unfold join_states at hL
 have hz:=Md.bs hL; obtain ⟨st,Es,hL⟩:=hz
 have hz:=Md.bs hL; obtain ⟨own,Eo,hL⟩:=hz
 have hz:=Md.bs hL; obtain ⟨top,Et,hL⟩:=hz
 have hz:=ifs hL; obtain ⟨htop,hL⟩:=hz
 cases hL
 have htop:0≤top∧top≤1000000:=by simpa using htop
 refine entr (n:=38) Tryz.func308 rfl rfl rfl<|wp_seq<|wpl [] (.pure false 0 (.pure true 1 (.pure true 2 (.pure false 3 (.pure false 4 (.pure true 5 (.pure true 6 (.pure false 7 (.pure true 8 (.pure true 9 .fin)))))))))) mixed (by kernel_rfl) (fun wd hxd=>?_)
 have dt:=dtW.ext hxd
 have d3:=d3W.ext hxd
 have Td:=TW.ext hxd
 have hz:=Td.steps; obtain ⟨a1,c1,h4,hs4⟩:=hz
 have hz:=(RVo.sl.1 hs4); obtain ⟨a1',c1',e3,_,hcap,els⟩:=hz
 cases e3
 have hz:=Els.ix els Es; obtain ⟨b5,off5,cs5,rfl,i1,i2,q5,hc5⟩:=hz
 obtain rfl:=Flat.iff.1 q5
 have hz:=Td.pieces; obtain ⟨a6,c6,h6,hs6⟩:=hz
 refine Zq rfl (fun _ hS=>xld rfl ti177 ((Bx.cs (dt.ext (hS.resolve_left nofun))).at 0 rfl)) (Ext.refl _)<|Zp rfl (fun _=>xnil rfl)<|Zp rfl (fun _=>xfa rfl fa199_1)<|Zq rfl (fun _ hS=>xld rfl ti51 (cell_ext h4 (hS.resolve_left nofun))) (Ext.refl _)<|Zq rfl (fun _ hS=>xld rfl ti3 ((Bx.cs (d3.ext (hS.resolve_left nofun))).at 0 rfl)) (Ext.refl _)<|?_
 refine Zp rfl (fun _=>xixs rfl rfl Tryz.underlying51 ti56 i1 i2)<|Zp rfl (fun _=>xfa rfl fa56_0)<|Zq rfl (fun _ hS=>xld rfl ti3 ((hc5.ext (hS.resolve_left nofun)).at 0 rfl)) (Ext.refl _)<|Zp rfl (fun _=>xshl rfl rfl Eo)<|Zp rfl (fun _=>xas)<|?_
 refine Zr<|Zv (xld rfl ti177 ((Bx.cs dt).at 0 rfl))<|Zv (xnil rfl)<|Zv (xfa rfl fa199_0)<|Zv (xfa rfl fa48_0)<|Zv (xld rfl ti46 h6)<|Zv (xlen rfl Tryz.underlying46)<|Zv (xshl rfl rfl Et)<|Zm<|nl<|?_
 have hjd:J 0 wd:=hJ 0 _ _ h0 hxd
 have Kd:BelP ok w.heap.size w wd:=BelP.of (kW.tr hxd) (Nat.le_refl _)
 refine wp_block<|lp (I:=fun m' L w1=>∃ (k:Nat) (pre:List TState),k + m'=top.toNat∧js_from own step top.toNat 0=pre++js_from own step m' k∧L 22=.int .i64 (k:Int)∧L 21=.int .i64 top∧L 4=.int .i64 own∧L 0=.func (.yield ll) #[] #[]∧L 1=.pointer (some ⟨bt,0,none⟩)∧L 2=.pointer (some ⟨b3,0,none⟩)∧J pre.length w1∧BelP ok w.heap.size w w1) top.toNat
  ⟨0,[],by simp,rfl,rfl,rfl,rfl,rfl,rfl,rfl,hjd,Kd⟩ ?_
 rintro m' L w1 ⟨k,pre,hk,hl,l22,l21,l4,l0,l1,l2,hj,hx⟩
 refine Zr<|Zv (xlss l22 l21)<|nl<|wp_seq<|cnd rfl (fun hc0=>?_) (fun hc0=>?_)
 ·have hc0:(k:Int)<top:=by simpa using hc0
  obtain ⟨n,rfl⟩:∃ n,m'=n + 1:=⟨m' - 1,by omega⟩
  rw [js_from] at hl
  have hadd:w64 ((k:Int) + 1)=((k + 1:Nat):Int):=by
   rw [w64,IntWalk.i64_in _ (by omega)]
   rfl
  have d31:=h3.belp hx h3.lt n2
  refine wp_skip<|wp_seq<|wp_block<|Zr<|Zv (xmva l22)<|Za<|nl<|wp_seq<|rgW (m:=m)<|vlW rfl rfl nofun xmv<|vlW rfl rfl nofun (xmva l4)<|vlW rfl rfl nofun (xand rfl rfl)<|vlW rfl rfl nofun (xneq rfl rfl)<|vlW rfl rfl nofun xmv<|?_
  refine Or.elim (Bool.eq_false_or_eq_true (!decide (band .i64 (k:Int) own=0))) (fun hg=>?_) (fun hg=>?_)
  ·rw [if_pos hg] at hl
   have hus:((js_from own step top.toNat 0).map fun u=>(#[fv u]:Array Value))[pre.length]?=some #[fv (((k:Int),step):TState)]:=by
    rw [List.getElem?_map,hl,List.getElem?_append_right (Nat.le_refl _),Nat.sub_self]
    rfl
   have hz:=hY pre.length _ w1 hus hj; obtain ⟨fn,tmps,assign,body,hy,hR⟩:=hz
   refine gtW rfl rfl rfl rfl rfl (Md.bt hg)<|vlW rfl rfl nofun (xmva l0)<|gtW rfl rfl rfl rfl rfl (Md.bt hg)<|vlW rfl rfl nofun xmv<|gtW rfl rfl rfl rfl rfl (Md.bt hg)<|vlW rfl rfl nofun (xld l2 ti3 ((Bx.cs d31).at 0 rfl))<|gtW rfl rfl rfl rfl rfl (Md.bt hg)<|vlW rfl rfl nofun (xbdv (r:=[.int .i64 (k:Int),.int .i64 step]) ti326 sp326 (pc rfl (pc rfl pn)) rfl)<|?_
   refine gtW rfl rfl rfl rfl rfl (Md.bt hg)<|ylW rfl rfl nofun (xyl rfl (mc rfl mn) hy) hR fun e w5 he=>?_
   rcases he with ⟨rfl,hj5,k5⟩ | ⟨rfl,hj5⟩
   ·refine ⟨_,rfl,gtW rfl rfl rfl rfl rfl (Md.bt hg)<|vlW rfl rfl nofun (xnot rfl)<|vlW rfl rfl nofun (xpt rfl hg rfl)<|nlW<|cnd rfl (fun h=>by cases h) (fun _=>?_)⟩
    refine wp_skip<|rg<|Zv (xadd l22 rfl)<|Zm<|nl<|?_
    refine lq n (Nat.lt_succ_self _) ⟨k + 1,pre++[((k:Int),step)],by omega,by rw [hl,List.append_assoc]; rfl,congrArg _ hadd,l21,l4,l0,l1,l2,?_,hx.trans k5⟩
    rw [List.length_append]
    exact hj5
   ·refine ⟨_,rfl,gtW rfl rfl rfl rfl rfl (Md.bt hg)<|vlW rfl rfl nofun (xnot rfl)<|vlW rfl rfl nofun (xpt rfl hg rfl)<|nlW<|cnd rfl (fun _=>?_) (fun h=>by cases h)⟩
    exact wp_ret<|rt rfl .nil (.inr hj5)
  ·rw [if_neg (by rw [hg]; simp)] at hl
   refine gfW rfl rfl rfl rfl rfl (bft hg) rfl<|gfW rfl rfl rfl rfl rfl (bft hg) rfl<|gfW rfl rfl rfl rfl rfl (bft hg) rfl<|gfW rfl rfl rfl rfl rfl (bft hg) rfl<|gfW rfl rfl rfl rfl rfl (bft hg) rfl<|gfW rfl rfl rfl rfl rfl (bft hg) rfl<|vlW rfl rfl nofun (xpf rfl hg rfl)<|nlW<|cnd rfl (fun h=>by cases h) (fun _=>?_)
   refine wp_skip<|rg<|Zv (xadd l22 rfl)<|Zm<|nl<|?_
   exact lq n (Nat.lt_succ_self _) ⟨k + 1,pre,by omega,hl,congrArg _ hadd,l21,l4,l0,l1,l2,hj,hx⟩
 ·have hc0:¬ (k:Int)<top:=by simpa using hc0
  obtain rfl:m'=0:=by omega
  rw [js_from] at hl
  refine wp_exit<|rtn rfl .nil (.inl ?_)
  rw [List.length_map,hl,List.append_nil]
  exact hj
def StV (lo:Nat) (w:World) (v:Value) (step:Int) (b:Nat):Prop:=∃ bt b3,v=.func (.func 308) #[] #[.pointer (some ⟨bt,0,none⟩),.pointer (some ⟨b3,0,none⟩)] ∧
 Bx w bt 177 [.pointer (some ⟨b,0,none⟩)]∧Bx w b3 3 [.int .i64 step]∧lo≤bt∧lo≤b3
theorem StV.go {lo:Nat} {w:World} {v:Value} {step:Int} {b ma mu N:Nat} {ok:Nat→Prop} {x:TTable} {l:List TState} (h:StV lo w v step b) (hT:Tb N w b ma mu x) (hok:∀ q,q<N→q≠ma→q≠mu→ok q) (hlo:∀ q,lo≤q→ok q) (hL:join_states x step=some l) (m:Nat) :
  ∃ gf cs,v=.func (.func gf) #[] cs∧Callable Tryz.prog gf∧SeqP Tryz.prog (BelP ok w.heap.size) m gf cs (l.map fun u=>#[fv u]) w:=by
 obtain ⟨bt,b3,rfl,h2,h3,h5,h6⟩:=h
 exact ⟨308,_,rfl,cb308,seq308 h2 h3 (hlo _ h5) (hlo _ h6) hT hok hL⟩
theorem c227 {w0:World} {b:Nat} {step:Int}:Calls Tryz.prog 227 [.pointer (some ⟨b,0,none⟩),.int .i64 step].toArray w0 (Ret fun v w'=>StV w0.heap.size w' v step b∧Ext w0 w'):=by
 refine entr (n:=6) Tryz.func227 rfl rfl rfl<|Zr<|sbx rfl rfl fun bt w1 hx1 hg1 hb1=>sbx rfl rfl fun b3 w2 hx2 hg2 hb2=>?_
 have s1:=hx1.size
 refine Za<|nl<|Zr<|Zv (xmf (l:=[]) (k:=[.pointer (some ⟨bt,0,none⟩),.pointer (some ⟨b3,0,none⟩)]) rfl rfl)<|Za<|nl<|wp_ret<|rt rfl (.tmp rfl rfl .nil) ⟨⟨bt,b3,rfl,hb1.ext hx2,hb2,hg1,by omega⟩,hx1.tr hx2⟩
def jj_run (x:TTable) (m:Nat):List TState→TMem→TMem→Option (Bool×TMem×TMem)
 | [],A,U=>some (false,A,U)
 | s::l,A,U =>
  (join_come x m U s) >>= fun q =>
  if decide (0<q.1)=true then
   (join_left x m A s) >>= fun p =>
   if decide (0<p.1)=true then some (true,p.2,q.2) else jj_run x m l p.2 q.2
  else jj_run x m l A q.2
def join_joined (x:TTable) (m:Nat) (A U:TMem) (step:Int):Option (Bool×TMem×TMem):=(join_states x step) >>= fun l=>jj_run x m l A U
set_option maxHeartbeats 8000000 in
theorem c273 {x:TTable} {m:Nat} {w0:World} {b ma mu N:Nat} {A U:TMem} {step:Int} {r:Bool×TMem×TMem} (hT0:Tb N w0 b ma mu x) (ha0:Mp w0 ma A) (hu0:Mp w0 mu U) (hF:join_joined x m A U step=some r) :
  Calls Tryz.prog 273 [.pointer (some ⟨b,0,none⟩),.int .i64 step].toArray w0 (Ret fun v w'=>v=.bool r.1∧Mp w' ma r.2.1∧Mp w' mu r.2.2∧BelP (fun q=>q≠ma∧q≠mu) w0.heap.size w0 w'):=by
 unfold join_joined at hF
 have hz:=Md.bs hF; obtain ⟨l,El,hF⟩:=hz
 refine entrM (m:=9) (n:=23) Tryz.func273 rfl rfl rfl<|Zr<|sbx rfl rfl fun bt w1 hx1 hg1 hb1=>sal ti4 fun b4 w2 hx2 hg2 hb2=>?_
 have k2:=hx1.tr hx2
 have hb1:=hb1.ext hx2
 refine nl<|Zr<|Zv (xld rfl ti177 ((Bx.cs hb1).at 0 rfl))<|Zv (xmf (l:=[.pointer (some ⟨b,0,none⟩)]) (k:=[]) rfl rfl)<|sal ti324 fun b5 w3 hx3 hg3 hb3=>sst rfl rfl rfl ti324 hb3 rfl rfl (ble rfl) fun w4 hch4 hb4=>?_
 have kx4:Ext w2 w4:=hx3.chg hch4 hg3
 have k4:=k2.tr kx4
 have h5:Bx w4 b5 324 [.func (.func 226) #[.pointer (some ⟨b,0,none⟩)] #[]]:=hb4
 have ht4:=hb1.ext kx4
 have h44:=hb2.ext kx4
 refine nl<|wp_seq<|Zr<|Zv (xld rfl ti177 ((Bx.cs ht4).at 0 rfl))<|Zm<|Zc (xc cb227 (mc rfl<|mc rfl mn)) (c227 (b:=b) (step:=step)) fun v w6 hv=>?_
 obtain ⟨hst,hx6⟩:=hv
 have k6:=k4.tr hx6
 have T6:=hT0.ext k6
 have ha6:=ha0.ext k6
 have hu6:=hu0.ext k6
 have g5:=h5.ext hx6
 have gt:=ht4.ext hx6
 have g4:=h44.ext hx6
 have z6:=k6.size
 have la:=ha0.lt
 have lu:=hu0.lt
 have lb:=hb2.lt
 have zb:w0.heap.size≤b4:=by have:=hx1.size; omega
 have na5:b5≠ma:=fun e=>(ha6.not_cells g5) e.symm
 have nu5:b5≠mu:=fun e=>(hu6.not_cells g5) e.symm
 have nat:bt≠ma:=fun e=>(ha6.not_cells gt) e.symm
 have nut:bt≠mu:=fun e=>(hu6.not_cells gt) e.symm
 have na4:b4≠ma:=fun e=>(ha6.not_cells g4) e.symm
 have nu4:b4≠mu:=fun e=>(hu6.not_cells g4) e.symm
 have lt5:=g5.lt
 have ltt:=gt.lt
 have lt4:=g4.lt
 have hla6:ma<w6.heap.size:=by omega
 have hlu6:mu<w6.heap.size:=by omega
 have hseq:=hst.go (N:=N) (ok:=fun q=>q≠ma∧q≠mu) T6 (fun q h1 h2 h3=>⟨h2,h3⟩) (fun q h1=>by have:=k4.size; exact ⟨by omega,by omega⟩) El 8
 refine nl<|wp_block<|rangeB (α:=TState) (xs:=l) (m:=9) (by decide) rfl KpOk.belp hseq rfl rfl rfl ti326 rfl
  (fun k W=>∃ (A' U':TMem),jj_run x m (l.drop k) A' U'=some r∧Mp W ma A'∧Mp W mu U'∧BelP (fun q=>q≠ma∧q≠mu) w6.heap.size w6 W∧w6.heap.size≤W.heap.size)
  (fun c W=>c=.ret∧r.1=true∧Bx W b4 4 [.bool true]∧Mp W ma r.2.1∧Mp W mu r.2.2∧BelP (fun q=>q≠ma∧q≠mu∧q≠b4) w6.heap.size w6 W)
  (fun k=>Okb.ex fun _=>Okb.ex fun _=>Okb.pure.and ((Okb.mp hla6).and ((Okb.mp hlu6).and ((Okb.belp (Nat.le_refl _) (Nat.le_refl _)).and Okb.size))))
  (fun c=>Okb.pure.and (Okb.pure.and (Okb.bx.and ((Okb.mp hla6).and ((Okb.mp hlu6).and (Okb.belp (Nat.le_refl _) (Nat.le_refl _))))))) ⟨A,U,hF,ha6,hu6,BelP.refl,Nat.le_refl _⟩ ?round (fun k W h=>by obtain ⟨_,_,_,_,_,_,h⟩:=h; exact h) ?done ?stop
 case round =>
  rintro ll k u A1 W b8 hu ⟨A',U',hB,i1,i2,i3,i4⟩ hA hg8 hg8' hb8
  rw [drop_at hu,jj_run] at hB
  have hz:=Md.bs hB; obtain ⟨q,Eq,hB⟩:=hz
  have i1:=i1.asg hA hla6
  have i2:=i2.asg hA hlu6
  have i3:=i3.asg hA i4 (Nat.le_refl _)
  have hW:w6.heap.size≤W.heap.size:=i3.size
  have jt:=gt.belp i3 ltt ⟨nat,nut⟩
  have j5:=g5.belp i3 lt5 ⟨na5,nu5⟩
  have j4:=g4.belp i3 lt4 ⟨na4,nu4⟩
  have Tg:=T6.belp i3 T6.size (fun q h1 h2 h3=>⟨h2,h3⟩)
  have na8:b8≠ma:=by omega
  have nu8:b8≠mu:=by omega
  refine wpIn_block<|wpIn_seq<|rgR rfl<|Zv (xld rfl ti177 ((Bx.cs jt).at 0 rfl))<|Zv (xlda rfl ti326 (Flat.len u) (Bx.cs hb8))<|Zc (xc cb228 (mc rfl<|mc rfl mn)) (c228 m Tg i2 Eq) ?_
  rintro _ w7 ⟨rfl,hu7,hp7⟩
  refine Zv (xgtr rfl rfl)<|Zm<|?_
  have hma7:=i1.belp hp7 (by have:=i1.lt; exact this) (fun e=>Tg.ne e)
  have p7:BelP (fun q=>q≠ma∧q≠mu) w6.heap.size W w7:=hp7.weak fun q h1 h2=>⟨by omega,h2.2⟩
  refine Or.elim (Bool.eq_false_or_eq_true (decide (0<q.1))) (fun hg=>?_) (fun hg=>?_)
  ·have hB:=ifp hB hg
   have hz:=Md.bs hB; obtain ⟨p,Ep,hB⟩:=hz
   have t7:=Tg.belp hp7 Tg.size (fun q h1 h2 h3=>h3)
   have b57:=j5.belp hp7 j5.lt nu5
   have b87:=hb8.belp hp7 hb8.lt nu8
   refine gtk rfl rfl rfl rfl rfl (Md.bt hg)<|Zv (xld rfl ti324 ((Bx.cs b57).at 0 rfl))<|gtk rfl rfl rfl rfl rfl (Md.bt hg)<|Zv (xlda rfl ti326 (Flat.len u) (Bx.cs b87))<|gtk rfl rfl rfl rfl rfl (Md.bt hg)<|Zc (xcv (fs:=[.pointer (some ⟨b,0,none⟩)]) (cs:=[]) rfl cb226 (mc rfl mn) rfl) (c226 m t7 hma7 Ep) ?_
   rintro _ w8 ⟨rfl,hm8,hp8⟩
   have hs7:=hp7.size
   have hs8:=hp8.size
   have p8:BelP (fun q=>q≠ma∧q≠mu) w6.heap.size W w8:=p7.trans (hp8.weak fun q h1 h2=>⟨by omega,h2.1⟩)
   have hu8:=hu7.belp hp8 hu7.lt (fun e=>Tg.ne e.symm)
   have kf8:KeepsFrom w6.heap.size W w8:=(hp7.kf fun q h1=>by omega).trans (hp8.kf fun q h1=>by omega)
   refine gtk rfl rfl rfl rfl rfl (Md.bt hg)<|Zv (xgtr rfl rfl)<|Zv (xpt rfl hg rfl)<|nl<|?_
   refine cndR rfl (fun hf=>?_) (fun hf=>?_)
   ·have hB:=ifp hB hf
    cases hB
    have j48:=g4.belp (i3.trans p8) lt4 ⟨na4,nu4⟩
    refine wpIn_seq<|rgR rfl<|sst rfl rfl rfl ti4 j48 rfl rfl (ble rfl) fun w9 hch9 hb9=>nl<|wpIn_ret ⟨kf8.chgc hch9 (.inl lt4),rfl,rfl,hb9,hm8.chgb hch9 j48,hu8.chgb hch9 j48,?_⟩
    exact ((i3.trans p8).weak fun q h1 h2=>⟨h1,h2.1,h2.2.1⟩).chg hch9 (.inr fun h=>h.2.2 rfl)
   ·have hB:=ifn hB hf
    refine wpIn_skip ⟨kf8,p8,p.2,q.2,hB,hm8,hu8,i3.trans p8,?_⟩
    exact Nat.le_trans hW p8.size
  ·have hB:=ifn hB hg
   refine gfk rfl rfl rfl rfl rfl (bft hg) rfl<|gfk rfl rfl rfl rfl rfl (bft hg) rfl<|gfk rfl rfl rfl rfl rfl (bft hg) rfl<|gfk rfl rfl rfl rfl rfl (bft hg) rfl<|Zv (xpf rfl hg rfl)<|nl<|?_
   refine cndR rfl (fun hf=>by cases hf) (fun hf=>?_)
   refine wpIn_skip ⟨hp7.kf fun q h1=>by omega,p7,A',q.2,hB,hma7,hu7,i3.trans p7,?_⟩
   exact Nat.le_trans hW p7.size
 case done =>
  rintro D' W hD ⟨A',U',hB,i1,i2,i3,i4⟩ hK
  rw [List.drop_length,jj_run] at hB
  cases hB
  have j4:=g4.belp i3 lt4 ⟨na4,nu4⟩
  refine Zr<|sst rfl rfl rfl ti4 j4 rfl rfl (ble rfl) fun w9 hch9 hb9=>nl<|?_
  have M:Mks w0.heap.size ({ target:=.collected D',args:=#[] }::[]) w9:=(Mks.cons (w:=w6) Mks.nil Mks.nil (by omega) hD hK).chg hch9 j4.nd
  refine wp_ret<|rtMs rfl M fun w' hk=>⟨_,.cell1 rfl rfl ti4 ((Bx.cs (Bx.tak hb9 hk)).at 0 rfl) .nil,rfl,(i1.chgb hch9 j4).tak hk,(i2.chgb hch9 j4).tak hk,?_⟩
  exact (((BelP.of k6 (Nat.le_refl _)).trans (i3.weak fun q h1 h2=>⟨by omega,h2⟩)).chg hch9 (.inl zb)).tak hk (Nat.le_refl _)
 case stop =>
  rintro D' c W hD ⟨rfl,h1,h2,h3,h4,h5⟩ hK
  have M:Mks w0.heap.size ({ target:=.collected D',args:=#[] }::[]) W:=Mks.cons (w:=w6) Mks.nil Mks.nil (by omega) hD hK
  refine wp_ret<|rtMs rfl M fun w' hk=>⟨_,.cell1 rfl rfl ti4 ((Bx.cs (Bx.tak h2 hk)).at 0 rfl) .nil,congrArg Value.bool h1.symm,h3.tak hk,h4.tak hk,?_⟩
  exact ((BelP.of k6 (Nat.le_refl _)).trans (h5.weak fun q h1 h2=>⟨by omega,h2.1,h2.2,by omega⟩)).tak hk (Nat.le_refl _)
end Go.Proofs.YtfmelbioccbdoaaGreat
end
section
namespace Go.Proofs.YtfmelbioccbdoaaGreat
open Go Go.Md Go.RowKit
attribute [local irreducible] Go.wpList Go.Code.wp Go.Calls Go.Md.Rnd Go.Md.Mt Go.Md.MtM Go.Md.RndM Go.Code.wpIn Go.wpListIn
def jn_pick (x:TTable) (m:Nat):List TState→Int→TMem→Option (Option TState×Int×TMem)
 | [],n,A=>some (none,n,A)
 | u::l,n,A=>(join_left x m A u) >>= fun q=>if decide (n<q.1)=true then some (some u,n,q.2) else jn_pick x m l (w64 (n - q.1)) q.2
def jn_run (x:TTable) (m:Nat):Nat→TState→Int→List TStep→TMem→Option (List TStep×TMem)
 | 0,_,_,out,A=>some (out,A)
 | k + 1,now,n,out,A =>
  (join_behind x now) >>= fun l=>(jn_pick x m l n A) >>= fun q =>
  (ix x.2.1 (q.1.getD now).2) >>= fun st=>(app 16 out ([st]:List TStep)) >>= fun o=>jn_run x m k (q.1.getD now) q.2.1 o q.2.2
def join_nth (x:TTable) (m:Nat) (A:TMem) (n:Int):Option (List TStep×TMem) :=
 (jn_run x m x.1.1.length (0,-1) n [] A) >>= fun r=>(mks 16 (r.1.length:Int) ((0,false):TStep)) >>= fun z=>some (rcopy z r.1,r.2)
theorem Els.okb {α:Type} [Enc α] {ok:Nat→Prop} {w:World} {b off:Nat} {l:List α} {i:Int} {y:α} (h:Els α ok w (some ⟨b,off,none⟩) l) (hi:ix l i=some y):ok b:=by
 rcases h with rfl | ⟨b',o',e,h1,_⟩
 ·have:=(ix_spec hi).2.1
  have:=(ix_spec hi).1
  simp at *
  omega
 ·cases e
  exact h1
set_option maxHeartbeats 16000000 in
theorem c119 {x:TTable} {m:Nat} {w0:World} {b ma mu N:Nat} {A:TMem} {num:Int} {r:List TStep×TMem} (hT0:Tb N w0 b ma mu x) (ha0:Mp w0 ma A) (hF:join_nth x m A num=some r) :
  Calls Tryz.prog 119 [.pointer (some ⟨b,0,none⟩),.int .i64 num].toArray w0 (Ret fun v w'=>Row 56 w0.heap.size w' v r.1∧Mp w' ma r.2∧BelP (fun q=>q≠ma) w0.heap.size w0 w'):=by
 unfold join_nth at hF
 have hz:=Md.bs hF; obtain ⟨r1,Er,hF⟩:=hz
 have hz:=Md.bs hF; obtain ⟨z,Ez,hF⟩:=hz
 cases hF
 refine entrM (m:=9) (n:=55) Tryz.func119 rfl rfl rfl<|Zr<|sbx rfl rfl fun bt w1 hx1 hg1 hb1=>sbx rfl rfl fun b3 w2 hx2 hg2 hb2=>?_
 have k2:=hx1.tr hx2
 have l1:=hb1.lt
 have hb1:=hb1.ext hx2
 refine Za<|nl<|Zr<|Za<|nl<|Zr<|Zv (xbdv (r:=[.int .i64 0,.int .i64 (-1)]) ti326 sp326 (pc rfl pn) rfl)<|sal ti326 fun b6 w3 hx3 hg3 hb3=>sst rfl rfl rfl ti326 hb3 rfl rfl (ble rfl) fun w4 hch4 hb4=>?_
 have kx4:Ext w2 w4:=hx3.chg hch4 hg3
 have k4:=k2.tr kx4
 have h6:Bx w4 b6 326 (Flat.enc ((0,-1):TState)):=hb4
 have ht:=hb1.ext kx4
 have h3:=hb2.ext kx4
 have T4:=hT0.ext k4
 have ha4:=ha0.ext k4
 have l2:=hb2.lt
 have l6:=h6.lt
 have lt:=ht.lt
 have l3:=h3.lt
 have z1:=hx1.size
 have z2:=k2.size
 have z4:=k4.size
 have la:=ha0.lt
 have na6:b6≠ma:=fun e=>(ha4.not_cells h6) e.symm
 have nat:bt≠ma:=fun e=>(ha4.not_cells ht) e.symm
 have na3:b3≠ma:=fun e=>(ha4.not_cells h3) e.symm
 have n36:b3≠b6:=by omega
 have nt3:bt≠b3:=by omega
 have nt6:bt≠b6:=by omega
 generalize hbase:w4.heap.size=base at l6 lt l3
 have hNs:=hT0.size
 have hNb:N≤base:=by omega
 have hab:ma<base:=by omega
 have hw0:w0.heap.size≤base:=by omega
 have g3:w0.heap.size≤b3:=by omega
 have g6:w0.heap.size≤b6:=by omega
 have hz:=T4.pieces; obtain ⟨a1,c1,h4,hs4⟩:=hz
 have hlen:=(RVo.rv hs4).cap
 refine nl<|wp_seq<|Zr<|Zv (xld rfl ti177 ((Bx.cs ht).at 0 rfl))<|Zv (xnil rfl)<|Zv (xfa rfl fa199_0)<|Zv (xfa rfl fa48_0)<|Zv (xld rfl ti46 h4)<|Zv (xlen rfl Tryz.underlying46)<|Zm<|nl<|?_
 refine ctM w0.heap.size (fun L w=>∃ v,L 5=v∧Row 56 base w v r1.1∧Mp w ma r1.2∧BelP (fun q=>q≠ma) w0.heap.size w0 w) ?_ ?_
 ·refine wp_block<|lpM w0.heap.size (I:=fun m' L w=>∃ (k:Nat) (now:TState) (n:Int) (out:List TStep) (A':TMem) (v:Value),k + m'=x.1.1.length∧jn_run x m m' now n out A'=some r1∧L 18=.int .i64 (k:Int)∧L 17=.int .i64 (x.1.1.length:Int)∧L 2=.pointer (some ⟨bt,0,none⟩)∧L 3=.pointer (some ⟨b3,0,none⟩)∧L 6=.pointer (some ⟨b6,0,none⟩)∧L 5=v ∧
    Bx w bt 177 [.pointer (some ⟨b,0,none⟩)]∧Bx w b3 2 [.int .i64 n]∧Bx w b6 326 (Flat.enc now)∧Row 56 base w v out∧Mp w ma A'∧Tb N w b ma mu x∧BelP (fun q=>q≠ma) w0.heap.size w0 w∧base≤w.heap.size) x.1.1.length Mks.nil
   ⟨0,_,_,_,_,_,by simp,Er,rfl,rfl,rfl,rfl,rfl,rfl,ht,h3,h6,Row.nil,ha4,T4,BelP.of k4 (Nat.le_refl _),Nat.le_of_eq hbase.symm⟩ ?_
  clear Er ht h3 h6 ha4 T4 h4 hs4
  rintro m' L D w hM ⟨k,now,n,out,A',v,hk,hB,l18,l17,l2',l3',l6',l5,ht,h3,h6,ho,ha,T,hx,hbs⟩
  refine Zr<|Zv (xlss l18 l17)<|nl<|wp_seq<|cnd rfl (fun hc0=>?_) (fun hc0=>?_)
  ·have hc0:(k:Int)<(x.1.1.length:Int):=by simpa using hc0
   obtain ⟨k',rfl⟩:∃ k',m'=k' + 1:=⟨m' - 1,by omega⟩
   rw [jn_run] at hB
   have hz:=Md.bs hB; obtain ⟨l,El,hB⟩:=hz
   have hz:=Md.bs hB; obtain ⟨q,Eq,hB⟩:=hz
   have hz:=Md.bs hB; obtain ⟨st,Est,hB⟩:=hz
   have hz:=Md.bs hB; obtain ⟨o,Eo,hB⟩:=hz
   have hadd:w64 ((k:Int) + 1)=((k + 1:Nat):Int):=by
    have hmx:x.1.1.length≤maxLen:=by omega
    rw [w64,IntWalk.i64_in _ (by unfold maxLen at hmx; omega)]
    rfl
   refine wp_skip<|wp_seq<|wp_block<|wp_scope_straight<|Zr<|Zv (xlda l6' ti326 (Flat.len now) (Bx.cs h6))<|sal ti326 fun b7 w5 hx5 hg5 hb5=>sstf (u:=now) rfl rfl ti326 rfl hb5 rfl fun w6 hch6 hb6=>?_
   have kx6:Ext w w6:=hx5.chg hch6 hg5
   have ht6:=ht.ext kx6
   have h36:=h3.ext kx6
   have h66:=h6.ext kx6
   have hv6:=ho.lt
   have lw:=ho.own_lt
   have l7:=hb6.lt
   have zx:=kx6.size
   have nb7:base≤b7:=by omega
   refine nl<|wp_seq<|wp_label<|wp_seq<|?_
   refine ctM w0.heap.size (fun L w'=>L 2=.pointer (some ⟨bt,0,none⟩)∧L 3=.pointer (some ⟨b3,0,none⟩)∧L 5=v∧L 6=.pointer (some ⟨b6,0,none⟩)∧L 7=.pointer (some ⟨b7,0,none⟩)∧L 17=.int .i64 (x.1.1.length:Int)∧L 18=.int .i64 (k:Int) ∧
    Bx w' b7 326 (Flat.enc (q.1.getD now))∧Bx w' b3 2 [.int .i64 q.2.1]∧Mp w' ma q.2.2∧BelP (fun q=>q≠ma∧q≠b3∧q≠b7) w6.heap.size w6 w') ?_ ?_
   ·refine Zr<|Zv (xld l2' ti177 ((Bx.cs ht6).at 0 rfl))<|Zv (xlda l6' ti326 (Flat.len now) (Bx.cs h66))<|Zc (xc cb229 (mc rfl<|mc rfl mn)) (c229 (b:=b) (s:=now)) fun v7 w7 hv=>?_
    obtain ⟨hbh,hx7⟩:=hv
    have ht7:=ht6.ext hx7
    have h37:=h36.ext hx7
    have h77:=hb6.ext hx7
    have ha7:=(ha.ext kx6).ext hx7
    have T7:=(T.ext kx6).ext hx7
    have z7:=hx7.size
    have hM7:=(hM.ext kx6).ext hx7
    have hla7:ma<w7.heap.size:=by omega
    have hseq:=hbh.go (N:=N) (ok:=fun q=>q≠ma∧q≠b3∧q≠b7) T7 (fun q h1 h2 h3=>⟨h2,by omega,by omega⟩) (fun q h1=>⟨by omega,by omega,by omega⟩) El 8
    refine nl<|wp_block<|rangeB (α:=TState) (xs:=l) (m:=9) (by decide) rfl KpOk.belp hseq rfl rfl rfl ti326 rfl
     (fun k W=>∃ (n':Int) (A1:TMem),jn_pick x m (l.drop k) n' A1=some q∧Bx W b3 2 [.int .i64 n']∧Bx W b7 326 (Flat.enc now)∧Mp W ma A1∧BelP (fun q=>q≠ma∧q≠b3∧q≠b7) w7.heap.size w7 W∧w7.heap.size≤W.heap.size∧Mks w0.heap.size D W)
     (fun c W=>c=.exit 2∧∃ u,q.1=some u∧Bx W b3 2 [.int .i64 q.2.1]∧Bx W b7 326 (Flat.enc u)∧Mp W ma q.2.2∧BelP (fun q=>q≠ma∧q≠b3∧q≠b7) w7.heap.size w7 W∧Mks w0.heap.size D W)
     (fun k=>Okb.ex fun _=>Okb.ex fun _=>Okb.pure.and (Okb.bx.and (Okb.bx.and ((Okb.mp hla7).and ((Okb.belp (Nat.le_refl _) (Nat.le_refl _)).and (Okb.size.and (Okb.mks hM7 rfl)))))))
     (fun c=>Okb.pure.and (Okb.ex fun _=>Okb.pure.and (Okb.bx.and (Okb.bx.and ((Okb.mp hla7).and ((Okb.belp (Nat.le_refl _) (Nat.le_refl _)).and (Okb.mks hM7 rfl)))))))
     ⟨n,A',Eq,h37,h77,ha7,BelP.refl,Nat.le_refl _,hM7⟩ ?round (fun k W h=>by obtain ⟨_,_,_,_,_,_,_,h,_⟩:=h; exact h) ?done ?stop
    case round =>
     rintro ll k1 u A1 W b8 hu ⟨n',A2,hB2,i1,i2,i3,i4,i5,i6⟩ hA hg8 hg8' hb8
     rw [drop_at hu,jn_pick] at hB2
     have hz:=Md.bs hB2; obtain ⟨p,Ep,hB2⟩:=hz
     have i1:=i1.asg hA
     have i2:=i2.asg hA
     have i3:=i3.asg hA hla7
     have i4:=i4.asg hA i5 (Nat.le_refl _)
     have i6:=i6.asg hA
     have hW:w7.heap.size≤W.heap.size:=i4.size
     have jt:=ht7.belp i4 ht7.lt ⟨nat,nt3,by omega⟩
     have Tg:=T7.belp i4 T7.size (fun q h1 h2 h3=>⟨h2,by omega,by omega⟩)
     have na8:b8≠ma:=by omega
     have na7:b7≠ma:=by omega
     have n38:b3≠b7:=by omega
     refine wpIn_block<|wpIn_seq<|rgR rfl<|Zv (xld l2' ti177 ((Bx.cs jt).at 0 rfl))<|Zv (xlda rfl ti326 (Flat.len u) (Bx.cs hb8))<|Zc (xc cb226 (mc rfl<|mc rfl mn)) (c226 m Tg i3 Ep) ?_
     rintro _ w8 ⟨rfl,hm8,hp8⟩
     have hs8:=hp8.size
     have j3:=i1.belp hp8 i1.lt na3
     have j7:=i2.belp hp8 i2.lt na7
     have j8:=hb8.belp hp8 hb8.lt na8
     have p8:BelP (fun q=>q≠ma∧q≠b3∧q≠b7) w7.heap.size W w8:=hp8.weak fun q h1 h2=>⟨by omega,h2.1⟩
     have kf8:KeepsFrom w7.heap.size W w8:=hp8.kf fun q h1=>by omega
     have m8:Mks w0.heap.size D w8:=i6.belp hp8 (fun q h1=>by omega)
     refine Za<|nl<|wpIn_seq<|wpIn_seq<|rgR rfl<|Zv (xld l3' ti2 ((Bx.cs j3).at 0 rfl))<|Zm<|Zv (xlss rfl rfl)<|nl<|cndR rfl (fun hf=>?_) (fun hf=>?_)
     ·have hB2:=ifp hB2 hf
      cases hB2
      refine wpIn_seq<|rgR rfl<|Zv (xlda rfl ti326 (Flat.len u) (Bx.cs j8))<|sstf (u:=u) rfl rfl ti326 rfl j7 (Flat.len now) fun w9 hch9 hb9=>nl<|wpIn_exit ⟨kf8.chgc hch9 (.inl (by omega)),rfl,u,rfl,j3.chg hch9 n38,hb9,hm8.chgb hch9 j7,(i4.trans p8).chg hch9 (.inr fun h=>h.2.2 rfl),m8.chg hch9 j7.nd⟩
     ·have hB2:=ifn hB2 hf
      refine wpIn_skip<|rgR rfl<|Zv (xld l3' ti2 ((Bx.cs j3).at 0 rfl))<|Zm<|Zv (xsub rfl rfl)<|sst l3' rfl rfl ti2 j3 rfl rfl (ble rfl) fun w9 hch9 hb9=>nl ⟨kf8.chgc hch9 (.inl (by omega)),p8.chg hch9 (.inr fun h=>h.2.1 rfl),_,p.2,hB2,hb9,j7.chg hch9 (Ne.symm n38),hm8.chgb hch9 j3,(i4.trans p8).chg hch9 (.inr fun h=>h.2.1 rfl),?_,m8.chg hch9 j3.nd⟩
      rw [hch9.size]
      omega
    case done =>
     rintro D' W hD ⟨n',A2,hB2,i1,i2,i3,i4,i5,i6⟩ hK
     rw [List.drop_length,jn_pick] at hB2
     cases hB2
     exact lfM (Mks.cons hM7 i6 (by omega) hD hK) ⟨l2',l3',l5,l6',rfl,l17,l18,i2,i1,i3,(BelP.of hx7 (Nat.le_refl _)).trans (i4.mono z7)⟩
    case stop =>
     rintro D' c W hD ⟨rfl,u,hu,i1,i2,i3,i4,i6⟩ hK
     refine wp_exit<|lfM (Mks.cons hM7 i6 (by omega) hD hK) ⟨l2',l3',l5,l6',rfl,l17,l18,?_,i1,i3,(BelP.of hx7 (Nat.le_refl _)).trans (i4.mono z7)⟩
     rw [hu]
     exact i2
   rintro L D w8 hM8 ⟨l2',l3',l5,l6',l7',l17,l18,h7,h3',hm8,hp8⟩
   generalize hnx:q.1.getD now=nx at Est hB h7
   have o6:=ho.ext kx6
   have o8:=o6.belp hp8 (fun q hq=>⟨o6.own_lt q hq,by have:=hv6 q hq; omega,by have:=hv6 q hq; omega,by have:=hv6 q hq; omega⟩)
   have ht8:=ht6.belp hp8 ht6.lt ⟨nat,nt3,by omega⟩
   have h68:=h66.belp hp8 h66.lt ⟨na6,Ne.symm n36,by omega⟩
   have T8:=(T.ext kx6).belp hp8 (T.ext kx6).size (fun q h1 h2 h3=>⟨h2,by omega,by omega⟩)
   have hs8:=hp8.size
   refine Zr<|Zv (xlda l7' ti326 (Flat.len nx) (Bx.cs h7))<|sstf (u:=nx) l6' rfl ti326 rfl h68 (Flat.len now) fun w9 hch9 hb9=>nl<|?_
   have o9:=o8.chg hch9 l6
   have ht9:=ht8.chg hch9 nt6
   have h39:=h3'.chg hch9 n36
   have hm9:=hm8.chgb hch9 h68
   have T9:=T8.belp (ok:=fun q=>q≠b6) (M:=w8.heap.size) (BelP.refl.chg hch9 (.inr fun h=>h rfl)) T8.size (fun q h1 h2 h3=>by omega)
   have hM9:=hM8.chg hch9 h68.nd
   have hx9:BelP (fun q=>q≠ma) w0.heap.size w0 w9:=(((hx.ext kx6 (by omega)).trans (hp8.weak fun q h1 h2=>⟨by omega,h2,by omega,by omega⟩))).chg hch9 (.inl g6)
   have hs9:w9.heap.size=w8.heap.size:=hch9.size
   refine wplB (B:=base) [] (.pure true 0 (.pure false 1 (.pure true 2 (.pure true 3 (.pure false 4 (.pure true 5 (.pure false 6 (.pure true 7 (.pure false 8 (.eff 9 (.eff 10 (.pure true 11 .fin) .stop) .stop)))))))))) mixed (by kernel_rfl) (fun wd hxd=>?_)
   have od:=o9.ext hxd
   have td:=ht9.ext hxd
   have d3:=h39.ext hxd
   have d6:=hb9.ext hxd
   have md:=hm9.ext hxd
   have Td:=T9.ext hxd
   have zd:=hxd.size
   have hz:=Td.steps; obtain ⟨a2,c2,h4,hs4⟩:=hz
   have hz:=(RVo.sl.1 hs4); obtain ⟨a2',c2',e3,_,_,els⟩:=hz
   cases e3
   have hz:=Els.ix els Est; obtain ⟨b5,off5,cs5,rfl,i1,i2,q5,hc5⟩:=hz
   obtain rfl:=Flat.iff.1 q5
   have hb5:=(Els.okb els Est).1
   have hbN:=Td.lb.1
   refine Zp rfl (fun _=>xmva l5)<|Zq rfl (fun _ hS=>xld l2' ti177 ((Bx.cs (td.below (hS.resolve_left nofun) lt)).at 0 rfl)) (Below.refl _ _)<|Zp rfl (fun _=>xnil rfl)<|Zp rfl (fun _=>xfa rfl fa199_1)<|pv rfl rfl rfl (fun w' hS=>xld rfl ti51 ((World.cell?_of_block (a:=⟨b,4,none⟩) ((hS.resolve_left nofun).block b (by show b<base; omega))).trans h4)) (.inr (Below.refl _ _))<|?_
   refine Zp rfl (fun _=>xfa l6' fa326_1)<|Zq rfl (fun _ hS=>xld rfl ti3 ((Bx.cs (d6.below (hS.resolve_left nofun) l6)).at 1 rfl)) (Below.refl _ _)<|Zp rfl (fun _=>xixs rfl rfl Tryz.underlying51 ti56 i1 i2)<|Zq rfl (fun _ hS=>xlda rfl ti56 (Flat.len st) (hc5.below (hS.resolve_left nofun) (by omega))) (Below.refl _ _)<|?_
   refine pe1 rfl<|sbsv (cs:=[.int .i64 st.1,.bool st.2]) Tryz.underlying51 ti56 rfl (pc rfl pn) rfl rfl rfl rfl rfl fun b9 wE hxE hgE hbE=>nl ⟨fun _ h=>h.trans (hxE.mono (by omega)),?_⟩
   have oE:Row (α:=TStep) 56 wd.heap.size wE (.slice (some ⟨b9,0,none⟩) 1 1) [st]:=Row.lit hgE hbE rfl (ble rfl)
   have zE:=hxE.size
   refine pe1 rfl<|sapx (l:=out) (k:=([st]:List TStep)) rfl rfl Tryz.underlying51 ti56 rfl rfl (od.ext hxE) (RV.els oE.rv) Eo (by omega) fun vF wF oF hBF hgF hwF=>nl ⟨fun _ h=>h.trans hBF,?_⟩
   refine Zp rfl (fun _=>xas)<|?_
   refine rg<|Zv (xadd l18 rfl)<|Zm<|nl<|?_
   have hMF:Mks w0.heap.size D wF:=((hM9.ext hxd).ext hxE).gr hgF (od.ext hxE).nd
   have hsF:=hBF.size
   have hxF:Below base w9 wF:=(hxd.mono (by omega)).trans ((hxE.mono (by omega)).trans hBF)
   refine lqM k' (Nat.lt_succ_self _) hMF ⟨k + 1,nx,q.2.1,o,q.2.2,vF,by omega,hB,congrArg _ hadd,l17,l2',l3',l6',rfl,ht9.below hxF lt,h39.below hxF l3,hb9.below hxF l6,oF,hm9.below hxF hab,?_,?_,by omega⟩
   ·exact T9.belp (ok:=fun _=>True) (M:=base) ⟨hxF.os,hxF.tape,hxF.output,hxF.size,fun q hq _=>hxF.block q hq⟩ hNb (fun _ _ _ _=>trivial)
   ·exact hx9.trans ⟨hxF.os,hxF.tape,hxF.output,hxF.size,fun q hq _=>hxF.block q (by omega)⟩
  ·have hc0:¬ (k:Int)<(x.1.1.length:Int):=by simpa using hc0
   obtain rfl:m'=0:=by omega
   rw [jn_run] at hB
   cases hB
   exact wp_exit<|lfM hM ⟨v,l5,ho,ha,hx⟩
 rintro L D w5 hM ⟨v,l5,ho,ha,hx⟩
 have hz:=RV.sl ho.rv; obtain ⟨a5,c5,rfl,-,-,-⟩:=hz
 have z5:=hx.size
 refine Zr<|Zv (xmva l5)<|Zv (xlen rfl Tryz.underlying51)<|smks (α:=TStep) (z0:=(0,false)) rfl rfl Tryz.underlying51 ti56 rfl rfl rfl Ez fun b10 w10 hx10 o10=>?_
 refine Za<|nl<|Zr<|Zm<|Zv (xmva l5)<|scpr (l:=z) (k:=r1.1) rfl rfl Tryz.underlying51 ti56 o10 (ho.ext hx10).rv fun w11 cq hch11 o11=>?_
 refine nl<|Zr<|Zm<|Za<|nl<|?_
 have hge:=(o10.lt b10 rfl).1
 have M:Mks w0.heap.size D w11:=(hM.ext hx10).chg hch11 (o10.nd b10 rfl)
 refine wp_ret<|rtMs rfl M fun w' hk=>⟨_,.tmp rfl rfl .nil,(o11.bnd z5).tak hk,((ha.ext hx10).chg hch11 (by omega)).tak hk,?_⟩
 exact (((hx.ext hx10 z5)).chg hch11 (.inl (by omega))).tak hk (Nat.le_refl _)
end Go.Proofs.YtfmelbioccbdoaaGreat
end
section
namespace Go.Md
open Go Go.RowKit
section
variable {P:Program} {Q:Exit→Act→World→Prop} {m n:Nat} {L:Fr} {D:List Deferred} {w:World}
theorem rangeW2 {g:Operand} {ps:List Nat} {assign body:Code} {gf:FuncId} {cs:Array Value} {us:List (Array Value)} {Kp:World→World→Prop} (hm:1≤m) (hKp:KpOk w.heap.size Kp)
  (hg:ev n L g=.func (.func gf) #[] cs) (hc:Callable P gf) (hseq:SeqP P Kp (m - 1) gf cs us w) (hps:∀ u∈us,u.size=ps.length)
  (I:Nat→World→Prop) (Ix:Code→World→Prop) (hI:∀ k,Okb w.heap.size (I k)) (hIx:∀ c,Okb w.heap.size (Ix c)) (h0:I 0 w)
  (hround:∀ (l k:Nat) (u:Array Value) (A:World) (K:Act→World→Prop),w.heap.size<l→us[k]?=some u→I k A →
   (∀ a' W,Ext A W→(∀ W2 o,W.heap[l]?=some o→o.isCells=false→(∀ ds,o≠.deferred ds)→Chg l W W2→(∃ r,W2.heap[l]?=some (.loop r))→body.wpIn (RF l) (m - 1 - 1) P (RPost w.heap.size Kp (I (k + 1)) Ix W2) a' W2)→K a' W) →
   assign.wpIn (RF l) (m - 1 - 1) P (Exit.then K (fun _ _ _=>False)) (act n ((ps.zip u.toList).foldl (fun L (p,v)=>upd L p v) L) []) A)
  (hdone:∀ D' W,w.heap.size≤D'→I us.length W→W.heap[D']?=some (.deferred (some []))→Q .normal (act n L ({ target:=.collected D',args:=#[] }::D)) W)
  (hstop:∀ D' c W,w.heap.size≤D'→Ix c W→W.heap[D']?=some (.deferred (some []))→c.wp P Q (act n L ({ target:=.collected D',args:=#[] }::D)) W) :
  (Code.rangeFunc g ps.toArray assign body).wp P Q (act n L D) w:=by
 refine (wpIn_wide (n:=m)).1 (wpIn_rangeFunc fun fn hfn=>?_)
 generalize hrec:(fun (st:LoopState) (pe:Option Code)=>({ state:=st,pending:=pe,fn:=fn,tmps:=(act n L D).tmps,params:=ps.toArray,assign:=assign,body:=body,defers:=w.heap.size }:Loop))=rec
 have hrec':∀ st pe,rec st pe={ state:=st,pending:=pe,fn:=fn,tmps:=(act n L D).tmps,params:=ps.toArray,assign:=assign,body:=body,defers:=w.heap.size }:=fun st pe=>by rw [← hrec]
 generalize hB:w.heap.size=B at *
 have hx1:Ext w (w.alloc (.deferred (some []))):=Ext.alloc _ _
 have hx2:=hx1.tr (Ext.alloc (w.alloc (.deferred (some []))) (.loop (rec .ready none)))
 have hL1:((w.alloc (.deferred (some []))).alloc (.loop (rec .ready none))).heap[B + 1]?=some (.loop (rec .ready none)):=by
  have:=World.alloc_heap_new (w.alloc (.deferred (some []))) (.loop (rec .ready none))
  rwa [World.size_alloc,hB] at this
 have hK1:((w.alloc (.deferred (some []))).alloc (.loop (rec .ready none))).heap[B]?=some (.deferred (some [])):=by
  have:=World.alloc_heap_new w (.deferred (some []))
  rw [hB] at this
  exact ((Ext.alloc (w.alloc (.deferred (some []))) (.loop (rec .ready none))).block B (by simp [hB])).trans this
 generalize hW1:(w.alloc (.deferred (some []))).alloc (.loop (rec .ready none))=W1 at *
 refine ⟨B + 1,[{ target:=.collected B,args:=#[] }],W1,{ target:=.fn (.func gf) cs,args:=#[.func (.yield (B + 1)) #[] #[]] },W1,gf,#[.func (.yield (B + 1)) #[] #[]]++cs,W1,?_,?_,?_,?_,fun _=>hm,?_⟩
 ·rw [show Fence.wide.round=none from rfl,run_enterLoop_outer,hB,← hrec',hW1]
 ·simp only [ev_act,resolve,Deferred.ofValue,hg]
  simp [ev]
 ·intro f' _
  exact trivial
 ·simp [invoke,run_callFunc hc]
 refine (hseq (B + 1) (fun k A=>I k A∧A.heap[B + 1]?=some (.loop (rec .ready none))∧A.heap[B]?=some (.deferred (some [])))
  (fun A=>∃ c,Ix c A∧A.heap[B + 1]?=some (.loop (rec .done (some c)))∧A.heap[B]?=some (.deferred (some []))) W1 hx2
  (fun k A C h e=>⟨(hI k).ext h.1 e,(e.block _ (Array.getElem?_eq_some_iff.1 h.2.1).1).trans h.2.1,(e.block _ (Array.getElem?_eq_some_iff.1 h.2.2).1).trans h.2.2⟩)
  (fun A C ⟨c,h1,h2,h3⟩ e=>⟨c,(hIx c).ext h1 e,(e.block _ (Array.getElem?_eq_some_iff.1 h2).1).trans h2,(e.block _ (Array.getElem?_eq_some_iff.1 h3).1).trans h3⟩)
  ?_ ⟨(hI 0).ext h0 hx2,hL1,hK1⟩).mono ?_
 ·
  rintro k u A hu ⟨hi,hl,hk⟩
  have hy:=run_yield (P:=P) (args:=u) hl (by rw [hrec']; simpa using hps u (List.mem_of_getElem? hu))
  rw [hrec'] at hy
  refine ⟨fn,_,assign,body,hy,roundIn_of_wpIn hfn ?_⟩
  have hact:({ tmps:=((ps.toArray.zip u).foldl (fun t (p,v)=>t.setIfInBounds p v) (act n L D).tmps),defers:=[] }:Act)=act n ((ps.zip u.toList).foldl (fun L (p,v)=>upd L p v) L) []:=by
   have:=act_round (n:=n) (D:=D) (ps:=ps) (vs:=u.toList) L
   rw [← Array.foldl_toList,Array.toList_zip]
   simp only at this ⊢
   rw [this]
   rfl
  refine (congrArg (fun q=>Code.wpIn (RF (B + 1)) (m - 1 - 1) P assign _ q A) hact).mpr ?_
  refine hround (B + 1) k u A _ (Nat.lt_succ_self _) hu hi fun a' W hAW hbd=>?_
  have hl1:=(hAW.block _ (Array.getElem?_eq_some_iff.1 hl).1).trans hl
  have hk1:=(hAW.block _ (Array.getElem?_eq_some_iff.1 hk).1).trans hk
  refine ⟨_,run_beginRound hl1 (by rw [hrec']),?_⟩
  obtain ⟨c1,c2⟩:=chgp (o':=.loop { rec .ready none with state:=.busy }) hl1
  have hk2:=(c1.other B (by omega)).trans hk1
  generalize hW2:W.putObj (B + 1) (.loop { rec .ready none with state:=.busy })=W2 at *
  refine wpIn_mono (hbd W2 _ hl1 rfl nofun c1 ⟨_,c2⟩) ?_
  have fin:∀ (jump:Option Code) (W3:World),KeepsFrom B W2 W3→(Instr.endRound (B + 1) jump).run P W3=.ok (.bool jump.isNone) (W3.putObj (B + 1) (.loop (rec (if jump.isNone then .ready else .done) jump))) ∧
    W3.heap[B + 1]?=some (.loop { rec .ready none with state:=.busy })∧Chg (B + 1) W3 (W3.putObj (B + 1) (.loop (rec (if jump.isNone then .ready else .done) jump))) ∧
    (W3.putObj (B + 1) (.loop (rec (if jump.isNone then .ready else .done) jump))).heap[B + 1]?=some (.loop (rec (if jump.isNone then .ready else .done) jump)) ∧
    (W3.putObj (B + 1) (.loop (rec (if jump.isNone then .ready else .done) jump))).heap[B]?=some (.deferred (some [])):=fun jump W3 hk3=>by
   have hl3:=hk3.same _ _ (by omega) c2 rfl
   have hd3:=hk3.same _ _ (Nat.le_refl _) hk2 rfl
   have he:=run_endRound (P:=P) jump hl3
   obtain ⟨e1,e2⟩:=chgp (o':=.loop (rec (if jump.isNone then .ready else .done) jump)) hl3
   refine ⟨?_,hl3,e1,e2,(e1.other B (by omega)).trans hd3⟩
   simp only [hrec'] at he ⊢
   exact he
  rintro e a3 W3 hp
  cases e with
  | normal =>
   obtain ⟨hk3,hb3,hi3⟩:=hp
   obtain ⟨hr,hl3,e1,hl4,hd4⟩:=fin none W3 hk3
   have hBA:B≤A.heap.size:=Nat.le_of_lt (Nat.lt_of_succ_lt (Array.getElem?_eq_some_iff.1 hl).1)
   exact ⟨_,_,hr,.inl ⟨rfl,⟨(hI (k + 1)).put hi3 (by omega) hl3 rfl e1,hl4,hd4⟩,hKp.trans (hKp.ext hBA hAW) (hKp.trans (hKp.put (by omega) hl1 c1) (hKp.trans hb3 (hKp.put (by omega) hl3 e1)))⟩⟩
  | ret =>
   obtain ⟨hk3,hi3⟩:=hp
   obtain ⟨hr,hl3,e1,hl4,hd4⟩:=fin (some .ret) W3 hk3
   exact ⟨_,_,hr,.inr ⟨rfl,.ret,(hIx _).put hi3 (by omega) hl3 rfl e1,hl4,hd4⟩⟩
  | exit id =>
   obtain ⟨hk3,hi3⟩:=hp
   obtain ⟨hr,hl3,e1,hl4,hd4⟩:=fin (some (.exit id)) W3 hk3
   exact ⟨_,_,hr,.inr ⟨rfl,.exit id,(hIx _).put hi3 (by omega) hl3 rfl e1,hl4,hd4⟩⟩
  | goto t=>exact hp.elim
  | panic ch=>exact hp.elim
  | outgrown=>exact hp.elim
 ·
  rintro e W2 ⟨⟨v,rfl⟩,⟨hi,hl,hk⟩ | ⟨c,hi,hl,hk⟩⟩
  ·obtain ⟨e1,_⟩:=chgp (o':=.loop { rec .ready none with state:=.exhausted }) hl
   exact ⟨none,_,by have:=run_endLoop (P:=P) hl (by rw [hrec']; simp); simpa only [hrec'] using this,hdone B _ (Nat.le_refl _) ((hI _).put hi (by omega) hl rfl e1) ((e1.other B (by omega)).trans hk)⟩
  ·obtain ⟨e1,_⟩:=chgp (o':=.loop { rec .done (some c) with state:=.exhausted }) hl
   exact ⟨some c,_,by have:=run_endLoop (P:=P) hl (by rw [hrec']; simp); simpa only [hrec'] using this,wpIn_wide.2 (hstop B c _ (Nat.le_refl _) ((hIx c).put hi (by omega) hl rfl e1) ((e1.other B (by omega)).trans hk))⟩
theorem rangeWN {l0:Nat} {r0:Loop} (hl0:w.heap[l0]?=some (.loop r0)) {g:Operand} {ps:List Nat} {assign body:Code} {gf:FuncId} {cs:Array Value} {us:List (Array Value)} {Kp:World→World→Prop} (hm:1≤m) (hKp:KpOk w.heap.size Kp)
  (hg:ev n L g=.func (.func gf) #[] cs) (hc:Callable P gf) (hseq:SeqP P Kp (m - 1) gf cs us w) (hps:∀ u∈us,u.size=ps.length)
  (I:Nat→World→Prop) (Ix:Code→World→Prop) (hI:∀ k,Okb w.heap.size (I k)) (hIx:∀ c,Okb w.heap.size (Ix c)) (h0:I 0 w)
  (hround:∀ (l k:Nat) (u:Array Value) (A:World) (K:Act→World→Prop),w.heap.size≤l→us[k]?=some u→I k A →
   (∀ a' W,Ext A W→(∀ W2 o,W.heap[l]?=some o→o.isCells=false→(∀ ds,o≠.deferred ds)→Chg l W W2→(∃ r,W2.heap[l]?=some (.loop r))→body.wpIn (RF l) (m - 1 - 1) P (RPost w.heap.size Kp (I (k + 1)) Ix W2) a' W2)→K a' W) →
   assign.wpIn (RF l) (m - 1 - 1) P (Exit.then K (fun _ _ _=>False)) (act n ((ps.zip u.toList).foldl (fun L (p,v)=>upd L p v) L) []) A)
  (hdone:∀ W,I us.length W→Q .normal (act n L D) W)
  (hstop:∀ c W,Ix c W→c.wpIn (RF l0) m P Q (act n L D) W) :
  (Code.rangeFunc g ps.toArray assign body).wpIn (RF l0) m P Q (act n L D) w:=by
 refine wpIn_rangeFunc fun fn hfn=>?_
 generalize hrec:(fun (st:LoopState) (pe:Option Code)=>({ state:=st,pending:=pe,fn:=fn,tmps:=(act n L D).tmps,params:=ps.toArray,assign:=assign,body:=body,defers:=r0.defers }:Loop))=rec
 have hrec':∀ st pe,rec st pe={ state:=st,pending:=pe,fn:=fn,tmps:=(act n L D).tmps,params:=ps.toArray,assign:=assign,body:=body,defers:=r0.defers }:=fun st pe=>by rw [← hrec]
 generalize hB:w.heap.size=B at *
 have hx2:Ext w (w.alloc (.loop (rec .ready none))):=Ext.alloc _ _
 have hL1:(w.alloc (.loop (rec .ready none))).heap[B]?=some (.loop (rec .ready none)):=by
  have:=World.alloc_heap_new w (.loop (rec .ready none))
  rwa [hB] at this
 generalize hW1:w.alloc (.loop (rec .ready none))=W1 at *
 refine ⟨B,[],W1,{ target:=.fn (.func gf) cs,args:=#[.func (.yield B) #[] #[]] },W1,gf,#[.func (.yield B) #[] #[]]++cs,W1,?_,?_,?_,?_,fun _=>hm,?_⟩
 ·rw [show (RF l0).round=some l0 from rfl,run_enterLoop_inner hl0,hB,← hrec',hW1]
 ·simp only [ev_act,resolve,Deferred.ofValue,hg]
  simp [ev]
 ·intro f' _
  exact trivial
 ·simp [invoke,run_callFunc hc]
 refine CallsIn.inRound l0 ((hseq B (fun k A=>I k A∧A.heap[B]?=some (.loop (rec .ready none))) (fun A=>∃ c,Ix c A∧A.heap[B]?=some (.loop (rec .done (some c)))) W1 hx2
  (fun k A C h e=>⟨(hI k).ext h.1 e,(e.block _ (Array.getElem?_eq_some_iff.1 h.2).1).trans h.2⟩)
  (fun A C ⟨c,h1,h2⟩ e=>⟨c,(hIx c).ext h1 e,(e.block _ (Array.getElem?_eq_some_iff.1 h2).1).trans h2⟩)
  ?_ ⟨(hI 0).ext h0 hx2,hL1⟩).mono ?_)
 ·
  rintro k u A hu ⟨hi,hl⟩
  have hy:=run_yield (P:=P) (args:=u) hl (by rw [hrec']; simpa using hps u (List.mem_of_getElem? hu))
  rw [hrec'] at hy
  refine ⟨fn,_,assign,body,hy,roundIn_of_wpIn hfn ?_⟩
  have hact:({ tmps:=((ps.toArray.zip u).foldl (fun t (p,v)=>t.setIfInBounds p v) (act n L D).tmps),defers:=[] }:Act)=act n ((ps.zip u.toList).foldl (fun L (p,v)=>upd L p v) L) []:=by
   have:=act_round (n:=n) (D:=D) (ps:=ps) (vs:=u.toList) L
   rw [← Array.foldl_toList,Array.toList_zip]
   simp only at this ⊢
   rw [this]
   rfl
  refine (congrArg (fun q=>Code.wpIn (RF B) (m - 1 - 1) P assign _ q A) hact).mpr ?_
  refine hround B k u A _ (Nat.le_refl _) hu hi fun a' W hAW hbd=>?_
  have hl1:=(hAW.block _ (Array.getElem?_eq_some_iff.1 hl).1).trans hl
  refine ⟨_,run_beginRound hl1 (by rw [hrec']),?_⟩
  obtain ⟨c1,c2⟩:=chgp (o':=.loop { rec .ready none with state:=.busy }) hl1
  generalize hW2:W.putObj B (.loop { rec .ready none with state:=.busy })=W2 at *
  refine wpIn_mono (hbd W2 _ hl1 rfl nofun c1 ⟨_,c2⟩) ?_
  have fin:∀ (jump:Option Code) (W3:World),KeepsFrom B W2 W3→(Instr.endRound B jump).run P W3=.ok (.bool jump.isNone) (W3.putObj B (.loop (rec (if jump.isNone then .ready else .done) jump))) ∧
    W3.heap[B]?=some (.loop { rec .ready none with state:=.busy })∧Chg B W3 (W3.putObj B (.loop (rec (if jump.isNone then .ready else .done) jump))) ∧
    (W3.putObj B (.loop (rec (if jump.isNone then .ready else .done) jump))).heap[B]?=some (.loop (rec (if jump.isNone then .ready else .done) jump)):=fun jump W3 hk3=>by
   have hl3:=hk3.same _ _ (Nat.le_refl _) c2 rfl
   have he:=run_endRound (P:=P) jump hl3
   obtain ⟨e1,e2⟩:=chgp (o':=.loop (rec (if jump.isNone then .ready else .done) jump)) hl3
   refine ⟨?_,hl3,e1,e2⟩
   simp only [hrec'] at he ⊢
   exact he
  rintro e a3 W3 hp
  cases e with
  | normal =>
   obtain ⟨hk3,hb3,hi3⟩:=hp
   obtain ⟨hr,hl3,e1,hl4⟩:=fin none W3 hk3
   have hBA:B≤A.heap.size:=Nat.le_of_lt (Array.getElem?_eq_some_iff.1 hl).1
   exact ⟨_,_,hr,.inl ⟨rfl,⟨(hI (k + 1)).put hi3 (by omega) hl3 rfl e1,hl4⟩,hKp.trans (hKp.ext hBA hAW) (hKp.trans (hKp.put (by omega) hl1 c1) (hKp.trans hb3 (hKp.put (by omega) hl3 e1)))⟩⟩
  | ret =>
   obtain ⟨hk3,hi3⟩:=hp
   obtain ⟨hr,hl3,e1,hl4⟩:=fin (some .ret) W3 hk3
   exact ⟨_,_,hr,.inr ⟨rfl,.ret,(hIx _).put hi3 (by omega) hl3 rfl e1,hl4⟩⟩
  | exit id =>
   obtain ⟨hk3,hi3⟩:=hp
   obtain ⟨hr,hl3,e1,hl4⟩:=fin (some (.exit id)) W3 hk3
   exact ⟨_,_,hr,.inr ⟨rfl,.exit id,(hIx _).put hi3 (by omega) hl3 rfl e1,hl4⟩⟩
  | goto t=>exact hp.elim
  | panic ch=>exact hp.elim
  | outgrown=>exact hp.elim
 ·
  rintro e W2 ⟨⟨v,rfl⟩,⟨hi,hl⟩ | ⟨c,hi,hl⟩⟩
  ·obtain ⟨e1,_⟩:=chgp (o':=.loop { rec .ready none with state:=.exhausted }) hl
   exact ⟨none,_,by have:=run_endLoop (P:=P) hl (by rw [hrec']; simp); simpa only [hrec'] using this,hdone _ ((hI _).put hi (Nat.le_refl _) hl rfl e1)⟩
  ·obtain ⟨e1,_⟩:=chgp (o':=.loop { rec .done (some c) with state:=.exhausted }) hl
   exact ⟨some c,_,by have:=run_endLoop (P:=P) hl (by rw [hrec']; simp); simpa only [hrec'] using this,hstop c _ ((hIx c).put hi (Nat.le_refl _) hl rfl e1)⟩
theorem rangeB2 {α:Type} [Enc α] [Flat α] {g:Operand} {p d id T bytes k':Nat} {agg:Bool} {z:List Value} {body:Code} {xs:List α} {Kp:World→World→Prop} {v:Value} {pos pos':String} {ty ty':TypeId} {af af':Array Edge} {m:Nat} (hm:8≤m) (hg:ev n L g=v) (hKp:KpOk w.heap.size Kp) (hs:∃ gf cs,v=.func (.func gf) #[] cs∧Callable P gf∧SeqP P Kp (m - 1) gf cs (xs.map fun x=>#[fv x]) w) (hp:Nat.blt p n=true) (hd:Nat.blt d n=true) (hpd:Nat.beq p d=false)
  (hT:TI P T agg k' bytes z) (hk':k'=Enc.n α)
  (I:Nat→World→Prop) (Ix:Code→World→Prop) (hI:∀ k,Okb w.heap.size (I k)) (hIx:∀ c,Okb w.heap.size (Ix c)) (h0:I 0 w)
  (hround:∀ (l k:Nat) (x:α) (A W:World) (b:Nat),xs[k]?=some x→I k A→Asg w.heap.size A W→A.heap.size≤b→w.heap.size≤b→Bx W b T (Flat.enc x)→(∃ r,W.heap[l]?=some (.loop r)) →
   body.wpIn (RF l) (m - 2) P (RPost w.heap.size Kp (I (k + 1)) Ix W) (act n (upd (upd L p (fv x)) d (.pointer (some ⟨b,0,none⟩))) []) W)
  (hsz:∀ k A,I k A→w.heap.size≤A.heap.size)
  (hdone:∀ D' W,w.heap.size≤D'→I xs.length W→W.heap[D']?=some (.deferred (some []))→Q .normal (act n L ({ target:=.collected D',args:=#[] }::D)) W)
  (hstop:∀ D' c W,w.heap.size≤D'→Ix c W→W.heap[D']?=some (.deferred (some []))→c.wp P Q (act n L ({ target:=.collected D',args:=#[] }::D)) W) :
  (Code.rangeFunc g #[p] (.region id #[{ dst:=some d,op:=.alloc T,type:=ty,pos:=pos,after:=af,guard:=none },{ dst:=none,op:=.store T (.tmp d) (.tmp p),type:=ty',pos:=pos',after:=af',guard:=none }] false) body).wp P Q (act n L D) w:=by
 obtain ⟨gf,cs,rfl,hc,hs⟩:=hs
 refine rangeW2 (m:=m) (ps:=[p]) (by omega) hKp hg hc hs (fun u hu=>by obtain ⟨x,_,rfl⟩:=List.mem_map.1 hu; rfl) I Ix hI hIx h0 (fun l k u A K hl hu hi hK=>?_) (fun D' W h1 h2 h3=>hdone D' W h1 (by rwa [List.length_map] at h2) h3) hstop
 rw [List.getElem?_map] at hu
 obtain ⟨x,hx,rfl⟩:=Option.map_eq_some_iff.1 hu
 have hzl:=hT.zlen
 refine rgR rfl<|sal hT fun b w1 hx1 hg1 hb1=>?_
 have e1:ev n (upd (upd L p (fv x)) d (.pointer (some ⟨b,0,none⟩))) (.tmp d)=.pointer (some ⟨b,0,none⟩):=by simp [ev,hd,upd]
 have e2:ev n (upd (upd L p (fv x)) d (.pointer (some ⟨b,0,none⟩))) (.tmp p)=fv x:=by
  simp only [ev,hp,upd,cond_true,hpd,cond_false]
  simp
 refine sst e1 e2 (cells_fv x) hT hb1 (by rw [Flat.len,hk']) (List.all_eq_true.2 (Flat.one x)) (by rw [Flat.len,← hk',hzl]; omega) fun w2 hch hb2=>nl<|hK _ w2 (hx1.chg hch hg1) fun W2 o ho hc2 hnd hc3 hrc=>?_
 have hb3:Bx w2 b T (Flat.enc x):=by
  have:splice z 0 (Flat.enc x)=Flat.enc x:=by simp [splice,Flat.len,← hk',← hzl]
  rwa [this] at hb2
 exact hround l k x A W2 b hx hi ⟨w2,l,o,by omega,hx1.chg hch hg1,ho,hc2,hnd,hc3⟩ hg1 (Nat.le_trans (hsz k A hi) hg1) (hb3.putne ho hc2 hc3) hrc
theorem rangeBN {l0:Nat} {r0:Loop} (hl0:w.heap[l0]?=some (.loop r0)) {α:Type} [Enc α] [Flat α] {g:Operand} {p d id T bytes k':Nat} {agg:Bool} {z:List Value} {body:Code} {xs:List α} {Kp:World→World→Prop} {v:Value} {pos pos':String} {ty ty':TypeId} {af af':Array Edge} {m:Nat} (hm:8≤m) (hg:ev n L g=v) (hKp:KpOk w.heap.size Kp) (hs:∃ gf cs,v=.func (.func gf) #[] cs∧Callable P gf∧SeqP P Kp (m - 1) gf cs (xs.map fun x=>#[fv x]) w) (hp:Nat.blt p n=true) (hd:Nat.blt d n=true) (hpd:Nat.beq p d=false)
  (hT:TI P T agg k' bytes z) (hk':k'=Enc.n α)
  (I:Nat→World→Prop) (Ix:Code→World→Prop) (hI:∀ k,Okb w.heap.size (I k)) (hIx:∀ c,Okb w.heap.size (Ix c)) (h0:I 0 w)
  (hround:∀ (l k:Nat) (x:α) (A W:World) (b:Nat),xs[k]?=some x→I k A→Asg w.heap.size A W→A.heap.size≤b→w.heap.size≤b→Bx W b T (Flat.enc x)→(∃ r,W.heap[l]?=some (.loop r)) →
   body.wpIn (RF l) (m - 2) P (RPost w.heap.size Kp (I (k + 1)) Ix W) (act n (upd (upd L p (fv x)) d (.pointer (some ⟨b,0,none⟩))) []) W)
  (hsz:∀ k A,I k A→w.heap.size≤A.heap.size)
  (hdone:∀ W,I xs.length W→Q .normal (act n L D) W)
  (hstop:∀ c W,Ix c W→c.wpIn (RF l0) m P Q (act n L D) W) :
  (Code.rangeFunc g #[p] (.region id #[{ dst:=some d,op:=.alloc T,type:=ty,pos:=pos,after:=af,guard:=none },{ dst:=none,op:=.store T (.tmp d) (.tmp p),type:=ty',pos:=pos',after:=af',guard:=none }] false) body).wpIn (RF l0) m P Q (act n L D) w:=by
 obtain ⟨gf,cs,rfl,hc,hs⟩:=hs
 refine rangeWN (m:=m) hl0 (ps:=[p]) (by omega) hKp hg hc hs (fun u hu=>by obtain ⟨x,_,rfl⟩:=List.mem_map.1 hu; rfl) I Ix hI hIx h0 (fun l k u A K hl hu hi hK=>?_) (fun W h2=>hdone W (by rwa [List.length_map] at h2)) hstop
 rw [List.getElem?_map] at hu
 obtain ⟨x,hx,rfl⟩:=Option.map_eq_some_iff.1 hu
 have hzl:=hT.zlen
 refine rgR rfl<|sal hT fun b w1 hx1 hg1 hb1=>?_
 have e1:ev n (upd (upd L p (fv x)) d (.pointer (some ⟨b,0,none⟩))) (.tmp d)=.pointer (some ⟨b,0,none⟩):=by simp [ev,hd,upd]
 have e2:ev n (upd (upd L p (fv x)) d (.pointer (some ⟨b,0,none⟩))) (.tmp p)=fv x:=by
  simp only [ev,hp,upd,cond_true,hpd,cond_false]
  simp
 refine sst e1 e2 (cells_fv x) hT hb1 (by rw [Flat.len,hk']) (List.all_eq_true.2 (Flat.one x)) (by rw [Flat.len,← hk',hzl]; omega) fun w2 hch hb2=>nl<|hK _ w2 (hx1.chg hch hg1) fun W2 o ho hc2 hnd hc3 hrc=>?_
 have hb3:Bx w2 b T (Flat.enc x):=by
  have:splice z 0 (Flat.enc x)=Flat.enc x:=by simp [splice,Flat.len,← hk',← hzl]
  rwa [this] at hb2
 exact hround l k x A W2 b hx hi ⟨w2,l,o,by omega,hx1.chg hch hg1,ho,hc2,hnd,hc3⟩ hg1 (Nat.le_trans (hsz k A hi) hg1) (hb3.putne ho hc2 hc3) hrc
end
end Go.Md
end
section
namespace Go.Md
open Go Go.RowKit
section
variable {κ ν:Type} [DecidableEq κ] [Enc κ] [Flat κ] [Key κ] [Enc ν] [Flat ν]
def MpS (w:World) (b:Nat) (l:List (κ×ν)):Prop :=
 ∃ es clock,w.heap[b]?=some (.map es clock)∧es.toList.map (fun e=>(e.key,e.val))=l.map (fun p=>(fv p.1,fv p.2))∧(l.map (·.1)).Nodup∧(∀ p∈l,Key.ok p.1=true) ∧
  (es.toList.map (·.born)).Nodup∧∀ e∈es.toList,e.born<clock
variable {w w':World} {b:Nat} {l:List (κ×ν)}
omit [DecidableEq κ] in
theorem MpS.mp (h:MpS w b l):Mp w b l:=by
 obtain ⟨es,c,h1,h2,h3,h4,_⟩:=h
 exact ⟨es,c,h1,h2,h3,h4⟩
omit [DecidableEq κ] in
theorem MpS.same (h:MpS w b l) (k:w'.heap[b]?=w.heap[b]?):MpS w' b l:=by
 obtain ⟨es,c,h1,h⟩:=h
 exact ⟨es,c,k.trans h1,h⟩
omit [DecidableEq κ] in
theorem MpS.lt (h:MpS w b l):b<w.heap.size:=by
 obtain ⟨es,c,h1,_⟩:=h
 exact (Array.getElem?_eq_some_iff.1 h1).1
omit [DecidableEq κ] in
theorem MpS.ext (h:MpS w b l) (k:Ext w w'):MpS w' b l:=h.same (k.block b h.lt)
omit [DecidableEq κ] in
theorem MpS.chg {c:Nat} (h:MpS w b l) (k:Chg c w w') (hne:b≠c):MpS w' b l:=h.same (k.other b hne)
omit [DecidableEq κ] in
theorem MpS.belp {ok:Nat→Prop} {N:Nat} (h:MpS w b l) (k:BelP ok N w w') (hb:b<N) (h1:ok b):MpS w' b l:=h.same (k.block b hb h1)
omit [DecidableEq κ] in
theorem MpS.tak {B:Nat} (h:MpS w b l) (k:Tak B w w'):MpS w' b l:=by
 obtain ⟨es,c,h1,h⟩:=h
 exact ⟨es,c,k.old _ _ h1 nofun,h⟩
omit [DecidableEq κ] in
theorem MpS.asg {B:Nat} (h:MpS w b l) (k:Asg B w w') (hb:b<B):MpS w' b l:=by
 obtain ⟨W1,q,o,hl,h1,h2,h3,_,h4⟩:=k
 exact (h.ext h1).chg h4 (by omega)
omit [DecidableEq κ] in
theorem Okb.mps {B:Nat} (hb:b<B):Okb B (fun w=>MpS w b l):=⟨fun h k=>h.ext k,fun h hB _ _ k=>h.chg k (by omega)⟩
omit [DecidableEq κ] in
theorem MpS.below {B:Nat} (h:MpS w b l) (k:Below B w w') (hB:b<B):MpS w' b l:=h.same (k.block b hB)
omit [DecidableEq κ] in
theorem MpS.new (w:World):MpS (κ:=κ) (ν:=ν) (w.alloc (.map #[] 0)) w.heap.size [] :=
 ⟨#[],0,by show (w.heap.push _)[w.heap.size]?=_; rw [Array.getElem?_push,if_pos rfl],rfl,by simp,by simp,by simp,by simp⟩
theorem mget_mput (l:List (κ×ν)) (k:κ) (d v:ν):mget d (mput l k v) k=v:=by
 induction l with
 | nil=>simp [mput,mget]
 | cons p l ih =>
  obtain ⟨a,c⟩:=p
  by_cases h:a=k
  ·simp [mput,mget,h]
  ·simp [mput,mget,h,ih]
theorem mput_mput (l:List (κ×ν)) (k:κ) (u v:ν):mput (mput l k u) k v=mput l k v:=by
 induction l with
 | nil=>simp [mput]
 | cons p l ih =>
  obtain ⟨a,c⟩:=p
  by_cases h:a=k
  ·simp [mput,h]
  ·simp [mput,h,ih]
theorem findIdx_stamp {l:List MapEntry} (hn:(l.map (·.born)).Nodup) {j:Nat} {e0:MapEntry} (h:l[j]?=some e0):l.findIdx? (fun e=>((e.born:Nat):Int) == ((e0.born:Nat):Int))=some j:=by
 induction l generalizing j with
 | nil=>simp at h
 | cons a r ih =>
  simp only [List.map_cons,List.nodup_cons] at hn
  cases j with
  | zero =>
   simp only [List.getElem?_cons_zero,Option.some.injEq] at h
   subst h
   simp [List.findIdx?_cons]
  | succ j =>
   simp only [List.getElem?_cons_succ] at h
   have hne:a.born≠e0.born:=fun e1=>hn.1 (List.mem_map.2 ⟨e0,List.mem_of_getElem? h,e1.symm⟩)
   have hb:(((a.born:Nat):Int) == ((e0.born:Nat):Int))=false:=by
    simp only [beq_eq_false_iff_ne,ne_eq,Int.natCast_inj]
    exact hne
   rw [List.findIdx?_cons,hb]
   simp [ih hn.2 h]
theorem run_estore {P:Program} {t:TypeId} {j:Nat} {k:κ} {u v:ν} {es:Array MapEntry} {clock:Nat} {e0:MapEntry} (hb:w.heap[b]?=some (.map es clock)) (he:es.toList.map (fun e=>(e.key,e.val))=l.map (fun p=>(fv p.1,fv p.2)))
  (hn:(l.map (·.1)).Nodup) (hok:∀ p∈l,Key.ok p.1=true) (hs:(es.toList.map (·.born)).Nodup) (hc:∀ e∈es.toList,e.born<clock) (hl:l[j]?=some (k,u)) (h0:es.toList[j]?=some e0) :
  ∃ w',(Instr.entryStore t (.map (some b)) (goInt e0.born) (fv v)).run P w=.ok () w'∧Chg b w w'∧MpS w' b (mput l k v):=by
 obtain ⟨h5,h6⟩:=chg_set (w:=w) (o:=.map (es.modify j (fun e'=>{ e' with val:=fv v })) clock) hb
 have hidx:es.findIdx? (fun e=>((e.born:Nat):Int) == ((e0.born:Nat):Int))=some j:=by
  have:=findIdx_stamp hs h0
  cases es
  simpa using this
 have hmod:(es.modify j (fun e'=>{ e' with val:=fv v })).toList=es.toList.set j { e0 with val:=fv v }:=by rw [Array.toList_modify,ChangeMaps.modify_eq_set _ _ _ e0 h0]
 obtain ⟨p,hp,hk1,hk2⟩:=es_at he h0
 rw [hl] at hp
 cases hp
 refine ⟨_,?_,h5,_,_,h6,?_,mput_nodup hn,fun p hp=>?_,?_,fun e h=>?_⟩
 ·simp [Instr.entryStore,MapKept.run_getObj_map hb,asInt,asIntOf,goInt,hidx,MapKept.run_setObj_map _ hb,Result.andThen,ChangeMaps.setBlock]
 ·rw [(mget_at (d:=v) hn hl).2.2.1 v,hmod,List.map_set,he,List.map_set,hk1]
 ·rcases mput_keys hp with rfl | hp
  ·exact hok (k,u) (List.mem_of_getElem? hl)
  ·exact hok p hp
 ·rw [hmod,List.map_set]
  have:(es.toList.map (·.born)).set j e0.born=es.toList.map (·.born):=by
   apply List.ext_getElem?
   intro i
   rw [List.getElem?_set]
   split
   ·rename_i h; subst h
    rw [List.getElem?_map,h0]
    have:=(List.getElem?_eq_some_iff.1 h0).1
    simpa using this
   ·rfl
  simp only at this ⊢
  rw [this]
  exact hs
 ·rw [hmod] at h
  rcases List.mem_or_eq_of_mem_set h with h | rfl
  ·exact hc e h
  ·exact hc e0 (List.mem_of_getElem? h0)
theorem run_entry {P:Program} {t tk te:TypeId} {k:κ} {d:ν} (ht:P.underlying t=some (.map tk te)) (K:KT P tk κ) (hz:(zeroValue te).run P w=.ok (fv d) w) (h:MpS w b l) (hk:Key.ok k=true) :
  ∃ (v0:Value) (st:Nat) (w1:World),(Instr.mapEntry t (.map (some b)) (fv k)).run P w=.ok (.tuple #[v0,goInt st]) w1∧Chg b w w1∧MpS w1 b (mput l k (mget d l k)) ∧
   ∀ v:ν,∃ w2,(Instr.entryStore t (.map (some b)) (goInt st) (fv v)).run P w1=.ok () w2∧Chg b w1 w2∧MpS w2 b (mput l k v):=by
 obtain ⟨es,c,hb,he,hn,hok,hs,hc⟩:=h
 obtain ⟨lk,hlk⟩:=K.of k hk
 rcases Mp.find K he hok hk w with ⟨h1,h2⟩ | ⟨j,u,h1,h2,e,h3,h4⟩
 ·obtain ⟨h5,h6⟩:=chg_set (w:=w) (o:=.map (es.push ⟨fv k,fv d,c⟩) (c + 1)) hb
  obtain ⟨g1,_,g3,_⟩:=mget_no (d:=d) h2
  have he':(es.push ⟨fv k,fv d,c⟩).toList.map (fun e=>(e.key,e.val))=(l++[(k,d)]).map (fun p=>(fv p.1,fv p.2)):=by
   rw [Array.toList_push,List.map_append,he]; simp
  have hn':((l++[(k,d)]).map (·.1)).Nodup:=by rw [← g3]; exact mput_nodup hn
  have hok':∀ p∈l++[(k,d)],Key.ok p.1=true:=fun p hp=>by
   rcases List.mem_append.1 hp with hp | hp
   ·exact hok p hp
   ·simp at hp; subst hp; exact hk
  have hs':((es.push ⟨fv k,fv d,c⟩).toList.map (·.born)).Nodup:=by
   simp only [Array.toList_push,List.map_append,List.map_cons,List.map_nil]
   refine List.nodup_append.2 ⟨hs,by simp,fun a ha q hq e1=>?_⟩
   simp only [List.mem_singleton] at hq
   obtain ⟨x,hx,rfl⟩:=List.mem_map.1 ha
   have:=hc x hx
   omega
  have hc':∀ e∈(es.push ⟨fv k,fv d,c⟩).toList,e.born<c + 1:=fun e h=>by
   rw [Array.toList_push] at h
   rcases List.mem_append.1 h with h | h
   ·have:=hc e h; omega
   ·simp at h; subst h; show c<c + 1; omega
  have hlen:es.toList.length=l.length:=by have:=congrArg List.length he; simpa using this
  refine ⟨fv d,c,_,?_,h5,?_,fun v=>?_⟩
  ·simp [Instr.mapEntry,run_underlying ht,MapKept.run_getObj_map hb,K.kd.check w false hlk,h1,hz,MapKept.run_setObj_map _ hb,Result.andThen,ChangeMaps.setBlock]
  ·rw [g1,g3]
   exact ⟨_,_,h6,he',hn',hok',hs',hc'⟩
  ·have h7:=run_estore (P:=P) (t:=t) (v:=v) (j:=l.length) (k:=k) (u:=d) (e0:=⟨fv k,fv d,c⟩) h6 he' hn' hok' hs' hc' (by simp) (by rw [Array.toList_push,← hlen]; simp)
   obtain ⟨w2,r1,r2,r3⟩:=h7
   refine ⟨w2,r1,r2,?_⟩
   rwa [← g3 d,mput_mput] at r3
 ·obtain ⟨h5,h6⟩:=chg_set (w:=w) (o:=.map (es.modify j (fun e'=>{ e' with key:=fv k })) c) hb
  obtain ⟨g1,_,g3,_⟩:=mget_at (d:=d) hn h2
  have h3':es.toList[j]?=some e:=by simpa using h3
  have hsame:es.modify j (fun e'=>{ e' with key:=fv k })=es:=by
   apply Array.ext'
   rw [Array.toList_modify,ChangeMaps.modify_eq_set _ _ _ e h3']
   have:({ e with key:=fv k }:MapEntry)=e:=by rw [← h4]
   rw [this]
   apply List.ext_getElem?
   intro i
   rw [List.getElem?_set]
   split
   ·rename_i h; subst h
    rw [h3']
    split
    ·rfl
    ·rename_i h; exact (h (List.getElem?_eq_some_iff.1 h3').1).elim
   ·rfl
  have hput:mput l k u=l:=by
   rw [g3 u]
   apply List.ext_getElem?
   intro i
   rw [List.getElem?_set]
   split
   ·rename_i h; subst h
    rw [h2]
    split
    ·rfl
    ·rename_i h; exact (h (List.getElem?_eq_some_iff.1 h2).1).elim
   ·rfl
  rw [hsame] at h5 h6
  refine ⟨fv u,e.born,_,?_,h5,?_,fun v=>run_estore (j:=j) (u:=u) h6 he hn hok hs hc h2 h3'⟩
  ·simp [Instr.mapEntry,run_underlying ht,MapKept.run_getObj_map hb,K.kd.check w false hlk,h1,h3,h4,K.kd.stays w hlk,hsame,MapKept.run_setObj_map _ hb,Result.andThen,ChangeMaps.setBlock]
  ·rw [g1,hput]
   exact ⟨_,_,h6,he,hn,hok,hs,hc⟩
end
theorem Mks.belpd {B:Nat} {ok:Nat→Prop} {D:List Deferred} {w w1:World} (h:Mks B D w) (k:BelP ok w.heap.size w w1) (hk:∀ q,B≤q→w.heap[q]?=some (.deferred (some []))→ok q):Mks B D w1:=by
 obtain ⟨rs,e,hn,h⟩:=h
 exact ⟨rs,e,hn,fun r hr=>⟨(h r hr).1,(k.block r (Array.getElem?_eq_some_iff.1 (h r hr).2).1 (hk r (h r hr).1 (h r hr).2)).trans (h r hr).2⟩⟩
section
variable {P:Program} {Q:Exit→Act→World→Prop} {n:Nat} {L:Fr} {D:List Deferred} {w:World} {ops:Array Oper} {rest:List Oper}
variable {ty:TypeId} {pos:String} {af:Array Edge} {x y z:Operand} {t tk te:TypeId}
variable {κ ν:Type} [DecidableEq κ] [Enc κ] [Flat κ] [Key κ] [Enc ν] [Flat ν]
theorem sment {d b:Nat} {l:List (κ×ν)} {k:κ} {u:ν} (hx:ev n L x=.map (some b)) (hy:ev n L y=fv k) (ht:P.underlying t=some (.map tk te)) (K:KT P tk κ) (hz:(zeroValue te).run P w=.ok (fv u) w) (h:MpS w b l) (hk:Key.ok k=true)
  (cont:∀ (v0:Value) (st:Nat) w1,Chg b w w1→MpS w1 b (mput l k (mget u l k))→(∀ v:ν,∃ w2,(Instr.entryStore t (.map (some b)) (goInt st) (fv v)).run P w1=.ok () w2∧Chg b w1 w2∧MpS w2 b (mput l k v)) →
   wpList P ops Q rest (act n (upd L d (.tuple #[v0,goInt st])) D) w1) :
  wpList P ops Q ({ dst:=some d,op:=.mapEntry t x y,type:=ty,pos:=pos,after:=af,guard:=none }::rest) (act n L D) w:=by
 obtain ⟨v0,st,w1,h1,h2,h3,h4⟩:=run_entry ht K hz h hk
 exact Zv (v:=.tuple #[v0,goInt st]) (w':=w1) (by simp [execOp,hx,hy,h1]) (cont v0 st w1 h2 h3 h4)
theorem sents {b st:Nat} {v:ν} {w2:World} (hx:ev n L x=.map (some b)) (hy:ev n L y=goInt st) (hz:ev n L z=fv v) (h:(Instr.entryStore t (.map (some b)) (goInt st) (fv v)).run P w=.ok () w2) (cont:wpList P ops Q rest (act n L D) w2) :
  wpList P ops Q ({ dst:=none,op:=.entryStore t x y z,type:=ty,pos:=pos,after:=af,guard:=none }::rest) (act n L D) w:=by
 refine wpList_plain rfl fun K hK=>?_
 simp only [Oper.wp,ev_act,execOp,hx,hy,hz,Sem.run_bind,h,Result.andThen,Oper.upon]
 exact hK _ _ cont
theorem smmkS {d:Nat} (cont:∀ b w',Ext w w'→w.heap.size≤b→MpS (κ:=κ) (ν:=ν) w' b []→wpList P ops Q rest (act n (upd L d (.map (some b))) D) w') :
  wpList P ops Q ({ dst:=some d,op:=.makeMap t none,type:=ty,pos:=pos,after:=af,guard:=none }::rest) (act n L D) w :=
 Zv (v:=.map (some w.heap.size)) (w':=w.alloc (.map #[] 0)) (by simp [execOp,RowKit.run_makeMap]) (cont _ _ (Ext.alloc _ _) (Nat.le_refl _) (MpS.new w))
end
end Go.Md
end
section
namespace Go.Proofs.YtfmelbioccbdoaaGreat
open Go Go.Md Go.RowKit
attribute [local irreducible] Go.wpList Go.Code.wp Go.Calls Go.Md.Rnd Go.Md.Mt Go.Md.MtM Go.Md.RndM Go.Code.wpIn Go.wpListIn
abbrev TPM:=List ((Int×Int)×Int)
def jp_in (x:TTable) (m:Nat) (ways step:Int):List TState→TMem→TPM→Option (TMem×TPM)
 | [],A,O=>some (A,O)
 | u::l,A,O =>
  (join_left x m A u) >>= fun q =>
  if decide (0<w64 (ways * q.1))=true then
   (kok ((step,u.2):Int×Int)) >>= fun _=>jp_in x m ways step l q.2 (mput O (step,u.2) (w64 (mget 0 O (step,u.2) + w64 (ways * q.1))))
  else jp_in x m ways step l q.2 O
def jp_mid (x:TTable) (m:Nat) (step:Int):List TState→TMem→TMem→TPM→Option (TPM×TMem×TMem)
 | [],A,U,O=>some (O,A,U)
 | s::l,A,U,O =>
  (join_come x m U s) >>= fun c=>(join_behind x s) >>= fun bl=>(jp_in x m c.1 step bl A O) >>= fun r=>jp_mid x m step l r.1 c.2 r.2
def jp_out (x:TTable) (m:Nat):Nat→Nat→TMem→TMem→TPM→Option (TPM×TMem×TMem)
 | 0,_,A,U,O=>some (O,A,U)
 | n + 1,k,A,U,O=>(join_states x (k:Int)) >>= fun l=>(jp_mid x m (k:Int) l A U O) >>= fun r=>jp_out x m n (k + 1) r.2.1 r.2.2 r.1
def join_pairs (x:TTable) (m:Nat) (A U:TMem):Option (TPM×TMem×TMem):=jp_out x m x.2.1.length 0 A U []
theorem loop_belp {ok:Nat→Prop} {N:Nat} {w w':World} {l:Nat} {r:Loop} (h:w.heap[l]?=some (.loop r)) (k:BelP ok N w w') (hl:l<N) (h1:ok l):w'.heap[l]?=some (.loop r):=(k.block l hl h1).trans h
theorem loop_mp {κ ν:Type} [DecidableEq κ] [Enc κ] [Flat κ] [Key κ] [Enc ν] [Flat ν] {w:World} {l b:Nat} {r:Loop} {x:List (κ×ν)} (h:w.heap[l]?=some (.loop r)) (m:Mp w b x):l≠b:=by
 rintro rfl
 obtain ⟨es,c,h1,_⟩:=m
 rw [h] at h1
 cases h1
set_option maxHeartbeats 16000000 in
theorem c118 {x:TTable} {m:Nat} {w0:World} {b ma mu N:Nat} {A U:TMem} {r:TPM×TMem×TMem} (hT0:Tb N w0 b ma mu x) (ha0:Mp w0 ma A) (hu0:Mp w0 mu U) (hF:join_pairs x m A U=some r) :
  Calls Tryz.prog 118 [.pointer (some ⟨b,0,none⟩)].toArray w0 (Ret fun v w'=>∃ bm,v=.map (some bm)∧w0.heap.size≤bm∧MpS w' bm r.1∧Mp w' ma r.2.1∧Mp w' mu r.2.2∧BelP (fun q=>q≠ma∧q≠mu) w0.heap.size w0 w'):=by
 unfold join_pairs at hF
 refine entrM (m:=12) (n:=48) Tryz.func118 rfl rfl rfl<|Zr<|sbx rfl rfl fun b1 w1 hx1 hg1 hb1=>?_
 refine Za<|nl<|Zr<|smmkS (κ:=Int×Int) (ν:=Int) fun bm w2 hx2 hg2 hm2=>sal ti203 fun b3 w3 hx3 hg3 hb3=>sst rfl rfl rfl ti203 hb3 rfl rfl (ble rfl) fun w4 hch4 hb4=>?_
 have kx4:Ext w2 w4:=hx3.chg hch4 hg3
 have k2:=hx1.tr hx2
 have k4:=k2.tr kx4
 have t1:=(hb1.ext hx2).ext kx4
 have h3:Bx w4 b3 203 [.map (some bm)]:=hb4
 have mm:=hm2.ext kx4
 have T4:=hT0.ext k4
 have ha4:=ha0.ext k4
 have hu4:=hu0.ext k4
 have z1:=hx1.size
 have z2:=k2.size
 have z4:=k4.size
 have zx4:=kx4.size
 have la:=ha0.lt
 have lu:=hu0.lt
 have lt1:=hb1.lt
 have lm:=hm2.lt
 have l3:=h3.lt
 have na1:b1≠ma:=fun e=>(ha4.not_cells t1) e.symm
 have nu1:b1≠mu:=fun e=>(hu4.not_cells t1) e.symm
 have nm1:b1≠bm:=fun e=>(mm.mp.not_cells t1) e.symm
 have na3:b3≠ma:=fun e=>(ha4.not_cells h3) e.symm
 have nu3:b3≠mu:=fun e=>(hu4.not_cells h3) e.symm
 have nm3:b3≠bm:=fun e=>(mm.mp.not_cells h3) e.symm
 have nmu:ma≠mu:=hT0.ne
 have gm:w0.heap.size≤bm:=by omega
 have nma:bm≠ma:=by omega
 have num:bm≠mu:=by omega
 have hNs:=hT0.size
 generalize hbase:w4.heap.size=base at l3
 have hz:=T4.steps; obtain ⟨a1,c1,h4,hs4⟩:=hz
 have hlen:=(RVo.rv hs4).cap
 refine nl<|wp_seq<|Zr<|Zv (xld rfl ti177 ((Bx.cs t1).at 0 rfl))<|Zv (xnil rfl)<|Zv (xfa rfl fa199_1)<|Zv (xld rfl ti51 h4)<|Zv (xlen rfl Tryz.underlying51)<|Zm<|nl<|?_
 refine ctM w0.heap.size (fun L w=>L 3=.pointer (some ⟨b3,0,none⟩)∧Bx w b3 203 [.map (some bm)]∧MpS w bm r.1∧Mp w ma r.2.1∧Mp w mu r.2.2∧BelP (fun q=>q≠ma∧q≠mu) w0.heap.size w0 w) ?_ ?_
 ·refine wp_block<|lpM w0.heap.size (I:=fun m' L w=>∃ (k:Nat) (A U:TMem) (O:TPM),k + m'=x.2.1.length∧jp_out x m m' k A U O=some r∧L 15=.int .i64 (k:Int)∧L 14=.int .i64 (x.2.1.length:Int)∧L 1=.pointer (some ⟨b1,0,none⟩)∧L 3=.pointer (some ⟨b3,0,none⟩) ∧
    Bx w b1 177 [.pointer (some ⟨b,0,none⟩)]∧Bx w b3 203 [.map (some bm)]∧MpS w bm O∧Mp w ma A∧Mp w mu U∧Tb N w b ma mu x∧BelP (fun q=>q≠ma∧q≠mu) w0.heap.size w0 w∧base≤w.heap.size) x.2.1.length Mks.nil
   ⟨0,A,U,[],by simp,hF,rfl,rfl,rfl,rfl,t1,h3,mm,ha4,hu4,T4,BelP.of k4 (Nat.le_refl _),Nat.le_of_eq hbase.symm⟩ ?_
  clear hF t1 h3 mm ha4 hu4 T4 h4 hs4
  rintro m' L D w hM ⟨k,A,U,O,hk,hB,l15,l14,l1,l3',t1,h3,mm,ha,hu,T,hx,hbs⟩
  refine Zr<|Zv (xlss l15 l14)<|nl<|wp_seq<|cnd rfl (fun hc0=>?_) (fun hc0=>?_)
  ·have hc0:(k:Int)<(x.2.1.length:Int):=by simpa using hc0
   obtain ⟨k',rfl⟩:∃ k',m'=k' + 1:=⟨m' - 1,by omega⟩
   rw [jp_out] at hB
   have hz:=Md.bs hB; obtain ⟨l,El,hB⟩:=hz
   have hz:=Md.bs hB; obtain ⟨r2,E2,hB⟩:=hz
   have hadd:w64 ((k:Int) + 1)=((k + 1:Nat):Int):=by
    have hmx:x.2.1.length≤maxLen:=by omega
    rw [w64,IntWalk.i64_in _ (by unfold maxLen at hmx; omega)]
    rfl
   refine wp_skip<|wp_seq<|wp_block<|Zr<|Zv (xmva l15)<|sal ti3 fun b4 w5 hx5 hg5 hb5=>sst rfl rfl rfl ti3 hb5 rfl rfl (ble rfl) fun w6 hch6 hb6=>?_
   have kx6:Ext w w6:=hx5.chg hch6 hg5
   have h46:Bx w6 b4 3 [.int .i64 (k:Int)]:=hb6
   have t6:=t1.ext kx6
   have h36:=h3.ext kx6
   have m6:=mm.ext kx6
   have a6:=ha.ext kx6
   have u6:=hu.ext kx6
   have T6:=T.ext kx6
   refine nl<|Zr<|Zv (xld l1 ti177 ((Bx.cs t6).at 0 rfl))<|Zv (xld rfl ti3 ((Bx.cs h46).at 0 rfl))<|Zc (xc cb227 (mc rfl<|mc rfl mn)) (c227 (b:=b) (step:=(k:Int))) fun v w7 hv=>?_
   obtain ⟨hst,hx7⟩:=hv
   have kx7:=kx6.tr hx7
   have h47:=h46.ext hx7
   have t7:=t6.ext hx7
   have h37:=h36.ext hx7
   have m7:=m6.ext hx7
   have a7:=a6.ext hx7
   have u7:=u6.ext hx7
   have T7:=T6.ext hx7
   have hM7:=hM.ext kx7
   have z6:=kx6.size
   have z7:=hx7.size
   have z07:=hx.size
   have l47:=h47.lt
   have g4:base≤b4:=by omega
   have na4:b4≠ma:=by omega
   have nu4:b4≠mu:=by omega
   have nm4:b4≠bm:=by omega
   have hla7:ma<w7.heap.size:=by omega
   have hlu7:mu<w7.heap.size:=by omega
   have hlm7:bm<w7.heap.size:=by omega
   have hseq:=hst.go (N:=N) (ok:=fun q=>q≠ma∧q≠mu∧q≠bm) T7 (fun q h1 h2 h3=>⟨h2,h3,by omega⟩) (fun q h1=>⟨by omega,by omega,by omega⟩) El 11
   refine nl<|wp_block<|rangeB2 (α:=TState) (xs:=l) (m:=12) (by decide) rfl KpOk.belp hseq rfl rfl rfl ti326 rfl
    (fun j W=>∃ (A U:TMem) (O:TPM),jp_mid x m (k:Int) (l.drop j) A U O=some r2∧Mp W ma A∧Mp W mu U∧MpS W bm O∧BelP (fun q=>q≠ma∧q≠mu∧q≠bm) w7.heap.size w7 W∧w7.heap.size≤W.heap.size∧Mks w0.heap.size D W)
    (fun _ _=>False) (fun k=>Okb.ex fun _=>Okb.ex fun _=>Okb.ex fun _=>Okb.pure.and ((Okb.mp hla7).and ((Okb.mp hlu7).and ((Okb.mps hlm7).and ((Okb.belp (Nat.le_refl _) (Nat.le_refl _)).and (Okb.size.and (Okb.mks hM7 rfl))))))) (fun _=>Okb.pure)
    ⟨A,U,O,E2,a7,u7,m7,BelP.refl,Nat.le_refl _,hM7⟩ ?round (fun k W h=>by obtain ⟨_,_,_,_,_,_,_,_,h,_⟩:=h; exact h) ?done (fun _ _ _ _ h _=>h.elim)
   case round =>
    rintro ll j s A1 W b5 hu' ⟨A,U,O,hB2,i1,i2,i3,i4,i5,i6⟩ hA hg8 hg8' hb8 ⟨rec,hrec⟩
    rw [drop_at hu',jp_mid] at hB2
    have hz:=Md.bs hB2; obtain ⟨c,Ec,hB2⟩:=hz
    have hz:=Md.bs hB2; obtain ⟨bl,Eb,hB2⟩:=hz
    have hz:=Md.bs hB2; obtain ⟨r3,E3,hB2⟩:=hz
    have i1:=i1.asg hA hla7
    have i2:=i2.asg hA hlu7
    have i3:=i3.asg hA hlm7
    have i4:=i4.asg hA i5 (Nat.le_refl _)
    have i6:=i6.asg hA
    have hW:w7.heap.size≤W.heap.size:=i4.size
    have jt:=t7.belp i4 t7.lt ⟨na1,nu1,nm1⟩
    have Tg:=T7.belp i4 T7.size (fun q h1 h2 h3=>⟨h2,h3,by omega⟩)
    have nu5:b5≠mu:=by omega
    have na5:b5≠ma:=by omega
    have nm5:b5≠bm:=by omega
    refine wpIn_block<|wpIn_seq<|rgR rfl<|Zv (xld l1 ti177 ((Bx.cs jt).at 0 rfl))<|Zv (xlda rfl ti326 (Flat.len s) (Bx.cs hb8))<|Zc (xc cb228 (mc rfl<|mc rfl mn)) (c228 m Tg i2 Ec) ?_
    rintro _ w8 ⟨rfl,hu8,hp8⟩
    have hs8:=hp8.size
    refine sal ti2 fun b6 w9 hx9 hg9 hb9=>sst rfl rfl rfl ti2 hb9 rfl rfl (ble rfl) fun w10 hch10 hb10=>?_
    have kx10:Ext w8 w10:=hx9.chg hch10 hg9
    have h6:Bx w10 b6 2 [.int .i64 c.1]:=hb10
    have hp10:BelP (fun q=>q≠mu) W.heap.size W w10:=hp8.ext kx10 hs8
    have hs10:=hp10.size
    have j1:=jt.belp hp10 jt.lt nu1
    have j8:=hb8.belp hp10 hb8.lt nu5
    have Th:=Tg.belp hp10 Tg.size (fun q h1 h2 h3=>h3)
    refine nl<|wpIn_seq<|rgR rfl<|Zv (xld l1 ti177 ((Bx.cs j1).at 0 rfl))<|Zv (xlda rfl ti326 (Flat.len s) (Bx.cs j8))<|Zc (xc cb229 (mc rfl<|mc rfl mn)) (c229 (b:=b) (s:=s)) fun v2 w11 hv=>?_
    obtain ⟨hbh,hx11⟩:=hv
    have hp11:BelP (fun q=>q≠mu) W.heap.size W w11:=hp10.ext hx11 hs10
    have hs11:=hx11.size
    have hl11:=loop_belp hrec hp11 (Array.getElem?_eq_some_iff.1 hrec).1 (loop_mp hrec i2)
    have a11:=i1.belp hp11 i1.lt nmu
    have m11:=i3.belp hp11 i3.lt num
    have u11:=(hu8.ext kx10).ext hx11
    have T11:=Th.ext hx11
    have g6:=h6.ext hx11
    have q1:=j1.ext hx11
    have q3:=(h37.belp i4 h37.lt ⟨na3,nu3,nm3⟩).belp hp11 (by have:=h37.lt; omega) nu3
    have q4:=(h47.belp i4 h47.lt ⟨na4,nu4,nm4⟩).belp hp11 (by omega) nu4
    have M11:Mks w0.heap.size D w11:=i6.belp hp11 (fun q h1=>by omega)
    have n6a:b6≠ma:=by omega
    have n6m:b6≠bm:=by omega
    have n6u:b6≠mu:=by omega
    have hla11:ma<w11.heap.size:=by omega
    have hlm11:bm<w11.heap.size:=by omega
    have hseq2:=hbh.go (N:=N) (ok:=fun q=>q≠ma∧q≠bm) T11 (fun q h1 h2 h3=>⟨h2,by omega⟩) (fun q h1=>by have:=kx10.size; exact ⟨by omega,by omega⟩) Eb 9
    refine nl<|wpIn_block<|rangeBN hl11 (α:=TState) (xs:=bl) (m:=10) (by decide) rfl KpOk.belp hseq2 rfl rfl rfl ti326 rfl
     (fun i V=>∃ (A:TMem) (O:TPM),jp_in x m c.1 (k:Int) (bl.drop i) A O=some r3∧Mp V ma A∧MpS V bm O∧BelP (fun q=>q≠ma∧q≠bm) w11.heap.size w11 V∧w11.heap.size≤V.heap.size)
     (fun _ _=>False) (fun k=>Okb.ex fun _=>Okb.ex fun _=>Okb.pure.and ((Okb.mp hla11).and ((Okb.mps hlm11).and ((Okb.belp (Nat.le_refl _) (Nat.le_refl _)).and Okb.size)))) (fun _=>Okb.pure)
     ⟨A,O,E3,a11,m11,BelP.refl,Nat.le_refl _⟩ ?round2 (fun k W h=>by obtain ⟨_,_,_,_,_,_,h⟩:=h; exact h) ?done2 (fun _ _ h=>h.elim)
    case round2 =>
     rintro lk i u A2 V b7 hv' ⟨A,O,hB3,e1,e2,e3,e4⟩ hA2 hg7 hg7' hb7 ⟨rec2,hrec2⟩
     rw [drop_at hv',jp_in] at hB3
     have hz:=Md.bs hB3; obtain ⟨q,Eq,hB3⟩:=hz
     have e1:=e1.asg hA2 hla11
     have e2:=e2.asg hA2 hlm11
     have e3:=e3.asg hA2 e4 (Nat.le_refl _)
     have hV:w11.heap.size≤V.heap.size:=e3.size
     refine wpIn_block<|wpIn_seq<|wplRS (fun wd w'=>BelP (fun q=>q≠ma) wd.heap.size wd w') [] (.pure false 0 (.pure false 1 (.pure false 2 (.eff 3 (.pure true 4 (.pure true 5 .fin)) .stop)))) mixed (by kernel_rfl) (fun wg hxg=>?_)
     have e3g:=e3.ext hxg hV
     have s6:=g6.belp e3g g6.lt ⟨n6a,n6m⟩
     have s1:=q1.belp e3g q1.lt ⟨na1,nm1⟩
     have s7:=hb7.ext hxg
     have sT:=T11.belp e3g T11.size (fun q h1 h2 h3=>⟨h2,by omega⟩)
     have sa:=e1.ext hxg
     have sm:=e2.ext hxg
     have n7a:b7≠ma:=by omega
     have n7m:b7≠bm:=by omega
     have zg:=hxg.size
     refine Zq rfl (fun _ hS=>xld rfl ti2 ((Bx.cs (s6.belp (hS.resolve_left nofun) s6.lt n6a)).at 0 rfl)) BelP.refl<|Zq rfl (fun _ hS=>xld l1 ti177 ((Bx.cs (s1.belp (hS.resolve_left nofun) s1.lt na1)).at 0 rfl)) BelP.refl<|Zq rfl (fun _ hS=>xlda rfl ti326 (Flat.len u) (Bx.cs (s7.belp (hS.resolve_left nofun) s7.lt n7a))) BelP.refl<|?_
     refine pe1 rfl<|Zc (xc cb226 (mc rfl<|mc rfl mn)) (c226 m sT sa Eq) ?_
     rintro _ w12 ⟨rfl,ha12,hp12⟩
     refine nl ⟨fun _ h=>h.trans hp12,?_⟩
     refine Zp rfl (fun _=>xmul rfl rfl)<|Zp rfl (fun _=>xas)<|?_
     have z12:=hp12.size
     have p12:BelP (fun q=>q≠ma∧q≠bm) w11.heap.size V w12:=(BelP.of hxg hV).trans (hp12.weak fun q h1 h2=>⟨by omega,h2.1⟩)
     have kf12:KeepsFrom w11.heap.size V w12:=hxg.kf.trans (hp12.kf fun q h1=>by omega)
     have mb12:=sm.belp hp12 sm.lt nma
     refine wpIn_seq<|rgR rfl<|Zm<|Zv (xgtr rfl rfl)<|nl<|cndR rfl (fun hf=>?_) (fun hf=>?_)
     ·have hB3:=ifp hB3 hf
      have hz:=Md.bs hB3; obtain ⟨_,Ek,hB3⟩:=hz
      have hkey:=kok_spec Ek
      have s3:=((q3.belp e3g q3.lt ⟨na3,nm3⟩).belp hp12 (by have:=q3.lt; omega) na3)
      have s4:=((q4.belp e3g q4.lt ⟨na4,nm4⟩).belp hp12 (by have:=q4.lt; omega) na4)
      have s7':=s7.belp hp12 s7.lt n7a
      refine wplRS (fun wd w'=>BelP (fun q=>q≠bm) wd.heap.size wd w'∧∃ O',MpS w' bm O'∧mget 0 O' (((k:Int),u.2):Int×Int)=mget 0 O ((k:Int),u.2)) [10] (.pure false 0 (.pure false 1 (.pure true 2 (.pure false 3 (.pure true 4 (.pure false 5 (.pure true 6 (.pure true 7 (.eff 8 (.pure true 9 (.eff 10 .fin .stop)) .stop))))))))) mixed (by kernel_rfl) (fun wh hxh=>?_)
      have r3':=s3.ext hxh
      have r4':=s4.ext hxh
      have r7':=s7'.ext hxh
      have rm:=mb12.ext hxh
      have hS0:BelP (fun q=>q≠bm) wh.heap.size wh wh∧∃ O',MpS wh bm O'∧mget 0 O' (((k:Int),u.2):Int×Int)=mget 0 O ((k:Int),u.2):=⟨BelP.refl,O,rm,rfl⟩
      refine Zq rfl (fun _ hS=>xld l3' ti203 ((Bx.cs (r3'.belp (hS.resolve_left nofun).1 r3'.lt nm3)).at 0 rfl)) hS0<|Zq rfl (fun _ hS=>xld rfl ti3 ((Bx.cs (r4'.belp (hS.resolve_left nofun).1 r4'.lt nm4)).at 0 rfl)) hS0<|Zp rfl (fun _=>xfa rfl fa326_1)<|Zq rfl (fun _ hS=>xld rfl ti3 ((Bx.cs (r7'.belp (hS.resolve_left nofun).1 r7'.lt n7m)).at 1 rfl)) hS0<|Zp rfl (fun _=>xbdv (r:=[.int .i64 (k:Int),.int .i64 u.2]) ti206 sp206 (pc rfl (pc rfl pn)) rfl)<|?_
      refine pv rfl rfl rfl (v:=fv (mget 0 O (((k:Int),u.2):Int×Int))) (fun w' hS=>by
       obtain ⟨_,O',h1,h2⟩:=hS.resolve_left nofun
       rw [← h2]
       exact xlku (d:=(0:Int)) Tryz.underlying203 kt206 (zv2 _) h1.mp hkey rfl rfl) (.inr hS0)<|Zn rfl<|Zp rfl (fun _=>xadd rfl rfl)<|?_
      refine pe1 rfl<|sment (k:=(((k:Int),u.2):Int×Int)) (u:=(0:Int)) rfl rfl Tryz.underlying203 kt206 (zv2 _) rm hkey fun v0 st w13 hch13 hm13 hes=>nl ⟨fun _ h=>⟨h.1.chg hch13 (.inr fun h=>h rfl),_,hm13,mget_mput _ _ _ _⟩,?_⟩
      obtain ⟨w14,hrun,hch14,hm14⟩:=hes (w64 (mget 0 O (((k:Int),u.2):Int×Int) + w64 (c.1 * q.1)))
      refine Zp rfl (fun _=>xext (vs:=[v0,goInt st]) rfl rfl)<|pe1 rfl<|sents rfl rfl rfl hrun<|nl ⟨fun h=>(h (by decide)).elim,?_⟩
      have zh:=hxh.size
      have ha14:=((ha12.ext hxh).chg hch13 (Ne.symm nma)).chg hch14 (Ne.symm nma)
      have p14:BelP (fun q=>q≠ma∧q≠bm) w11.heap.size V w14:=((p12.ext hxh (by omega)).chg hch13 (.inr fun h=>h.2 rfl)).chg hch14 (.inr fun h=>h.2 rfl)
      have kf14:KeepsFrom w11.heap.size V w14:=((kf12.ext hxh).chgc hch13 (.inl hlm11)).chgc hch14 (.inl hlm11)
      exact ⟨kf14,p14,q.2,_,hB3,ha14,hm14,e3.trans p14,Nat.le_trans hV p14.size⟩
     ·have hB3:=ifn hB3 hf
      exact wpIn_skip ⟨kf12,p12,q.2,O,hB3,ha12,mb12,e3.trans p12,Nat.le_trans hV p12.size⟩
    case done2 =>
     rintro V ⟨A,O,hB3,e1,e2,e3,e4⟩
     rw [List.drop_length,jp_in] at hB3
     cases hB3
     have hl10:=kx10.size
     have pV:BelP (fun q=>q≠ma∧q≠mu∧q≠bm) w7.heap.size W V:=(hp11.weak fun q h1 h2=>⟨by omega,h2.2.1⟩).trans (e3.weak fun q h1 h2=>⟨by omega,h2.1,h2.2.2⟩)
     have kfV:KeepsFrom w7.heap.size W V:=((hp8.kf fun q h1=>by omega).trans (kx10.kf.trans hx11.kf)).trans (e3.kf fun q h1=>⟨by omega,by omega⟩)
     refine ⟨kfV,pV,A,c.2,O,hB2,e1,?_,e2,i4.trans pV,Nat.le_trans hW pV.size,?_⟩
     ·exact u11.belp e3 u11.lt ⟨Ne.symm nmu,Ne.symm num⟩
     ·refine M11.belpd (ok:=fun q=>q≠ma∧q≠bm) e3 (fun q h1 h2=>⟨by omega,fun e=>?_⟩)
      subst e
      obtain ⟨es,cl,h3,_⟩:=m11
      rw [h2] at h3
      cases h3
   case done =>
    rintro D' W hD ⟨A,U,O,hB2,i1,i2,i3,i4,i5,i6⟩ hK
    rw [List.drop_length,jp_mid] at hB2
    cases hB2
    have hMW:=Mks.cons hM7 i6 (by omega) hD hK
    refine rg<|Zv (xadd l15 rfl)<|Zm<|nl<|?_
    refine lqM k' (Nat.lt_succ_self _) hMW ⟨k + 1,A,U,O,by omega,hB,congrArg _ hadd,l14,l1,l3',t7.belp i4 t7.lt ⟨na1,nu1,nm1⟩,h37.belp i4 h37.lt ⟨na3,nu3,nm3⟩,i3,i1,i2,T7.belp i4 T7.size (fun q h1 h2 h3=>⟨h2,h3,by omega⟩),?_,by omega⟩
    exact (hx.ext kx7 (by omega)).trans (i4.weak fun q h1 h2=>⟨by omega,h2.1,h2.2,by omega⟩)
  ·have hc0:¬ (k:Int)<(x.2.1.length:Int):=by simpa using hc0
   obtain rfl:m'=0:=by omega
   rw [jp_out] at hB
   cases hB
   exact wp_exit<|lfM hM ⟨l3',h3,mm,ha,hu,hx⟩
 rintro L D w hM ⟨l3',h3,mm,ha,hu,hx⟩
 refine Zr<|Zv (xld l3' ti203 ((Bx.cs h3).at 0 rfl))<|Za<|nl<|wp_ret<|rtMs rfl hM fun w' hk=>⟨_,.tmp rfl rfl .nil,bm,rfl,gm,mm.tak hk,ha.tak hk,hu.tak hk,hx.tak hk (Nat.le_refl _)⟩
end Go.Proofs.YtfmelbioccbdoaaGreat
end
section
namespace Go.Proofs.YtfmelbioccbdoaaGreat
open Go Go.Md Go.RowKit
attribute [local irreducible] Go.wpList Go.Code.wp Go.Calls Go.Md.Rnd Go.Md.Mt Go.Md.MtM Go.Md.RndM Go.Code.wpIn
theorem c113m {w0:World} {v0:Value} {x0:((List ((((Int×Int)×Int)×((Int×Int)×Int))×Bool))×Int×(Int×Int))} (r0:RV w0 v0 x0) {v1:Value} {x1:(List (Int×Bool))} (r1:RV w0 v1 x1) {F:Nat} {r:((Ob (((List ((((Int×Int)×Int)×((Int×Int)×Int))×Bool))×Int×(Int×Int))×(List (Int×Bool))×(Ar 16 (Ar 16 Int))×Opq×Opq))×Int)} (hF:join_open F x0 x1=some r) :
  Calls Tryz.prog 113 [v0,v1].toArray w0 (Ret fun v w'=>∃ u0:Value,v=.tuple #[u0,.int .i64 r.2]∧RV w' u0 r.1∧(r.2=0→TbN w0.heap.size w' u0 r.1)∧Ext w0 w'):=by
 unfold join_open at hF
 have hz:=id r0; obtain ⟨_,rfl,⟨_,_,rfl,⟨a1,cq1,rfl,p1,q3,e1⟩,⟨_,_,rfl,rfl,⟨_,_,rfl,rfl,rfl⟩⟩⟩⟩:=hz
 have r3:=RV.of1 p1 q3 e1
 have hz:=r1.sl; obtain ⟨a2,cq2,rfl,-,-,-⟩:=hz
 refine entr (n:=19) Tryz.func113 rfl rfl rfl<|Zr<|sbx rfl rfl fun b3 w1 hx1 hg1 hb1=>?_
 have r4:=r1.ext hx1
 have r5:=r3.ext hx1
 have r6:=r0.ext hx1
 refine Za<|Za<|nl<|wp_seq<|Zr<|Zv (xlda rfl ti48 rfl (Bx.cs hb1))<|?_
 have hz:=bs hF; obtain ⟨x3,Ex3,hF⟩:=hz
 refine Zc (xc cb214 (mc rfl mn)) (c214 (show RV (α:=((List ((((Int×Int)×Int)×((Int×Int)×Int))×Bool))×Int×(Int×Int))) _ (.agg [.slice a1 x0.1.length cq1,.int .i64 x0.2.1,.int .i64 x0.2.2.1,.int .i64 x0.2.2.2].toArray) (x0.1,x0.2.1,(x0.2.2.1,x0.2.2.2)) from ⟨_,rfl,⟨[.slice a1 x0.1.length cq1],[.int .i64 x0.2.1]++([.int .i64 x0.2.2.1]++[.int .i64 x0.2.2.2]),rfl,r5.rep1,⟨[.int .i64 x0.2.1],[.int .i64 x0.2.2.1]++[.int .i64 x0.2.2.2],rfl,rfl,⟨[.int .i64 x0.2.2.1],[.int .i64 x0.2.2.2],rfl,rfl,rfl⟩⟩⟩⟩) Ex3) ?_
 rintro _ w2 ⟨rfl,hx2⟩
 have k1:=hx1.tr hx2
 have hb2:=hb1.ext hx2
 have r7:=r5.ext hx2
 have r8:=r4.ext hx2
 refine Za<|nl<|Zr<|Zm<|Zv (xneq rfl rfl)<|nl<|cnd rfl (fun h3=>?_) (fun h3=>?_)
 ·
  have hF:=ifp hF h3
  refine Zr<|Zm<|Za<|Za<|nl<|?_
  cases hF
  exact wp_ret<|rt rfl (.tmp rfl rfl (.tmp rfl rfl .nil)) ⟨_,rfl,obNil,(fun h=>by rw [show x3=0 from h] at h3; simp at h3),k1⟩
 ·
  have hF:=ifn hF h3
  refine wp_skip<|Zr<|Zv (xlda rfl ti48 rfl (Bx.cs hb2))<|?_
  have hz:=bs hF; obtain ⟨x4,Ex4,hF⟩:=hz
  refine Zc (xc cb215 (mc rfl mn)) (c215m (show RV (α:=((List ((((Int×Int)×Int)×((Int×Int)×Int))×Bool))×Int×(Int×Int))) _ (.agg [.slice a1 x0.1.length cq1,.int .i64 x0.2.1,.int .i64 x0.2.2.1,.int .i64 x0.2.2.2].toArray) (x0.1,x0.2.1,(x0.2.2.1,x0.2.2.2)) from ⟨_,rfl,⟨[.slice a1 x0.1.length cq1],[.int .i64 x0.2.1]++([.int .i64 x0.2.2.1]++[.int .i64 x0.2.2.2]),rfl,r7.rep1,⟨[.int .i64 x0.2.1],[.int .i64 x0.2.2.1]++[.int .i64 x0.2.2.2],rfl,rfl,⟨[.int .i64 x0.2.2.1],[.int .i64 x0.2.2.2],rfl,rfl,rfl⟩⟩⟩⟩) Ex4) ?_
  rintro _ w3 ⟨u1,rfl,r9,tN,hx3⟩
  have k2:=k1.tr hx3
  have r10:=r8.ext hx3
  have hz:=obPtr r9; obtain ⟨a3,rfl⟩:=hz
  refine sal ti177 fun b4 w4 hx4 hg2 hb3=>?_
  have k3:=k2.tr hx4
  have r11:=r10.ext hx4
  have r12:=r9.ext hx4
  refine sst rfl rfl rfl ti177 hb3 rfl rfl (ble rfl) fun w5 hch1 hb4=>?_
  have k4:=Ext.chg k3 hch1 (Nat.le_trans k2.size hg2)
  have k5:=Ext.chg hx4 hch1 (Nat.le_trans (Nat.le_refl _) hg2)
  have r13:=r10.ext k5
  have r14:=r9.ext k5
  have hb5:Bx w5 b4 177 [.pointer a3]:=hb4
  refine nl<|wp_seq<|Zr<|Zm<|Zv (xmf mn (mc rfl mn))<|?_
  have hz:=bs hF; obtain ⟨x5,Ex5,hF⟩:=hz
  refine Zc (xc cb216 (mc rfl (mc rfl mn))) (c216 r13 ⟨217,[],[.pointer (some ⟨b4,0,none⟩)],rfl,cb217,fun w' u x b hk hu hp=>c217 hu (Bx.cs (hb5.ext hk)) (obRep1 (r14.ext hk)) hp⟩ Ex5) ?_
  rintro _ w6 ⟨rfl,hx5⟩
  have k6:=k4.tr hx5
  have k7:=k5.tr hx5
  have hb6:=hb5.ext hx5
  have r15:=r14.ext hx5
  refine nl<|cnd rfl (fun h4=>?_) (fun h4=>?_)
  ·
   have hF:=ifp hF h4
   refine Zr<|Za<|Za<|nl<|?_
   cases hF
   exact wp_ret<|rt rfl (.tmp rfl rfl (.tmp rfl rfl .nil)) ⟨_,rfl,obNil,(fun h=>absurd h (by decide)),k6⟩
  ·
   have hF:=ifn hF h4
   refine wp_skip<|Zr<|Zv (xld rfl ti177 ((Bx.cs hb6).at 0 rfl))<|Za<|Za<|nl<|?_
   cases hF
   exact wp_ret<|rt rfl (.tmp rfl rfl (.tmp rfl rfl .nil)) ⟨_,rfl,r15,(fun _=>((tN.ext k5).ext hx5).mono k1.size),k6⟩
theorem c103m {w0:World} {v0:Value} {x0:((List ((((Int×Int)×Int)×((Int×Int)×Int))×Bool))×Int×(Int×Int))} (r0:RV w0 v0 x0) {v1:Value} {x1:(List (Int×Bool))} (r1:RV w0 v1 x1) {F:Nat} {r:((Ob (((List ((((Int×Int)×Int)×((Int×Int)×Int))×Bool))×Int×(Int×Int))×(List (Int×Bool))×(Ar 16 (Ar 16 Int))×Opq×Opq))×(List Int)×Int)} (hF:join_indexed F x0 x1=some r) :
  Calls Tryz.prog 103 [v0,v1].toArray w0 (Ret fun v w'=>∃ u0 u1:Value,v=.tuple #[u0,u1,.int .i64 r.2.2]∧RV w' u0 r.1∧RV w' u1 r.2.1∧(r.2.2=0→TbN w0.heap.size w' u0 r.1)∧Ext w0 w'):=by
 unfold join_indexed at hF
 have hz:=id r0; obtain ⟨_,rfl,⟨_,_,rfl,⟨a1,cq1,rfl,p1,q3,e1⟩,⟨_,_,rfl,rfl,⟨_,_,rfl,rfl,rfl⟩⟩⟩⟩:=hz
 have r3:=RV.of1 p1 q3 e1
 have hz:=r1.sl; obtain ⟨a2,cq2,rfl,-,-,-⟩:=hz
 refine entr (n:=92) Tryz.func103 rfl rfl rfl<|Zr<|sbx rfl rfl fun b3 w1 hx1 hg1 hb1=>?_
 have r4:=r1.ext hx1
 have r5:=r3.ext hx1
 have r6:=r0.ext hx1
 refine Za<|Za<|Za<|nl<|Zr<|Zv (xlda rfl ti48 rfl (Bx.cs hb1))<|?_
 have hz:=bs hF; obtain ⟨x3,Ex3,hF⟩:=hz
 refine Zc (xc cb113 (mc rfl (mc rfl mn))) (c113m (show RV (α:=((List ((((Int×Int)×Int)×((Int×Int)×Int))×Bool))×Int×(Int×Int))) _ (.agg [.slice a1 x0.1.length cq1,.int .i64 x0.2.1,.int .i64 x0.2.2.1,.int .i64 x0.2.2.2].toArray) (x0.1,x0.2.1,(x0.2.2.1,x0.2.2.2)) from ⟨_,rfl,⟨[.slice a1 x0.1.length cq1],[.int .i64 x0.2.1]++([.int .i64 x0.2.2.1]++[.int .i64 x0.2.2.2]),rfl,r5.rep1,⟨[.int .i64 x0.2.1],[.int .i64 x0.2.2.1]++[.int .i64 x0.2.2.2],rfl,rfl,⟨[.int .i64 x0.2.2.1],[.int .i64 x0.2.2.2],rfl,rfl,rfl⟩⟩⟩⟩) (RVo.nil (Nat.zero_le _)) Ex3) ?_
 rintro _ w2 ⟨u1,rfl,r7,tM,hx2⟩
 have k1:=hx1.tr hx2
 have hb2:=hb1.ext hx2
 have r8:=r5.ext hx2
 have r9:=r4.ext hx2
 have hz:=obPtr r7; obtain ⟨a3,rfl⟩:=hz
 refine Zm<|Zv (xext rfl rfl)<|Zv (xext rfl rfl)<|Za<|Za<|nl<|wp_seq<|Zr<|Zm<|Zv (xneq rfl rfl)<|nl<|cnd rfl (fun h3=>?_) (fun h3=>?_)
 ·
  have hF:=ifp hF h3
  refine Zr<|Zm<|Za<|Za<|Za<|nl<|?_
  cases hF
  exact wp_ret<|rt rfl (.tmp rfl rfl (.tmp rfl rfl (.tmp rfl rfl .nil))) ⟨_,_,rfl,obNil,(RVo.nil (Nat.zero_le _)),(fun h=>by rw [show x3.2=0 from h] at h3; simp at h3),k1⟩
 ·
  have hF:=ifn hF h3
  refine wp_skip<|wp_seq<|Zr<|Zm<|Zv (xlen rfl Tryz.underlying51)<|Zv (xfa rfl fa48_0)<|Zv (xld rfl ti46 ((Bx.cs hb2).at 0 rfl))<|Zv (xlen rfl Tryz.underlying46)<|Zv (xneq rfl rfl)<|nl<|cnd rfl (fun h4=>?_) (fun h4=>?_)
  ·
   have hF:=ifp hF h4
   refine Zr<|Za<|Za<|Za<|nl<|?_
   cases hF
   exact wp_ret<|rt rfl (.tmp rfl rfl (.tmp rfl rfl (.tmp rfl rfl .nil))) ⟨_,_,rfl,obNil,(RVo.nil (Nat.zero_le _)),(fun h=>absurd h (by decide)),k1⟩
  ·
   have hF:=ifn hF h4
   refine wp_skip<|Zr<|Za<|nl<|wp_seq<|Zr<|Zm<|Zv (xlen rfl Tryz.underlying51)<|Zm<|nl<|?_
   have o1:Row (α:=Int) 3 w2.heap.size w2 (.slice none 0 0) []:=Row.nil
   have hz:=bs hF; obtain ⟨z1,hB1,hF⟩:=hz
   refine ct (fun L w=>∃ v4:Value,L 9=v4∧Row 3 w2.heap.size w v4 z1∧L 1=.slice a2 x1.length cq2∧L 7=.pointer a3∧Ext w2 w) ?_ ?_
   ·
    refine wp_block<|lp (I:=fun m L w=>∃ y1:(List Int),∃ y2:Int,∃ v3:Value,join_indexed_l1 F x1 x3 m y1 y2 =some z1∧L 9=v3∧Row 3 w2.heap.size w v3 y1∧L 32=.int .i64 y2∧L 1=.slice a2 x1.length cq2∧L 7=.pointer a3∧L 30=.slice a2 x1.length cq2∧L 31=.int .i64 (x1.length:Int)∧Ext w2 w) F ⟨_,_,_,hB1,rfl,o1,rfl,rfl,rfl,rfl,rfl,(Ext.refl _)⟩ ?_
    rintro m L w3 ⟨y1,y2,v3,hB1,l9_i1,O9_i1,l32_i1,l1_i1,l7_i1,l30_i1,l31_i1,K0_i1⟩
    rcases m with _ | m
    ·rw [join_indexed_l1] at hB1; cases hB1
    rw [join_indexed_l1] at hB1
    have k2:=k1.tr K0_i1
    have r10:=r9.ext K0_i1
    have r11:=r7.ext K0_i1
    have hz:=RV.sl O9_i1.rv; obtain ⟨a4,cq3,rfl,-,-,-⟩:=hz
    refine Zr<|Zv (xlss l32_i1 l31_i1)<|nl<|wp_seq<|cnd rfl (fun h5=>?_) (fun h5=>?_)
    ·
     have hB1:=ifp hB1 h5
     refine wp_skip<|wp_seq<|wp_block<|Zr<|?_
     have hz:=bs hB1; obtain ⟨x4,Ex4,hB1⟩:=hz
     have hz:=(RV.els r1).ix Ex4; obtain ⟨b4,f1,cs3,e2,i2,i3,q4,hc1⟩:=hz
     cases e2
     obtain ⟨_,_,rfl,rfl,rfl⟩:=q4
     have hc2:=hc1.ext k2
     refine Zv (xixs l30_i1 l32_i1 Tryz.underlying51 ti56 i2 i3)<|Zv (xlda rfl ti56 rfl hc2)<|sal ti56 fun b5 w4 hx3 hg2 hb3=>?_
     have k3:=k2.tr hx3
     have k4:=K0_i1.tr hx3
     have r12:=r10.ext hx3
     have r13:=r11.ext hx3
     have O1:=O9_i1.ext hx3
     refine sst rfl rfl rfl ti56 hb3 rfl rfl (ble rfl) fun w5 hch1 hb4=>?_
     have k5:=Ext.chg k3 hch1 (Nat.le_trans k2.size hg2)
     have k6:=Ext.chg k4 hch1 (Nat.le_trans K0_i1.size hg2)
     have k7:=Ext.chg hx3 hch1 (Nat.le_trans (Nat.le_refl _) hg2)
     have r14:=r10.ext k7
     have r15:=r11.ext k7
     have O2:=O9_i1.ext k7
     have hb5:Bx w5 b5 56 [.int .i64 x4.1,.bool x4.2]:=hb4
     refine nl<|wpl [] (.pure true 0 (.pure true 1 (.pure false 2 (.pure true 3 (.pure false 4 (.pure true 5 (.pure true 6 (.pure false 7 (.eff 8 (.eff 9 (.eff 10 (.pure true 11 .fin) .stop) .stop) .stop))))))))) mixed (by kernel_rfl) (fun w6 hx4=>?_)
     have k8:=k5.tr hx4
     have k9:=k6.tr hx4
     have k10:=k7.tr hx4
     have hb6:=hb5.ext hx4
     have r16:=r14.ext hx4
     have r17:=r15.ext hx4
     have O3:=O2.ext hx4
     refine Zn rfl<|Zn rfl<|Zq rfl (fun _ hS=>xlen l9_i1 Tryz.underlying41) (Ext.refl _)<|Zn rfl<|Zq rfl (fun _ hS=>xlen l9_i1 Tryz.underlying41) (Ext.refl _)<|?_
     have r18:=RV.full O3.rv
     refine Zp rfl (fun _=>xslf l9_i1 (RV.cap O3.rv).2.1 Tryz.underlying41 ti3 rfl rfl)<|Zn rfl<|Zq rfl (fun _ hS=>xlda rfl ti56 rfl (Bx.cs (hb6.ext (hS.resolve_left nofun)))) (Ext.refl _)<|?_
     have hz:=bs hB1; obtain ⟨x5,Ex5,hB1⟩:=hz
     have hz:=obGet r7 Ex5; obtain ⟨b6,cs4,e3,q5,hc3⟩:=hz
     cases e3
     obtain ⟨_,_,rfl,⟨_,_,rfl,⟨a5,cq4,rfl,p2,q6,e4⟩,⟨_,_,rfl,rfl,⟨_,_,rfl,rfl,rfl⟩⟩⟩,⟨_,_,rfl,⟨a6,cq5,rfl,p3,q7,e5⟩,⟨_,_,rfl,rfl,⟨_,_,rfl,⟨a7,rfl,q8⟩,⟨a8,rfl,q9⟩⟩⟩⟩⟩:=q5
     have r19:=RV.of1 p2 q6 e4
     have r20:=RV.of1 p3 q7 e5
     have hc4:=hc3.ext k9
     have r21:=r19.ext k9
     have r22:=r20.ext k9
     have hz:=bs hB1; obtain ⟨x6,Ex6,hB1⟩:=hz
     refine pe1 rfl<|Zc (xc cb114 (mc l7_i1 (mc rfl mn))) (c114 (x0:=((x5.1.1,x5.1.2.1,(x5.1.2.2.1,x5.1.2.2.2)),x5.2.1,x5.2.2.1,Opq.mk,Opq.mk)) hc4 ⟨[.slice a5 x5.1.1.length cq4]++([.int .i64 x5.1.2.1]++([.int .i64 x5.1.2.2.1]++[.int .i64 x5.1.2.2.2])),[.slice a6 x5.2.1.length cq5]++(((List.flatMap Flat.enc x5.2.2.1.l))++([a7]++[a8])),rfl,⟨[.slice a5 x5.1.1.length cq4],[.int .i64 x5.1.2.1]++([.int .i64 x5.1.2.2.1]++[.int .i64 x5.1.2.2.2]),rfl,r21.rep1,⟨[.int .i64 x5.1.2.1],[.int .i64 x5.1.2.2.1]++[.int .i64 x5.1.2.2.2],rfl,rfl,⟨[.int .i64 x5.1.2.2.1],[.int .i64 x5.1.2.2.2],rfl,rfl,rfl⟩⟩⟩,⟨[.slice a6 x5.2.1.length cq5],((List.flatMap Flat.enc x5.2.2.1.l))++([a7]++[a8]),rfl,r22.rep1,⟨(List.flatMap Flat.enc x5.2.2.1.l),[a7]++[a8],rfl,rfl,⟨[a7],[a8],rfl,⟨_,rfl,q8⟩,⟨_,rfl,q9⟩⟩⟩⟩⟩ (show RV (α:=(Int×Bool)) _ (.agg [.int .i64 x4.1,.bool x4.2].toArray) (x4.1,x4.2) from ⟨_,rfl,⟨[.int .i64 x4.1],[.bool x4.2],rfl,rfl,rfl⟩⟩) Ex6) ?_
     rintro _ w7 ⟨rfl,hx5⟩
     have k11:=k8.tr hx5
     have k12:=k9.tr hx5
     have k13:=k10.tr hx5
     have r23:=r16.ext hx5
     have r24:=r21.ext hx5
     have r25:=r22.ext hx5
     have hc5:=hc4.ext hx5
     have r26:=r18.ext hx5
     refine nl ⟨fun _ _=>hx5,?_⟩
     refine pe1 rfl<|sbsv (cs:=[.int .i64 x6]) Tryz.underlying41 ti3 rfl (pc rfl pn) rfl rfl rfl rfl rfl fun b7 w8 hx6 hg3 hb7=>?_
     have k14:=k11.tr hx6
     have k15:=k12.tr hx6
     have k16:=k13.tr hx6
     have k17:=hx5.tr hx6
     have r27:=r23.ext hx6
     have r28:=r24.ext hx6
     have r29:=r25.ext hx6
     have hc6:=hc5.ext hx6
     have r30:=r26.ext hx6
     have o3:Row (α:=Int) 3 w7.heap.size w8 (.slice (some ⟨b7,0,none⟩) 1 1) [x6]:=Row.lit hg3 hb7 rfl (ble rfl)
     refine nl ⟨fun _ _=>k17,?_⟩
     have hz:=bs hB1; obtain ⟨x7,Ex7,hB1⟩:=hz
     refine pe1 rfl<|sapf (l:=y1) (k:=([x6]:List Int)) rfl rfl Tryz.underlying41 ti3 rfl rfl r30 o3.rv rfl Ex7 fun v5 w9 o4 hx7=>?_
     have k18:=k14.tr hx7
     have k19:=k15.tr hx7
     have k20:=k16.tr hx7
     have k21:=k17.tr hx7
     have k22:=hx6.tr hx7
     have r32:=r27.ext hx7
     have r33:=r28.ext hx7
     have r34:=r29.ext hx7
     have hc7:=hc6.ext hx7
     have hz:=RV.sl o4.rv; obtain ⟨a9,cq6,rfl,-,-,-⟩:=hz
     refine nl ⟨fun _ _=>k21,?_⟩
     refine Zp rfl (fun _=>xas)<|rg<|Zv (xadd l32_i1 rfl)<|Zm<|nl<|?_
     refine lq m (Nat.lt_succ_self _)<|?_
     exact ⟨_,_,_,hB1,rfl,(o4.bnd k15.size),rfl,l1_i1,l7_i1,l30_i1,l31_i1,k19⟩
    ·
     have hB1:=ifn hB1 h5
     refine wp_exit<|?_
     cases hB1
     refine lf<|?_
     exact ⟨_,l9_i1,O9_i1,l1_i1,l7_i1,K0_i1⟩
   rintro L w10 ⟨v4,l9_j1,O9_j1,l1_j1,l7_j1,K0_j1⟩
   have k23:=k1.tr K0_j1
   have r35:=r9.ext K0_j1
   have r36:=r7.ext K0_j1
   have hz:=RV.sl O9_j1.rv; obtain ⟨a10,cq7,rfl,-,-,-⟩:=hz
   refine wp_seq<|Zr<|Zm<|?_
   have hz:=bs hF; obtain ⟨x8,Ex8,hF⟩:=hz
   refine Zc (xc cb144 (mc l9_j1 (mc rfl mn))) (c144 O9_j1.rv Ex8) ?_
   rintro _ w11 ⟨rfl,hx8⟩
   have k24:=k23.tr hx8
   have k25:=K0_j1.tr hx8
   have r37:=r35.ext hx8
   have r38:=r36.ext hx8
   have O4:=O9_j1.ext hx8
   refine nl<|cnd rfl (fun h6=>?_) (fun h6=>?_)
   ·
    have hF:=ifp hF h6
    refine Zr<|Za<|Za<|Za<|nl<|?_
    cases hF
    exact wp_ret<|rt rfl (.tmp rfl rfl (.tmp rfl rfl (.tmp rfl rfl .nil))) ⟨_,_,rfl,obNil,(RVo.nil (Nat.zero_le _)),(fun h=>absurd h (by decide)),k24⟩
   ·
    have hF:=ifn hF h6
    refine wp_skip<|Zr<|Za<|nl<|wp_seq<|Zr<|Zm<|Zv (xlen l1_j1 Tryz.underlying51)<|Zm<|nl<|?_
    have hz:=bs hF; obtain ⟨o5,hB4,hF⟩:=hz
    refine ct (fun L w=>o5=.inr ()∧L 7=.pointer a3∧L 9=.slice a10 z1.length cq7∧w2.heap.size≤w.heap.size∧Ext w11 w) ?_ ?_
    ·
     refine wp_block<|lp (I:=fun m L w=>∃ y3:Int,∃ y4:Int,join_indexed_l2 F x1 m y3 y4 =some o5∧L 12=.int .i64 y3∧L 52=.int .i64 y4∧L 7=.pointer a3∧L 9=.slice a10 z1.length cq7∧L 50=.slice a2 x1.length cq2∧L 51=.int .i64 (x1.length:Int)∧w2.heap.size≤w.heap.size∧Ext w11 w) F ⟨_,_,hB4,rfl,rfl,l7_j1,l9_j1,l1_j1,rfl,k25.size,(Ext.refl _)⟩ ?_
     rintro m L w12 ⟨y3,y4,hB4,l12_i4,l52_i4,l7_i4,l9_i4,l50_i4,l51_i4,Z0_i4,K0_i4⟩
     rcases m with _ | m
     ·rw [join_indexed_l2] at hB4; cases hB4
     rw [join_indexed_l2] at hB4
     have k26:=k24.tr K0_i4
     have k27:=k25.tr K0_i4
     have r39:=r38.ext K0_i4
     have O5:=O4.ext K0_i4
     have r40:=r37.ext K0_i4
     refine Zr<|Zv (xlss l52_i4 l51_i4)<|nl<|wp_seq<|cnd rfl (fun h7=>?_) (fun h7=>?_)
     ·
      have hB4:=ifp hB4 h7
      refine wp_skip<|wp_seq<|wp_block<|Zr<|?_
      have hz:=bs hB4; obtain ⟨x9,Ex9,hB4⟩:=hz
      have hz:=(RV.els r1).ix Ex9; obtain ⟨b8,f2,cs5,e6,i5,i6,q10,hc8⟩:=hz
      cases e6
      obtain ⟨_,_,rfl,rfl,rfl⟩:=q10
      have hc9:=hc8.ext k26
      refine Zv (xixs l50_i4 l52_i4 Tryz.underlying51 ti56 i5 i6)<|Zv (xlda rfl ti56 rfl hc9)<|sal ti56 fun b9 w13 hx9 hg4 hb8=>?_
      have k28:=k26.tr hx9
      have k29:=k27.tr hx9
      have k30:=K0_i4.tr hx9
      have zs1:=Nat.le_trans Z0_i4 hx9.size
      have r41:=r39.ext hx9
      have O6:=O5.ext hx9
      have r42:=r40.ext hx9
      refine sst rfl rfl rfl ti56 hb8 rfl rfl (ble rfl) fun w14 hch2 hb9=>?_
      have k31:=Ext.chg k28 hch2 (Nat.le_trans k26.size hg4)
      have k32:=Ext.chg k29 hch2 (Nat.le_trans k27.size hg4)
      have k33:=Ext.chg k30 hch2 (Nat.le_trans K0_i4.size hg4)
      have k34:=Ext.chg hx9 hch2 (Nat.le_trans (Nat.le_refl _) hg4)
      have zs2:=Nat.le_trans zs1 (Nat.le_of_eq hch2.size.symm)
      have r43:=r39.ext k34
      have O7:=O5.ext k34
      have r44:=r40.ext k34
      have hb10:Bx w14 b9 56 [.int .i64 x9.1,.bool x9.2]:=hb9
      refine nl<|wp_seq<|Zr<|Zm<|Zv (xfa rfl fa56_0)<|Zv (xld rfl ti3 ((Bx.cs hb10).at 0 rfl))<|?_
      have hz:=bs hB4; obtain ⟨x10,Ex10,hB4⟩:=hz
      refine Zv (xshr l12_i4 rfl Ex10)<|Zv (xand rfl rfl)<|Zv (xeql rfl rfl)<|nl<|cnd rfl (fun h8=>?_) (fun h8=>?_)
      ·
       have hB4:=ifp hB4 h8
       refine Zr<|Za<|Za<|Za<|nl<|?_
       cases hB4
       have hF:=(show some _=some _ from hF); cases hF
       exact wp_ret<|rt rfl (.tmp rfl rfl (.tmp rfl rfl (.tmp rfl rfl .nil))) ⟨_,_,rfl,obNil,(RVo.nil (Nat.zero_le _)),(fun h=>absurd h (by decide)),k31⟩
      ·
       have hB4:=ifn hB4 h8
       refine wp_skip<|rg<|Zm<|Zv (xfa rfl fa56_0)<|Zv (xld rfl ti3 ((Bx.cs hb10).at 0 rfl))<|?_
       have hz:=bs hB4; obtain ⟨x11,Ex11,hB4⟩:=hz
       refine Zv (xshl rfl rfl Ex11)<|Zv (xor_ l12_i4 rfl)<|Za<|nl<|rg<|Zv (xadd l52_i4 rfl)<|Zm<|nl<|?_
       refine lq m (Nat.lt_succ_self _)<|?_
       exact ⟨_,_,hB4,rfl,rfl,l7_i4,l9_i4,l50_i4,l51_i4,zs2,k33⟩
     ·
      have hB4:=ifn hB4 h7
      refine wp_exit<|?_
      cases hB4
      refine lf<|?_
      exact ⟨rfl,l7_i4,l9_i4,Z0_i4,K0_i4⟩
    rintro L w15 ⟨rfl,l7_j2,l9_j2,Z0_j2,K0_j2⟩
    have k35:=k24.tr K0_j2
    have k36:=k25.tr K0_j2
    have r45:=r38.ext K0_j2
    have O8:=O4.ext K0_j2
    refine wp_seq<|Zr<|Za<|nl<|?_
    have hz:=bs hF; obtain ⟨o6,hB9,hF⟩:=hz
    refine ct (fun L w=>o6=.inr ()∧L 7=.pointer a3∧L 9=.slice a10 z1.length cq7∧w2.heap.size≤w.heap.size∧Ext w15 w) ?_ ?_
    ·
     refine wp_block<|lp (I:=fun m L w=>∃ y5:Int,join_indexed_l3 F x3 z1 m y5 =some o6∧L 15=.int .i64 y5∧L 7=.pointer a3∧L 9=.slice a10 z1.length cq7∧w2.heap.size≤w.heap.size∧Ext w15 w) F ⟨_,hB9,rfl,l7_j2,l9_j2,Z0_j2,(Ext.refl _)⟩ ?_
     rintro m L w16 ⟨y5,hB9,l15_i7,l7_i7,l9_i7,Z0_i7,K0_i7⟩
     rcases m with _ | m
     ·rw [join_indexed_l3] at hB9; cases hB9
     rw [join_indexed_l3] at hB9
     have k37:=k35.tr K0_i7
     have k38:=k36.tr K0_i7
     have k39:=K0_j2.tr K0_i7
     have r46:=r45.ext K0_i7
     have O9:=O8.ext K0_i7
     refine wp_seq<|Zr<|Zm<|Zm<|Zv (xlen l9_i7 Tryz.underlying41)<|Zv (xlss l15_i7 rfl)<|nl<|cnd rfl (fun h9=>?_) (fun h9=>?_)
     ·
      have hB9:=ifp hB9 h9
      refine wp_skip<|wp_seq<|wp_block<|wp_seq<|wpl [] (.pure true 0 (.pure true 1 (.pure true 2 (.pure true 3 (.pure true 4 (.pure false 5 (.pure true 6 (.pure true 7 (.pure true 8 (.pure false 9 (.pure true 10 (.pure true 11 (.pure true 12 (.pure true 13 (.pure false 14 (.pure true 15 .fin)))))))))))))))) mixed (by kernel_rfl) (fun w17 hx10=>?_)
      have k40:=k37.tr hx10
      have k41:=k38.tr hx10
      have k42:=k39.tr hx10
      have k43:=K0_i7.tr hx10
      have zs3:=Nat.le_trans Z0_i7 hx10.size
      have r47:=r46.ext hx10
      have O10:=O9.ext hx10
      refine Zn rfl<|Zn rfl<|Zn rfl<|Zp rfl (fun _=>xsub l15_i7 rfl)<|?_
      have hz:=bs hB9; obtain ⟨x12,Ex12,hB9⟩:=hz
      have hz:=(RV.els O10.rv).ix Ex12; obtain ⟨b10,f3,cs6,e7,i8,i9,q11,hc10⟩:=hz
      cases e7
      obtain rfl:=q11
      refine Zp rfl (fun _=>xixs l9_i7 rfl Tryz.underlying41 ti3 i8 i9)<|Zq rfl (fun _ hS=>xld rfl ti3 ((hc10.ext (hS.resolve_left nofun)).at 0 rfl)) (Ext.refl _)<|Zn rfl<|Zn rfl<|?_
      have hz:=bs hB9; obtain ⟨x13,Ex13,hB9⟩:=hz
      have hz:=ix2 O10.rv Ex13; obtain ⟨cs7,i10,i11,q12,hc11⟩:=hz
      obtain rfl:=q12
      refine Zp rfl (fun _=>xixs l9_i7 l15_i7 Tryz.underlying41 ti3 i10 i11)<|Zq rfl (fun _ hS=>xld rfl ti3 ((hc11.ext (hS.resolve_left nofun)).at 0 rfl)) (Ext.refl _)<|?_
      have hz:=bs hB9; obtain ⟨x14,Ex14,hB9⟩:=hz
      have hz:=obGet r7 Ex14; obtain ⟨b11,cs8,e8,q13,hc12⟩:=hz
      cases e8
      obtain ⟨_,_,rfl,⟨_,_,rfl,⟨a11,cq8,rfl,p4,q14,e9⟩,⟨_,_,rfl,rfl,⟨_,_,rfl,rfl,rfl⟩⟩⟩,⟨_,_,rfl,⟨a12,cq9,rfl,p5,q15,e10⟩,⟨_,_,rfl,rfl,⟨_,_,rfl,⟨a13,rfl,q16⟩,⟨a14,rfl,q17⟩⟩⟩⟩⟩:=q13
      have r48:=RV.of1 p4 q14 e9
      have r49:=RV.of1 p5 q15 e10
      have hc13:=hc12.ext k41
      have r50:=r48.ext k41
      have r51:=r49.ext k41
      refine Zp rfl (fun _=>xnil l7_i7)<|Zp rfl (fun _=>xfa rfl fa199_2)<|?_
      have hc14:Cs w17 b11 (0 + 5) (List.flatMap Flat.enc x14.2.2.1.l):=Cs.mid (l1:=[.slice a11 x14.1.1.length cq8,.int .i64 x14.1.2.1,.int .i64 x14.1.2.2.1,.int .i64 x14.1.2.2.2,.slice a12 x14.2.1.length cq9]) (X:=x14.2.2.1) (l2:=[a13,a14]) hc13
      have hz:=bs hB9; obtain ⟨x15,Ex15,hB9⟩:=hz
      have hz:=ixar hc14 Ex15; obtain ⟨i12,i13,hc15⟩:=hz
      refine Zp rfl (fun _=>xixa rfl rfl Tryz.underlying196 ti195 i12 i13)<|?_
      have hz:=bs hB9; obtain ⟨x16,Ex16,hB9⟩:=hz
      have hz:=ixar hc15 Ex16; obtain ⟨i14,i15,hc16⟩:=hz
      refine Zp rfl (fun _=>xixa rfl rfl Tryz.underlying195 ti3 i14 i15)<|Zq rfl (fun _ hS=>xld rfl ti3 ((hc16.ext (hS.resolve_left nofun)).at 0 rfl)) (Ext.refl _)<|Zp rfl (fun _=>xeql rfl rfl)<|cnd rfl (fun h10=>?_) (fun h10=>?_)
      ·
       have hB9:=ifp hB9 h10
       refine Zr<|Za<|Za<|Za<|nl<|?_
       cases hB9
       have hF:=(show some _=some _ from hF); cases hF
       exact wp_ret<|rt rfl (.tmp rfl rfl (.tmp rfl rfl (.tmp rfl rfl .nil))) ⟨_,_,rfl,obNil,(RVo.nil (Nat.zero_le _)),(fun h=>absurd h (by decide)),k40⟩
      ·
       have hB9:=ifn hB9 h10
       refine wp_skip<|rg<|Zm<|Zv (xadd l15_i7 rfl)<|Za<|nl<|?_
       refine lq m (Nat.lt_succ_self _)<|?_
       exact ⟨_,hB9,rfl,l7_i7,l9_i7,zs3,k43⟩
     ·
      have hB9:=ifn hB9 h9
      refine wp_exit<|?_
      cases hB9
      refine lf<|?_
      exact ⟨rfl,l7_i7,l9_i7,Z0_i7,K0_i7⟩
    rintro L w18 ⟨rfl,l7_j3,l9_j3,Z0_j3,K0_j3⟩
    have k44:=k35.tr K0_j3
    have k45:=k36.tr K0_j3
    have k46:=K0_j2.tr K0_j3
    have r52:=r45.ext K0_j3
    have O11:=O8.ext K0_j3
    refine Zr<|Zm<|Zm<|Za<|Za<|Za<|nl<|?_
    cases hF
    exact wp_ret<|rt rfl (.tmp l7_j3 rfl (.tmp l9_j3 rfl (.tmp rfl rfl .nil))) ⟨_,_,rfl,r52,O11.rv,(fun _=>(((((tM (by simpa using h3)).ext K0_j1).ext hx8).ext K0_j2).ext K0_j3).mono hx1.size),k44⟩
end Go.Proofs.YtfmelbioccbdoaaGreat
end
section
namespace Go.Proofs.YtfmelbioccbdoaaGreat
open Go Go.Md Go.RowKit
attribute [local irreducible] Go.wpList Go.Code.wp Go.Calls Go.Md.Rnd Go.Md.Mt Go.Md.MtM Go.Md.RndM Go.Code.wpIn Go.wpListIn
theorem TbN.get {M:Nat} {w:World} {v:Value} {x:Ob TTable} (h:TbN M w v x):∃ y b ma mu,x=⟨some y⟩∧v=.pointer (some ⟨b,0,none⟩)∧Tb w.heap.size w b ma mu y∧Mp (κ:=TState) (ν:=Int) w ma []∧Mp (κ:=TState) (ν:=Int) w mu []∧M≤ma∧M≤mu:=by
 obtain ⟨y,b,ma,mu,rfl,hP⟩:=h
 have h1:=hP.tb
 obtain ⟨_,_,_,_,_,_,_,h2,h3⟩:=hP
 exact ⟨y,b,ma,mu,rfl,h1.1,h1.2.1,h1.2.2.1,h1.2.2.2,h2,h3⟩
theorem BelP.extO {ok:Nat→Prop} {w0 w w':World} (h:Ext w0 w) (k:BelP ok w.heap.size w w') (hk:∀ q,q<w0.heap.size→ok q):Ext w0 w':=h.trans (k.below h.size hk)
def join_Count (F:Nat) (c:TCyl):Option (Int×Int) :=
 (join_open F c []) >>= fun o=>if (!decide (o.2=0))=true then some (0,o.2) else (o.1.v) >>= fun x=>(join_left x F [] (0,-1)) >>= fun r=>some (r.1,0)
def join_Nth (F:Nat) (c:TCyl) (n:Int):Option (List TStep×Int) :=
 (join_open F c []) >>= fun o=>if (!decide (o.2=0))=true then some ([],o.2) else
 (o.1.v) >>= fun x =>
 if decide (n<0)=true then some ([],3) else
 (join_left x F [] (0,-1)) >>= fun r=>if decide (r.1≤n)=true then some ([],3) else (join_nth x F r.2 n) >>= fun q=>some (q.1,0)
def join_Only (F:Nat) (c:TCyl):Option (List TStep×Int) :=
 (join_open F c []) >>= fun o=>if (!decide (o.2=0))=true then some ([],o.2) else
 (o.1.v) >>= fun x=>(join_left x F [] (0,-1)) >>= fun r =>
 if decide (r.1=0)=true then some ([],5) else if decide (1<r.1)=true then some ([],6) else (join_nth x F r.2 0) >>= fun q=>some (q.1,0)
theorem c36 {w0:World} {v0:Value} {x0:TCyl} (r0:RV w0 v0 x0) {F:Nat} {r:Int×Int} (hF:join_Count F x0=some r) :
  Calls Tryz.prog 36 [v0].toArray w0 (Ret fun v w'=>v=.tuple #[.int .i64 r.1,.int .i64 r.2]∧Ext w0 w'):=by
 unfold join_Count at hF
 have hz:=Md.bs hF; obtain ⟨o,Eo,hF⟩:=hz
 obtain ⟨cs,rfl,hrep⟩:=r0
 refine entr (n:=16) Tryz.func36 rfl rfl rfl<|Zr<|sbx rfl (Enc.cells hrep) fun b1 w1 hx1 hg1 hb1=>?_
 have r1:RV w1 (.agg cs.toArray) x0:=RVo.ext ⟨cs,rfl,hrep⟩ hx1
 refine Za<|Za<|nl<|Zr<|Zv (xlda rfl ti48 (Enc.len hrep) (Bx.cs hb1))<|Zc (xc cb113 (mc rfl (mc rfl mn))) (c113m r1 (RVo.nil (Nat.zero_le _)) Eo) ?_
 rintro _ w2 ⟨u1,rfl,r7,tM,hx2⟩
 have k2:=hx1.tr hx2
 refine Zm<|Zv (xext (vs:=[u1,.int .i64 o.2]) rfl rfl)<|Zv (xext (vs:=[u1,.int .i64 o.2]) rfl rfl)<|Za<|Za<|nl<|wp_seq<|Zr<|Zm<|Zv (xneq rfl rfl)<|nl<|cnd rfl (fun h3=>?_) (fun h3=>?_)
 ·have hF:=ifp hF h3
  cases hF
  exact Zr<|Zm<|Za<|Za<|nl<|wp_ret<|rt rfl (.tmp rfl rfl (.tmp rfl rfl .nil)) ⟨rfl,k2⟩
 have hF:=ifn hF h3
 have hz:=(tM (by simpa using h3)).get; obtain ⟨y,b,ma,mu,e,rfl,hT,hma,hmu,ga,gu⟩:=hz
 rw [e] at hF
 have hz:=Md.bs hF; obtain ⟨y',Ey,hF⟩:=hz
 cases Ey
 have hz:=Md.bs hF; obtain ⟨q,Eq,hF⟩:=hz
 cases hF
 refine wp_skip<|Zr<|Zm<|Zc (xc cb117 (mc rfl mn)) (c117 hT hma Eq) ?_
 rintro _ w3 ⟨rfl,hm3,hp3⟩
 have s1:=hx1.size
 exact Za<|Za<|nl<|wp_ret<|rt rfl (.tmp rfl rfl (.tmp rfl rfl .nil)) ⟨rfl,BelP.extO k2 hp3 (fun q h=>by omega)⟩
theorem c38 {w0:World} {v0:Value} {x0:TCyl} (r0:RV w0 v0 x0) {n:Int} {F:Nat} {r:List TStep×Int} (hF:join_Nth F x0 n=some r) :
  Calls Tryz.prog 38 [v0,.int .i64 n].toArray w0 (Ret fun v w'=>∃ u0:Value,v=.tuple #[u0,.int .i64 r.2]∧RV w' u0 r.1∧Ext w0 w'):=by
 unfold join_Nth at hF
 have hz:=Md.bs hF; obtain ⟨o,Eo,hF⟩:=hz
 obtain ⟨cs,rfl,hrep⟩:=r0
 refine entr (n:=27) Tryz.func38 rfl rfl rfl<|Zr<|sbx rfl (Enc.cells hrep) fun b1 w1 hx1 hg1 hb1=>?_
 have r1:RV w1 (.agg cs.toArray) x0:=RVo.ext ⟨cs,rfl,hrep⟩ hx1
 refine Za<|Za<|nl<|Zr<|Zv (xlda rfl ti48 (Enc.len hrep) (Bx.cs hb1))<|Zc (xc cb113 (mc rfl (mc rfl mn))) (c113m r1 (RVo.nil (Nat.zero_le _)) Eo) ?_
 rintro _ w2 ⟨u1,rfl,r7,tM,hx2⟩
 have k2:=hx1.tr hx2
 refine Zm<|Zv (xext (vs:=[u1,.int .i64 o.2]) rfl rfl)<|Zv (xext (vs:=[u1,.int .i64 o.2]) rfl rfl)<|Za<|Za<|nl<|wp_seq<|Zr<|Zm<|Zv (xneq rfl rfl)<|nl<|cnd rfl (fun h3=>?_) (fun h3=>?_)
 ·have hF:=ifp hF h3
  cases hF
  exact Zr<|Zm<|Za<|Za<|nl<|wp_ret<|rt rfl (.tmp rfl rfl (.tmp rfl rfl .nil)) ⟨_,rfl,RVo.nil (Nat.zero_le _),k2⟩
 have hF:=ifn hF h3
 have hz:=(tM (by simpa using h3)).get; obtain ⟨y,b,ma,mu,e,rfl,hT,hma,hmu,ga,gu⟩:=hz
 rw [e] at hF
 have hz:=Md.bs hF; obtain ⟨y',Ey,hF⟩:=hz
 cases Ey
 have s1:=hx1.size
 have s2:=hx2.size
 refine wp_skip<|wp_seq<|Zr<|Zm<|Zv (xlss rfl rfl)<|Zm<|?_
 refine Or.elim (Bool.eq_false_or_eq_true (decide (n<0))) (fun hg=>?_) (fun hg=>?_)
 ·have hF:=ifp hF hg
  cases hF
  refine gfk rfl rfl rfl rfl rfl (btf hg) rfl<|gfk rfl rfl rfl rfl rfl (btf hg) rfl<|gfk rfl rfl rfl rfl rfl (btf hg) rfl<|gfk rfl rfl rfl rfl rfl (btf hg) rfl<|Zv (xpt rfl hg rfl)<|nl<|cnd rfl (fun hf=>?_) (fun hf=>by cases hf)
  exact Zr<|Za<|Za<|nl<|wp_ret<|rt rfl (.tmp rfl rfl (.tmp rfl rfl .nil)) ⟨_,rfl,RVo.nil (Nat.zero_le _),k2⟩
 have hF:=ifn hF hg
 have hz:=Md.bs hF; obtain ⟨q,Eq,hF⟩:=hz
 refine gtk rfl rfl rfl rfl rfl (Md.bf hg)<|Zm<|gtk rfl rfl rfl rfl rfl (Md.bf hg)<|Zm<|gtk rfl rfl rfl rfl rfl (Md.bf hg)<|Zc (xc cb117 (mc rfl mn)) (c117 hT hma Eq) ?_
 rintro _ w3 ⟨rfl,hm3,hp3⟩
 have k3:=BelP.extO k2 hp3 (fun q h=>by omega)
 refine gtk rfl rfl rfl rfl rfl (Md.bf hg)<|Zv (xgeq rfl rfl)<|Zv (xpf rfl hg rfl)<|nl<|cnd rfl (fun hf=>?_) (fun hf=>?_)
 ·have hF:=ifp hF hf
  cases hF
  exact Zr<|Za<|Za<|nl<|wp_ret<|rt rfl (.tmp rfl rfl (.tmp rfl rfl .nil)) ⟨_,rfl,RVo.nil (Nat.zero_le _),k3⟩
 have hF:=ifn hF hf
 have hz:=Md.bs hF; obtain ⟨p,Ep,hF⟩:=hz
 cases hF
 have hT3:=hT.belp hp3 (Nat.le_refl _) (fun q h1 h2 h3=>h2)
 refine wp_skip<|Zr<|Zm<|Zm<|Zc (xc cb119 (mc rfl (mc rfl mn))) (c119 hT3 hm3 Ep) ?_
 rintro u w4 ⟨ho4,hm4,hp4⟩
 have s3:=hp3.size
 exact Za<|Za<|nl<|wp_ret<|rt rfl (.tmp rfl rfl (.tmp rfl rfl .nil)) ⟨_,rfl,ho4.rv,BelP.extO k3 hp4 (fun q h=>by omega)⟩
theorem c186 {w0:World} {v0:Value} {x0:TCyl} (r0:RV w0 v0 x0) {F:Nat} {r:List TStep×Int} (hF:join_Only F x0=some r) :
  Calls Tryz.prog 186 [v0].toArray w0 (Ret fun v w'=>∃ u0:Value,v=.tuple #[u0,.int .i64 r.2]∧RV w' u0 r.1∧Ext w0 w'):=by
 unfold join_Only at hF
 have hz:=Md.bs hF; obtain ⟨o,Eo,hF⟩:=hz
 obtain ⟨cs,rfl,hrep⟩:=r0
 refine entr (n:=25) Tryz.func186 rfl rfl rfl<|Zr<|sbx rfl (Enc.cells hrep) fun b1 w1 hx1 hg1 hb1=>?_
 have r1:RV w1 (.agg cs.toArray) x0:=RVo.ext ⟨cs,rfl,hrep⟩ hx1
 refine Za<|Za<|nl<|Zr<|Zv (xlda rfl ti48 (Enc.len hrep) (Bx.cs hb1))<|Zc (xc cb113 (mc rfl (mc rfl mn))) (c113m r1 (RVo.nil (Nat.zero_le _)) Eo) ?_
 rintro _ w2 ⟨u1,rfl,r7,tM,hx2⟩
 have k2:=hx1.tr hx2
 refine Zm<|Zv (xext (vs:=[u1,.int .i64 o.2]) rfl rfl)<|Zv (xext (vs:=[u1,.int .i64 o.2]) rfl rfl)<|Za<|Za<|nl<|wp_seq<|Zr<|Zm<|Zv (xneq rfl rfl)<|nl<|cnd rfl (fun h3=>?_) (fun h3=>?_)
 ·have hF:=ifp hF h3
  cases hF
  exact Zr<|Zm<|Za<|Za<|nl<|wp_ret<|rt rfl (.tmp rfl rfl (.tmp rfl rfl .nil)) ⟨_,rfl,RVo.nil (Nat.zero_le _),k2⟩
 have hF:=ifn hF h3
 have hz:=(tM (by simpa using h3)).get; obtain ⟨y,b,ma,mu,e,rfl,hT,hma,hmu,ga,gu⟩:=hz
 rw [e] at hF
 have hz:=Md.bs hF; obtain ⟨y',Ey,hF⟩:=hz
 cases Ey
 have s1:=hx1.size
 have s2:=hx2.size
 have hz:=Md.bs hF; obtain ⟨q,Eq,hF⟩:=hz
 refine wp_skip<|wp_seq<|Zr<|Zm<|Zc (xc cb117 (mc rfl mn)) (c117 hT hma Eq) ?_
 rintro _ w3 ⟨rfl,hm3,hp3⟩
 have s3:=hp3.size
 have k3:=BelP.extO k2 hp3 (fun q h=>by omega)
 refine Za<|nl<|wp_block<|Zr<|Zm<|Zv (xeql rfl rfl)<|Za<|nl<|cnd rfl (fun hf=>?_) (fun hf=>?_)
 ·have hF:=ifp hF hf
  cases hF
  exact Zr<|Za<|Za<|nl<|wp_ret<|rt rfl (.tmp rfl rfl (.tmp rfl rfl .nil)) ⟨_,rfl,RVo.nil (Nat.zero_le _),k3⟩
 have hF:=ifn hF hf
 refine Zr<|Zm<|Zv (xgtr rfl rfl)<|Za<|nl<|cnd rfl (fun hf=>?_) (fun hf=>?_)
 ·have hF:=ifp hF hf
  cases hF
  exact Zr<|Za<|Za<|nl<|wp_ret<|rt rfl (.tmp rfl rfl (.tmp rfl rfl .nil)) ⟨_,rfl,RVo.nil (Nat.zero_le _),k3⟩
 have hF:=ifn hF hf
 have hz:=Md.bs hF; obtain ⟨p,Ep,hF⟩:=hz
 cases hF
 have hT3:=hT.belp hp3 (Nat.le_refl _) (fun q h1 h2 h3=>h2)
 refine wp_skip<|Zr<|Zm<|Zc (xc cb119 (mc rfl (mc rfl mn))) (c119 hT3 hm3 Ep) ?_
 rintro u w4 ⟨ho4,hm4,hp4⟩
 exact Za<|Za<|nl<|wp_ret<|rt rfl (.tmp rfl rfl (.tmp rfl rfl .nil)) ⟨_,rfl,ho4.rv,BelP.extO k3 hp4 (fun q h=>by omega)⟩
end Go.Proofs.YtfmelbioccbdoaaGreat
end
section
namespace Go.Proofs.YtfmelbioccbdoaaGreat
open Go Go.Md Go.RowKit
attribute [local irreducible] Go.wpList Go.Code.wp Go.Calls Go.Md.Rnd Go.Md.Mt Go.Md.MtM Go.Md.RndM Go.Code.wpIn Go.wpListIn
def jr_in (x:TTable) (m:Nat) (s:Int):List TState→Int→TMem→Option (Int×TMem)
 | [],n,A=>some (n,A)
 | u::l,n,A=>if decide (u.2<s)=true then (join_left x m A u) >>= fun q=>jr_in x m s l (w64 (n + q.1)) q.2 else jr_in x m s l n A
def jr_run (x:TTable) (m:Nat):List Int→TState→Int→TMem→Option (Int×TMem)
 | [],_,n,A=>some (n,A)
 | s::l,now,n,A=>(join_behind x now) >>= fun bl=>(jr_in x m s bl n A) >>= fun q=>(join_table_on x now s) >>= fun nx=>jr_run x m l nx q.1 q.2
def join_Rank (F:Nat) (c:TCyl) (l:List TStep):Option (Int×Int) :=
 (join_indexed F c l) >>= fun o=>if (!decide (o.2.2=0))=true then some (0,o.2.2) else (o.1.v) >>= fun x=>(jr_run x F o.2.1 (0,-1) 0 []) >>= fun r=>some (r.1,0)
theorem RV.nomap {α:Type} [Enc α] [Flat α] {κ ν:Type} [DecidableEq κ] [Enc κ] [Flat κ] [Key κ] [Enc ν] [Flat ν] {w:World} {a:Option Addr} {n c b:Nat} {l:List α} {A:List (κ×ν)} (h:RV w (.slice a n c) l) (hm:Mp w b A) (h1:0<Enc.n α):RVo (fun q=>q≠b∧q<w.heap.size) w (.slice a n c) l:=by
 obtain ⟨a',c',e,h2,h3,h4⟩:=RVo.sl.1 h
 cases e
 refine RVo.sl.2 ⟨a,c,rfl,h2,h3,?_⟩
 rcases h4 with rfl | ⟨b',off,rfl,_,h6,h7⟩
 ·exact .inl rfl
 ·by_cases hl:l=[]
  ·exact .inl hl
  ·refine .inr ⟨b',off,rfl,?_,h6,fun i x hx=>?_⟩
   ·refine ⟨?_,h6⟩
    rintro rfl
    obtain ⟨x,t,rfl⟩:=List.exists_cons_of_ne_nil hl
    obtain ⟨cs,q1,q2⟩:=h7 0 x rfl
    obtain rfl:=Flat.iff.1 q1
    have hlt:0<(Flat.enc x:List Value).length:=by rw [Flat.len]; exact h1
    have:=q2 0 _ (List.getElem?_eq_getElem hlt)
    obtain ⟨es,cl,h8,_⟩:=hm
    simp [World.cell?,h8] at this
   ·obtain ⟨cs,q1,q2⟩:=h7 i x hx
    obtain rfl:=Flat.iff.1 q1
    exact ⟨_,Flat.iff.2 rfl,q2⟩
set_option maxHeartbeats 8000000 in
theorem c184 {w0:World} {v0 v1:Value} {x0:TCyl} {x1:List TStep} (r0:RV w0 v0 x0) (r1:RV w0 v1 x1) {F:Nat} {r:Int×Int} (hF:join_Rank F x0 x1=some r) :
  Calls Tryz.prog 184 [v0,v1].toArray w0 (Ret fun v w'=>v=.tuple #[.int .i64 r.1,.int .i64 r.2]∧Ext w0 w'):=by
 unfold join_Rank at hF
 have hz:=Md.bs hF; obtain ⟨o,Eo,hF⟩:=hz
 obtain ⟨cs,rfl,hrep⟩:=r0
 have hz:=r1.sl; obtain ⟨a2,cq2,rfl,-,-,-⟩:=hz
 refine entrM (m:=9) (n:=50) Tryz.func184 rfl rfl rfl<|Zr<|sbx rfl (Enc.cells hrep) fun b1 w1 hx1 hg1 hb1=>?_
 have q0:RV w1 (.agg cs.toArray) x0:=RVo.ext ⟨cs,rfl,hrep⟩ hx1
 refine Za<|Za<|nl<|Zr<|Zv (xlda rfl ti48 (Enc.len hrep) (Bx.cs hb1))<|Zm<|Zc (xc cb103 (mc rfl (mc rfl mn))) (c103m q0 (r1.ext hx1) Eo) ?_
 rintro _ w2 ⟨u0,u1,rfl,r7,r8,tM,hx2⟩
 have k2:=hx1.tr hx2
 have hz:=obPtr r7; obtain ⟨p0,rfl⟩:=hz
 have hz:=r8.sl; obtain ⟨a8,c8,rfl,-,-,-⟩:=hz
 refine Zm<|Zv (xext (vs:=[.pointer p0,.slice a8 o.2.1.length c8,.int .i64 o.2.2]) rfl rfl)<|Zv (xext (vs:=[.pointer p0,.slice a8 o.2.1.length c8,.int .i64 o.2.2]) rfl rfl)<|Zv (xext (vs:=[.pointer p0,.slice a8 o.2.1.length c8,.int .i64 o.2.2]) rfl rfl)<|sal ti177 fun b6 w3 hx3 hg3 hb3=>sst rfl rfl rfl ti177 hb3 rfl rfl (ble rfl) fun w4 hch4 hb4=>?_
 have kx4:Ext w2 w4:=hx3.chg hch4 hg3
 have k4:=k2.tr kx4
 refine Za<|Za<|nl<|wp_seq<|Zr<|Zm<|Zv (xneq rfl rfl)<|nl<|cnd rfl (fun h3=>?_) (fun h3=>?_)
 ·have hF:=ifp hF h3
  cases hF
  exact Zr<|Zm<|Za<|Za<|nl<|wp_ret<|rtMs (B:=w0.heap.size) rfl Mks.nil fun w' hk=>⟨_,.tmp rfl rfl (.tmp rfl rfl .nil),rfl,Below.tak k4 hk (Nat.le_refl _)⟩
 have hF:=ifn hF h3
 have hz:=(tM (by simpa using h3)).get; obtain ⟨y,b,ma,mu,e,e2,hT,hma,hmu,ga,gu⟩:=hz
 cases e2
 rw [e] at hF
 have hz:=Md.bs hF; obtain ⟨y',Ey,hF⟩:=hz
 cases Ey
 have hz:=Md.bs hF; obtain ⟨r',Er,hF⟩:=hz
 cases hF
 have h6:Bx w4 b6 177 [.pointer (some ⟨b,0,none⟩)]:=hb4
 refine wp_skip<|Zr<|sal ti2 fun b9 w5 hx5 hg5 hb5=>sst rfl rfl rfl ti2 hb5 rfl rfl (ble rfl) fun w6 hch6 hb6=>?_
 have kx6:Ext w4 w6:=hx5.chg hch6 hg5
 have h9:Bx w6 b9 2 [.int .i64 0]:=hb6
 refine nl<|Zr<|Zv (xbdv (r:=[.int .i64 0,.int .i64 (-1)]) ti326 sp326 (pc rfl pn) rfl)<|sal ti326 fun b10 w7 hx7 hg7 hb7=>sst rfl rfl rfl ti326 hb7 rfl rfl (ble rfl) fun w8 hch8 hb8=>?_
 have kx8:Ext w6 w8:=hx7.chg hch8 hg7
 have h10:Bx w8 b10 326 (Flat.enc ((0,-1):TState)):=hb8
 have kx28:Ext w2 w8:=kx4.tr (kx6.tr kx8)
 have k8:=k2.tr kx28
 have T8:=hT.ext kx28
 have m8:=hma.ext kx28
 have g6:=(h6.ext kx6).ext kx8
 have g9:=h9.ext kx8
 have sl8:=(RV.nomap r8 hma (by decide)).ext kx28
 have s1:=hx1.size
 have s2:=hx2.size
 have s4:=kx4.size
 have s6:=kx6.size
 have s8:=kx8.size
 have l6:=h6.lt
 have l9:=h9.lt
 have l10:=h10.lt
 have la:=hma.lt
 have n6:b6≠ma:=by omega
 have n9:b9≠ma:=by omega
 have n10:b10≠ma:=by omega
 have n69:b6≠b9:=by omega
 have n610:b6≠b10:=by omega
 have n910:b9≠b10:=by omega
 have hla8:ma<w8.heap.size:=by omega
 have hlen:=r8.cap
 refine nl<|wp_seq<|Zr<|Zm<|Zv (xlen rfl Tryz.underlying41)<|Zm<|nl<|?_
 refine ctM w0.heap.size (fun L w=>L 9=.pointer (some ⟨b9,0,none⟩)∧Bx w b9 2 [.int .i64 r'.1]∧Ext w0 w) ?_ ?_
 ·refine wp_block<|lpM w0.heap.size (I:=fun m' L w=>∃ (k:Nat) (now:TState) (n:Int) (A:TMem),k + m'=o.2.1.length∧jr_run y F (o.2.1.drop k) now n A=some r'∧L 27=.int .i64 (k:Int)∧L 26=.int .i64 (o.2.1.length:Int)∧L 25=.slice a8 o.2.1.length c8∧L 6=.pointer (some ⟨b6,0,none⟩)∧L 9=.pointer (some ⟨b9,0,none⟩)∧L 10=.pointer (some ⟨b10,0,none⟩) ∧
    Bx w b9 2 [.int .i64 n]∧Bx w b10 326 (Flat.enc now)∧Mp w ma A∧BelP (fun q=>q≠ma∧q≠b9∧q≠b10) w8.heap.size w8 w) o.2.1.length Mks.nil
   ⟨0,_,_,_,by simp,Er,rfl,rfl,rfl,rfl,rfl,rfl,g9,h10,m8,BelP.refl⟩ ?_
  clear Er h10
  rintro m' L D w hM ⟨k,now,n,A,hk,hB,l27,l26,l25,l6',l9',l10',h9,h10,ha,hx⟩
  have hsw:=hx.size
  have T:=T8.belp hx T8.size (fun q h1 h2 h3=>⟨h2,by omega,by omega⟩)
  have h6:=g6.belp hx g6.lt ⟨n6,n69,n610⟩
  have sl:RV w (.slice a8 o.2.1.length c8) o.2.1:=(sl8.keep (fun q h1 h2=>hx.block q h2 ⟨h1.1,by omega,by omega⟩) hsw).rv
  refine Zr<|Zv (xlss l27 l26)<|nl<|wp_seq<|cnd rfl (fun hc0=>?_) (fun hc0=>?_)
  ·have hc0:(k:Int)<(o.2.1.length:Int):=by simpa using hc0
   obtain ⟨k',rfl⟩:∃ k',m'=k' + 1:=⟨m' - 1,by omega⟩
   have hkl:k<o.2.1.length:=by omega
   obtain ⟨s,hs⟩:∃ s,o.2.1[k]?=some s:=⟨_,List.getElem?_eq_getElem hkl⟩
   rw [drop_at hs,jr_run] at hB
   have hz:=Md.bs hB; obtain ⟨bl,Eb,hB⟩:=hz
   have hz:=Md.bs hB; obtain ⟨q,Eq,hB⟩:=hz
   have hz:=Md.bs hB; obtain ⟨nx,En,hB⟩:=hz
   have hadd:w64 ((k:Int) + 1)=((k + 1:Nat):Int):=by
    have hmx:o.2.1.length≤maxLen:=by omega
    rw [w64,IntWalk.i64_in _ (by unfold maxLen at hmx; omega)]
    rfl
   have hix:ix o.2.1 (k:Int)=some s:=by simp [ix,hs]
   have hz:=(RV.els sl).ix hix; obtain ⟨bb,off,cs5,e5,i1,i2,q5,hc5⟩:=hz
   obtain rfl:=Flat.iff.1 q5
   refine wp_skip<|wp_seq<|wp_block<|Zr<|Zv (xixs (by rw [← e5]; exact l25) l27 Tryz.underlying41 ti3 i1 i2)<|Zv (xld rfl ti3 (hc5.at 0 rfl))<|sal ti3 fun b12 w9 hx9 hg9 hb9=>sst rfl rfl rfl ti3 hb9 rfl rfl (ble rfl) fun w10 hch10 hb10=>?_
   have kx10:Ext w w10:=hx9.chg hch10 hg9
   have h12:Bx w10 b12 3 [.int .i64 s]:=hb10
   have j6:=h6.ext kx10
   have j9:=h9.ext kx10
   have j10:=h10.ext kx10
   have ja:=ha.ext kx10
   have jT:=T.ext kx10
   refine nl<|wp_seq<|Zr<|Zv (xld l6' ti177 ((Bx.cs j6).at 0 rfl))<|Zv (xlda l10' ti326 (Flat.len now) (Bx.cs j10))<|Zc (xc cb229 (mc rfl<|mc rfl mn)) (c229 (b:=b) (s:=now)) fun v w11 hv=>?_
   obtain ⟨hbh,hx11⟩:=hv
   have kx11:=kx10.tr hx11
   have f6:=j6.ext hx11
   have f9:=j9.ext hx11
   have f10:=j10.ext hx11
   have fa:=ja.ext hx11
   have fT:=jT.ext hx11
   have f12:=h12.ext hx11
   have hM11:=hM.ext kx11
   have s10:=kx10.size
   have s11:=hx11.size
   have l12:=h12.lt
   have hla11:ma<w11.heap.size:=by omega
   have n12a:b12≠ma:=by omega
   have n12:b12≠b9:=by omega
   have hseq:=hbh.go (N:=w2.heap.size) (ok:=fun q=>q≠ma∧q≠b9) fT (fun q h1 h2 h3=>⟨h2,by omega⟩) (fun q h1=>⟨by omega,by omega⟩) Eb 8
   refine nl<|wp_block<|rangeB (α:=TState) (xs:=bl) (m:=9) (by decide) rfl KpOk.belp hseq rfl rfl rfl ti326 rfl
    (fun j W=>∃ (n:Int) (A:TMem),jr_in y F s (bl.drop j) n A=some q∧Bx W b9 2 [.int .i64 n]∧Mp W ma A∧BelP (fun q=>q≠ma∧q≠b9) w11.heap.size w11 W∧w11.heap.size≤W.heap.size∧Mks w0.heap.size D W)
    (fun _ _=>False) (fun k=>Okb.ex fun _=>Okb.ex fun _=>Okb.pure.and (Okb.bx.and ((Okb.mp hla11).and ((Okb.belp (Nat.le_refl _) (Nat.le_refl _)).and (Okb.size.and (Okb.mks hM11 rfl)))))) (fun _=>Okb.pure)
    ⟨n,A,Eq,f9,fa,BelP.refl,Nat.le_refl _,hM11⟩ ?round (fun k W h=>by obtain ⟨_,_,_,_,_,_,h,_⟩:=h; exact h) ?done (fun _ _ _ _ h _=>h.elim)
   case round =>
    rintro ll j u A1 W b13 hu ⟨n,A,hB2,i1,i2,i3,i4,i5⟩ hA hg8 hg8' hb13
    rw [drop_at hu,jr_in] at hB2
    have i1:=i1.asg hA
    have i2:=i2.asg hA hla11
    have i3:=i3.asg hA i4 (Nat.le_refl _)
    have i5:=i5.asg hA
    have hW:w11.heap.size≤W.heap.size:=i3.size
    have t12:=f12.belp i3 f12.lt ⟨n12a,n12⟩
    refine wpIn_block<|wpIn_seq<|rgR rfl<|Zv (xfa rfl fa326_1)<|Zv (xld rfl ti3 ((Bx.cs hb13).at 1 rfl))<|Zv (xld rfl ti3 ((Bx.cs t12).at 0 rfl))<|Zv (xlss rfl rfl)<|nl<|cndR rfl (fun hf=>?_) (fun hf=>?_)
    ·have hB2:=ifp hB2 hf
     have hz:=Md.bs hB2; obtain ⟨p,Ep,hB2⟩:=hz
     refine wplRS (fun wd w'=>BelP (fun q=>q≠ma) wd.heap.size wd w') [5] (.pure false 0 (.pure false 1 (.pure false 2 (.eff 3 (.pure true 4 (.eff 5 .fin .stop)) .stop)))) mixed (by kernel_rfl) (fun wg hxg=>?_)
     have i3g:=i3.ext hxg hW
     have d9:=i1.ext hxg
     have d6:=f6.belp i3g f6.lt ⟨n6,n69⟩
     have d13:=hb13.ext hxg
     have dT:=fT.belp i3g fT.size (fun q h1 h2 h3=>⟨h2,by omega⟩)
     have da:=i2.ext hxg
     have n13:b13≠ma:=by omega
     have zg:=hxg.size
     refine Zq rfl (fun _ hS=>xld l9' ti2 ((Bx.cs (d9.belp (hS.resolve_left nofun) d9.lt n9)).at 0 rfl)) BelP.refl<|Zq rfl (fun _ hS=>xld l6' ti177 ((Bx.cs (d6.belp (hS.resolve_left nofun) d6.lt n6)).at 0 rfl)) BelP.refl<|Zq rfl (fun _ hS=>xlda rfl ti326 (Flat.len u) (Bx.cs (d13.belp (hS.resolve_left nofun) d13.lt n13))) BelP.refl<|?_
     refine pe1 rfl<|Zc (xc cb226 (mc rfl<|mc rfl mn)) (c226 F dT da Ep) ?_
     rintro _ w12 ⟨rfl,ha12,hp12⟩
     have d99:=d9.belp hp12 d9.lt n9
     refine nl ⟨fun _ h=>h.trans hp12,?_⟩
     refine Zp rfl (fun _=>xadd rfl rfl)<|pe1 rfl<|sst l9' rfl rfl ti2 d99 rfl rfl (ble rfl) fun w13 hch13 hb13'=>nl ⟨fun h=>(h (by decide)).elim,?_⟩
     have e1:BelP (fun q=>q≠ma∧q≠b9) w11.heap.size W w13:=((BelP.of hxg hW).trans (hp12.weak fun q h1 h2=>⟨by omega,h2.1⟩)).chg hch13 (.inr fun h=>h.2 rfl)
     refine ⟨((hxg.kf).trans (hp12.kf fun q h1=>by omega)).chgc hch13 (.inl (by omega)),e1,_,p.2,hB2,hb13',ha12.chgb hch13 d99,i3.trans e1,Nat.le_trans hW e1.size,?_⟩
     refine (((i5.ext hxg).belpd hp12 fun q h1 h2 e=>?_)).chg hch13 d99.nd
     subst e
     obtain ⟨es,cl,h3,_⟩:=da
     rw [h2] at h3
     cases h3
    ·have hB2:=ifn hB2 hf
     exact wpIn_skip ⟨KeepsFrom.refl _ _,BelP.refl,n,A,hB2,i1,i2,i3,hW,i5⟩
   case done =>
    rintro D' W hD ⟨n,A,hB2,i1,i2,i3,i4,i5⟩ hK
    rw [List.drop_length,jr_in] at hB2
    cases hB2
    have hMW:=Mks.cons hM11 i5 (by omega) hD hK
    have t6:=f6.belp i3 f6.lt ⟨n6,n69⟩
    have t10:=f10.belp i3 f10.lt ⟨n10,Ne.symm n910⟩
    have t12:=f12.belp i3 f12.lt ⟨n12a,n12⟩
    have tT:=fT.belp i3 fT.size (fun q h1 h2 h3=>⟨h2,by omega⟩)
    have hz:=tT.cs; obtain ⟨csT,hcT,hrT⟩:=hz
    refine rg<|Zv (xld l6' ti177 ((Bx.cs t6).at 0 rfl))<|Zv (xlda l10' ti326 (Flat.len now) (Bx.cs t10))<|Zv (xld rfl ti3 ((Bx.cs t12).at 0 rfl))<|Zc (xc cb272 (mc rfl<|mc rfl<|mc rfl mn)) (c272 (x0:=y) hcT hrT (x1:=now) ⟨_,rfl,Flat.iff.2 rfl⟩ En) ?_
    rintro _ w12 ⟨u0,rfl,ru,hx12⟩
    obtain ⟨cu,rfl,hcu⟩:=ru
    obtain rfl:=Flat.iff.1 hcu
    have v9:=i1.ext hx12
    have v10:=t10.ext hx12
    have va:=i2.ext hx12
    refine sstf (u:=nx) l10' rfl ti326 rfl v10 (Flat.len now) fun w13 hch13 hb13=>nl<|rg<|Zv (xadd l27 rfl)<|Zm<|nl<|?_
    refine lqM k' (Nat.lt_succ_self _) ((hMW.ext hx12).chg hch13 v10.nd) ⟨k + 1,nx,n,A,by omega,hB,congrArg _ hadd,l26,l25,l6',l9',l10',v9.chg hch13 n910,hb13,va.chgb hch13 v10,?_⟩
    exact (((hx.ext kx11 hsw).trans (i3.weak fun q h1 h2=>⟨by omega,h2.1,h2.2.1⟩)).ext hx12 (by omega)).chg hch13 (.inr fun h=>h.2.2 rfl)
  ·have hc0:¬ (k:Int)<(o.2.1.length:Int):=by simpa using hc0
   obtain rfl:m'=0:=by omega
   rw [List.drop_eq_nil_of_le (by omega),jr_run] at hB
   cases hB
   exact wp_exit<|lfM hM ⟨l9',h9,k8.trans (hx.below k8.size fun q h=>⟨by omega,by omega,by omega⟩)⟩
 rintro L D w hM ⟨l9',h9,hx⟩
 refine Zr<|Zv (xld l9' ti2 ((Bx.cs h9).at 0 rfl))<|Za<|Za<|nl<|wp_ret<|rtMs rfl hM fun w' hk=>⟨_,.tmp rfl rfl (.tmp rfl rfl .nil),rfl,Below.tak hx hk (Nat.le_refl _)⟩
end Go.Proofs.YtfmelbioccbdoaaGreat
end
