/-
  Part 4 of 7 of what the last text stands on: lemmas about the model, pure functions, walks, laws in plain Lean; each part's own head says its condition. Merged by a program of our own.
-/
import Derived.Test.YtfmelbioccbdoaaGreatSharedEndsQc
import Derived.DeepKeys4
import Derived.OrdersIn
import Derived.Scope
import Derived.IntWalk
set_option maxHeartbeats 0
set_option linter.all false
section
namespace Go.Proofs.YtfmelbioccbdoaaGreat
open Go Go.Md Go.RowKit
attribute [local irreducible] Go.wpList Go.Code.wp Go.Calls Go.Md.Rnd Go.Md.Mt Go.Md.MtM Go.Md.RndM Go.Code.wpIn
theorem c96 {w0:World} {v0:Value} {x0:(List (Int×Int))} (r0:RV w0 v0 x0) {F:Nat} {r:(Ob (Uno (List ((Int×Int)×Int))))} (hF:scale_newSong F x0=some r) :
  Calls Tryz.prog 96 [v0].toArray w0 (Ret fun v w'=>∃ u0:Value,v=u0∧RV w' u0 r∧Ext w0 w'):=by
 unfold scale_newSong at hF
 have hz:=r0.sl; obtain ⟨a1,cq1,rfl,-,-,-⟩:=hz
 refine entr (n:=34) Tryz.func96 rfl rfl rfl<|Zr<|Za<|nl<|Zr<|Zv (xbdv (r:=[.slice none 0 0]) ti300 sp300 pn rfl)<|sbx rfl rfl fun b2 w1 hx1 hg1 hb1=>?_
 refine Za<|nl<|wp_seq<|Zr<|Zm<|Zv (xlen rfl Tryz.underlying32)<|Zm<|nl<|?_
 have hz:=bs hF; obtain ⟨z1,hB1,hF⟩:=hz
 refine ct (fun L w=>∃ v3:Value,Bx w b2 300 [v3]∧Row 302 w1.heap.size w v3 z1.v∧some b2≠Value.ownBlock v3∧L 3=.pointer (some ⟨b2,0,none⟩)∧w1.heap.size≤w.heap.size∧Ext w0 w) ?_ ?_
 ·
  refine wp_block<|lp (I:=fun m L w=>∃ y1:Int,∃ y2:(Uno (List ((Int×Int)×Int))),∃ v2:Value,scale_newSong_l1 F x0 m y1 y2 =some z1∧L 10=.int .i64 y1∧Bx w b2 300 [v2]∧Row 302 w1.heap.size w v2 y2.v∧some b2≠Value.ownBlock v2∧L 3=.pointer (some ⟨b2,0,none⟩)∧L 8=.slice a1 x0.length cq1∧L 9=.int .i64 (x0.length:Int)∧w1.heap.size≤w.heap.size∧Ext w0 w) F ⟨_,_,_,hB1,rfl,hb1,Row.nil,(fun e=>by cases e),rfl,rfl,rfl,(Nat.le_refl _),hx1⟩ ?_
  rintro m L w2 ⟨y1,y2,v2,hB1,l10_i1,B3_i1,O3c1_i1,N3c1_i1,l3_i1,l8_i1,l9_i1,Z0_i1,K0_i1⟩
  rcases m with _ | m
  ·rw [scale_newSong_l1] at hB1; cases hB1
  rw [scale_newSong_l1] at hB1
  have hz:=RV.sl O3c1_i1.rv; obtain ⟨a2,cq2,rfl,-,-,-⟩:=hz
  refine Zr<|Zv (xlss l10_i1 l9_i1)<|nl<|wp_seq<|cnd rfl (fun h2=>?_) (fun h2=>?_)
  ·
   have hB1:=ifp hB1 h2
   refine wp_skip<|wp_seq<|wp_block<|Zr<|Zm<|?_
   have hz:=bs hB1; obtain ⟨x2,Ex2,hB1⟩:=hz
   have hz:=(RV.els r0).ix Ex2; obtain ⟨b3,f1,cs2,e1,i2,i3,q2,hc1⟩:=hz
   cases e1
   obtain ⟨_,_,rfl,rfl,rfl⟩:=q2
   have hc2:=hc1.ext K0_i1
   refine Zv (xixs l8_i1 l10_i1 Tryz.underlying32 ti35 i2 i3)<|Zv (xlda rfl ti35 rfl hc2)<|sal ti35 fun b4 w3 hx2 hg2 hb2=>?_
   have k1:=K0_i1.tr hx2
   have zs1:=Nat.le_trans Z0_i1 hx2.size
   refine Za<|sst rfl rfl rfl ti35 hb2 rfl rfl (ble rfl) fun w4 hch1 hb3=>?_
   have k2:=Ext.chg k1 hch1 (Nat.le_trans K0_i1.size hg2)
   have k3:=Ext.chg hx2 hch1 (Nat.le_trans (Nat.le_refl _) hg2)
   have zs2:=Nat.le_trans zs1 (Nat.le_of_eq hch1.size.symm)
   have B2:=B3_i1.ext k3
   have O2:=O3c1_i1.ext k3
   have hb4:Bx w4 b4 35 [.int .i64 x2.1,.int .i64 x2.2]:=hb3
   refine nl<|wplG (row:=(Value.ownBlock (.slice a2 y2.v.length cq2))) [12] (.pure true 0 (.pure true 1 (.pure true 2 (.pure true 3 (.pure false 4 (.pure false 5 (.pure true 6 (.pure true 7 (.eff 8 (.eff 9 (.pure true 10 (.pure true 11 (.eff 12 .fin .stop))) .stop) .stop))))))))) mixed (by kernel_rfl) (fun w5 hx3=>?_)
   have k4:=k2.tr hx3
   have zs3:=Nat.le_trans zs2 hx3.size
   have B3:=B2.ext hx3
   have O3:=O2.ext hx3
   have hb5:=hb4.ext hx3
   refine Zn rfl<|Zn rfl<|Zp rfl (fun _=>xnil l3_i1)<|Zp rfl (fun _=>xfa rfl fa300_0)<|Zq rfl (fun _ hS=>xld rfl ti298 ((Bx.cs (Bx.gr B3 (hS.resolve_left nofun) N3c1_i1)).at 0 rfl)) (Ext.gro (Ext.refl _))<|Zq rfl (fun _ hS=>xlda rfl ti35 rfl (Bx.cs (Bx.gr hb5 (hS.resolve_left nofun) (O3c1_i1.ne_new hg2)))) (Ext.gro (Ext.refl _))<|Zn rfl<|Zp rfl (fun _=>xbdv (r:=[.int .i64 x2.1,.int .i64 x2.2,.int .i64 y1]) ti302 sp302 (pc rfl (pc l10_i1 pn)) rfl)<|pe1 rfl<|sbsv (cs:=[.int .i64 x2.1,.int .i64 x2.2,.int .i64 y1]) Tryz.underlying298 ti302 rfl (pc rfl pn) rfl rfl rfl rfl rfl fun b5 w6 hx4 hg3 hb6=>?_
   have k6:=k4.tr hx4
   have zs4:=Nat.le_trans zs3 hx4.size
   have B4:=B3.ext hx4
   have O4:=O3.ext hx4
   have o2:Row (α:=((Int×Int)×Int)) 302 w5.heap.size w6 (.slice (some ⟨b5,0,none⟩) 1 1) [((x2.1,x2.2),y1)]:=Row.lit hg3 hb6 rfl (ble rfl)
   refine nl ⟨fun _ _=>(Ext.gro hx4),?_⟩
   have hz:=bs hB1; obtain ⟨x3,Ex3,hB1⟩:=hz
   refine pe1 rfl<|sapx (l:=y2.v) (k:=([((x2.1,x2.2),y1)]:List ((Int×Int)×Int))) rfl rfl Tryz.underlying298 ti302 rfl rfl O4 (RV.els o2.rv) Ex3 zs4 fun v4 w7 o3 hB3 hgr1 how1=>?_
   have k8:=Ext.grow k6 hx1.size hB3
   have zs5:=Nat.le_trans zs4 hgr1.size
   have gS1:=World.grownBy.tr (Ext.gro hx4) hgr1
   have ne1:=ne_app how1 N3c1_i1 B4.lt
   have hb7:=Bx.gr B4 hgr1 N3c1_i1
   have hz:=RV.sl o3.rv; obtain ⟨a3,cq3,rfl,-,-,-⟩:=hz
   refine nl ⟨fun _ _=>gS1,?_⟩
   refine Zp rfl (fun _=>xnil l3_i1)<|Zp rfl (fun _=>xfa rfl fa300_0)<|pe1 rfl<|sst rfl rfl rfl ti298 hb7 rfl rfl (ble rfl) fun w8 hch2 hb8=>?_
   have k9:=Ext.chg k8 hch2 (Nat.le_trans (Nat.le_refl _) hg1)
   have zs6:=Nat.le_trans zs5 (Nat.le_of_eq hch2.size.symm)
   have o4:=Row.chgn o3 hch2 ne1
   have hb9:Bx w8 b2 300 [.slice a3 x3.length cq3]:=hb8
   refine nl ⟨fun h=>(h (by decide)).elim,?_⟩
   refine rg<|Zv (xadd l10_i1 rfl)<|Zm<|nl<|?_
   refine lq m (Nat.lt_succ_self _)<|?_
   exact ⟨_,_,_,hB1,rfl,hb9,o4,ne1,l3_i1,l8_i1,l9_i1,zs6,k9⟩
  ·
   have hB1:=ifn hB1 h2
   refine wp_exit<|?_
   cases hB1
   refine lf<|?_
   exact ⟨_,B3_i1,O3c1_i1,N3c1_i1,l3_i1,Z0_i1,K0_i1⟩
 rintro L w9 ⟨v3,B3_j1,O3c1_j1,N3c1_j1,l3_j1,Z0_j1,K0_j1⟩
 have hz:=RV.sl O3c1_j1.rv; obtain ⟨a4,cq4,rfl,-,-,-⟩:=hz
 refine Zr<|Zm<|Zv (xnil l3_j1)<|Zv (xfa rfl fa300_0)<|Zv (xld rfl ti298 ((Bx.cs B3_j1).at 0 rfl))<|?_
 have hz:=bs hF; obtain ⟨x4,Ex4,hF⟩:=hz
 refine Zc (xc cb203 (mc rfl (mc rfl mn))) (c203 (wtr_ext _ w1.heap.size) (by rw [wtr_size Z0_j1]; exact O3c1_j1) Ex4) ?_
 rintro _ w10 ⟨rfl,o5,hx5,hs1⟩
 rw [wtr_size Z0_j1] at o5
 have k10:=Ext.cut K0_j1 hx1.size hx5 hs1
 have hb10:=Bx.cut B3_j1 hb1.lt hx5
 have hl1:=(RV.cap o5.rv).1
 rw [hl1] at o5 hb10
 refine nl<|Zr<|Zm<|Za<|nl<|?_
 have r11:RV w10 (.pointer (some ⟨b2,0,none⟩)) (⟨some (⟨x4⟩:(Uno (List ((Int×Int)×Int))))⟩:(Ob (Uno (List ((Int×Int)×Int))))):=obNew (Bx.cs hb10) rfl o5.rv.rep1
 cases hF
 exact wp_ret<|rt rfl (.tmp l3_j1 rfl .nil) ⟨_,rfl,r11,k10⟩
theorem c329 {w0:World} {v0:Value} {x0:(List (Int×Int))} (r0:RV w0 v0 x0) {v1:Value} {x1:(Int×Int)→Option Bool} (h1:FnB Tryz.prog (Int×Int) w0 v1 x1) {F:Nat} {r:Int} (hF:slices_IndexFunc_api_Range F x0 x1=some r) :
  Calls Tryz.prog 329 [v0,v1].toArray w0 (Ret fun v w'=>v=.int .i64 r∧Ext w0 w'):=by
 unfold slices_IndexFunc_api_Range at hF
 have hz:=r0.sl; obtain ⟨a1,cq1,rfl,-,-,-⟩:=hz
 refine entr (n:=19) Tryz.func329 rfl rfl rfl<|Zr<|Za<|nl<|wp_seq<|Zr<|Zm<|Zv (xlen rfl Tryz.underlying32)<|Zm<|nl<|?_
 have hz:=bs hF; obtain ⟨o1,hB1,hF⟩:=hz
 refine ct (fun L w=>o1=.inr ()∧Ext w0 w) ?_ ?_
 ·
  refine wp_block<|lp (I:=fun m L w=>∃ y1:Int,slices_IndexFunc_api_Range_l1 F x0 x1 m y1 =some o1∧L 8=.int .i64 y1∧L 0=.slice a1 x0.length cq1∧L 1=v1∧L 7=.int .i64 (x0.length:Int)∧Ext w0 w) F ⟨_,hB1,rfl,rfl,rfl,rfl,(Ext.refl _)⟩ ?_
  rintro m L w1 ⟨y1,hB1,l8_i1,l0_i1,l1_i1,l7_i1,K0_i1⟩
  rcases m with _ | m
  ·rw [slices_IndexFunc_api_Range_l1] at hB1; cases hB1
  rw [slices_IndexFunc_api_Range_l1] at hB1
  have h3:=h1.ext K0_i1
  refine Zr<|Zv (xlss l8_i1 l7_i1)<|nl<|wp_seq<|cnd rfl (fun h4=>?_) (fun h4=>?_)
  ·
   have hB1:=ifp hB1 h4
   refine wp_skip<|wp_seq<|wp_block<|Zr<|Zm<|Za<|nl<|Zr<|Zm<|Zm<|Zm<|?_
   have hz:=bs hB1; obtain ⟨x3,Ex3,hB1⟩:=hz
   have hz:=(RV.els r0).ix Ex3; obtain ⟨b3,f1,cs3,e1,i2,i3,q3,hc1⟩:=hz
   cases e1
   obtain ⟨_,_,rfl,rfl,rfl⟩:=q3
   have hc2:=hc1.ext K0_i1
   refine Zv (xixs l0_i1 l8_i1 Tryz.underlying32 ti35 i2 i3)<|Zv (xlda rfl ti35 rfl hc2)<|?_
   have hz:=bs hB1; obtain ⟨x4,Ex4,hB1⟩:=hz
   have hz:=id h3; obtain ⟨g1,fs1,cs4,e2,hg1,hu1⟩:=hz
   refine Zc (xcv (l1_i1.trans e2) hg1 (mc rfl mn) rfl) (hu1 _ _ _ _ (Ext.refl _) (show RV (α:=(Int×Int)) _ (.agg [.int .i64 x3.1,.int .i64 x3.2].toArray) (x3.1,x3.2) from ⟨_,rfl,⟨[.int .i64 x3.1],[.int .i64 x3.2],rfl,rfl,rfl⟩⟩) Ex4) ?_
   rintro _ w2 ⟨rfl,hx1⟩
   have k1:=K0_i1.tr hx1
   refine nl<|cnd rfl (fun h6=>?_) (fun h6=>?_)
   ·
    have hB1:=ifp hB1 h6
    refine Zr<|Zm<|Za<|nl<|?_
    cases hB1
    have hF:=(show some _=some _ from hF); cases hF
    exact wp_ret<|rt rfl (.tmp l8_i1 rfl .nil) ⟨rfl,k1⟩
   ·
    have hB1:=ifn hB1 h6
    refine wp_skip<|rg<|Zv (xadd l8_i1 rfl)<|Zm<|nl<|?_
    refine lq m (Nat.lt_succ_self _)<|?_
    exact ⟨_,hB1,rfl,l0_i1,l1_i1,l7_i1,k1⟩
  ·
   have hB1:=ifn hB1 h4
   refine wp_exit<|?_
   cases hB1
   refine lf<|?_
   exact ⟨rfl,K0_i1⟩
 rintro L w3 ⟨rfl,K0_j1⟩
 refine Zr<|Za<|nl<|?_
 cases hF
 exact wp_ret<|rt rfl (.tmp rfl rfl .nil) ⟨rfl,K0_j1⟩
theorem c279 {w0:World} {v0:Value} {x0:(List (Int×Int))} (r0:RV w0 v0 x0) {v1:Value} {x1:(Int×Int)→Option Bool} (h1:FnB Tryz.prog (Int×Int) w0 v1 x1) {F:Nat} {r:Bool} (hF:slices_ContainsFunc_api_Range F x0 x1=some r) :
  Calls Tryz.prog 279 [v0,v1].toArray w0 (Ret fun v w'=>v=.bool r∧Ext w0 w'):=by
 unfold slices_ContainsFunc_api_Range at hF
 have hz:=r0.sl; obtain ⟨a1,cq1,rfl,-,-,-⟩:=hz
 refine entr (n:=9) Tryz.func279 rfl rfl rfl<|Zr<|Za<|nl<|Zr<|Zm<|Zm<|?_
 have hz:=bs hF; obtain ⟨x3,Ex3,hF⟩:=hz
 refine Zc (xc cb329 (mc rfl (mc rfl mn))) (c329 r0 h1 Ex3) ?_
 rintro _ w1 ⟨rfl,hx1⟩
 refine Zv (xgeq rfl rfl)<|Za<|nl<|?_
 cases hF
 exact wp_ret<|rt rfl (.tmp rfl rfl .nil) ⟨rfl,hx1⟩
theorem c280 {w0:World} {v0:Value} {x0:(Int×Int)} (r0:RV w0 v0 x0) {r:Bool} (hF:scale_within_1 x0=some r) :
  Calls Tryz.prog 280 [v0].toArray w0 (Ret fun v w'=>v=.bool r∧Ext w0 w'):=by
 unfold scale_within_1 at hF
 have hz:=id r0; obtain ⟨_,rfl,⟨_,_,rfl,rfl,rfl⟩⟩:=hz
 refine entr (n:=18) Tryz.func280 rfl rfl rfl<|Zr<|sbx rfl rfl fun b2 w1 hx1 hg1 hb1=>?_
 refine Za<|nl<|Zr<|Zv (xfa rfl fa35_0)<|Zv (xld rfl ti2 ((Bx.cs hb1).at 0 rfl))<|Zv (xlss rfl rfl)<|Zm<|Zg rfl rfl (gw0 rfl) (fun hc=>xfa rfl fa35_0)<|Zg rfl rfl (gw0 rfl) (fun hc=>xld (mv hc rfl) ti2 ((Bx.cs hb1).at 0 rfl))<|Zg rfl rfl (gw0 rfl) (fun hc=>xfa rfl fa35_1)<|Zg rfl rfl (gw0 rfl) (fun hc=>xld (mv hc rfl) ti2 ((Bx.cs hb1).at 1 rfl))<|Zg rfl rfl (gw0 rfl) (fun hc=>xgtr (mv hc rfl) (mv hc rfl))<|Zv (xpo rfl rfl rfl)<|Zm<|Zg rfl rfl (gw0 rfl) (fun hc=>xfa rfl fa35_1)<|Zg rfl rfl (gw0 rfl) (fun hc=>xld (mv hc rfl) ti2 ((Bx.cs hb1).at 1 rfl))<|Zg rfl rfl (gw0 rfl) (fun hc=>xgtr (mv hc rfl) rfl)<|Zv (xpo rfl rfl rfl)<|Za<|nl<|?_
 cases hF
 exact wp_ret<|rt rfl (.tmp rfl rfl .nil) ⟨rfl,hx1⟩
theorem c202 {w0:World} {v0:Value} {x0:(List (Int×Int))} (r0:RV w0 v0 x0) {F:Nat} {r:Bool} (hF:scale_within F x0=some r) :
  Calls Tryz.prog 202 [v0].toArray w0 (Ret fun v w'=>v=.bool r∧Ext w0 w'):=by
 unfold scale_within at hF
 have hz:=r0.sl; obtain ⟨a1,cq1,rfl,-,-,-⟩:=hz
 refine entr (n:=6) Tryz.func202 rfl rfl rfl<|Zr<|Za<|nl<|Zr<|Zm<|?_
 have hz:=bs hF; obtain ⟨x2,Ex2,hF⟩:=hz
 refine Zc (xc cb279 (mc rfl (mc rfl mn))) (c279 r0 ⟨280,[],[],rfl,cb280,fun w' u x b hk hu hp=>c280 hu  hp⟩ Ex2) ?_
 rintro _ w1 ⟨rfl,hx1⟩
 refine Zv (xnot rfl)<|Za<|nl<|?_
 cases hF
 exact wp_ret<|rt rfl (.tmp rfl rfl .nil) ⟨rfl,hx1⟩
theorem c95 {w0:World} {v0:Value} {x0:(List (Int×Int))} (r0:RV w0 v0 x0) {F:Nat} {r:Int} (hF:scale_CheckSong F x0=some r) :
  Calls Tryz.prog 95 [v0].toArray w0 (Ret fun v w'=>v=.int .i64 r∧Ext w0 w'):=by
 unfold scale_CheckSong at hF
 have hz:=r0.sl; obtain ⟨a1,cq1,rfl,-,-,-⟩:=hz
 refine entr (n:=16) Tryz.func95 rfl rfl rfl<|Zr<|Za<|nl<|wp_seq<|wp_block<|Zr<|Zm<|Zv (xlen rfl Tryz.underlying32)<|Zv (xeql rfl rfl)<|Zm<|Zg rfl rfl (gw0 rfl) (fun hc=>xmva rfl)<|Zg rfl rfl (gw0 rfl) (fun hc=>xlen (mv hc rfl) Tryz.underlying32)<|Zg rfl rfl (gw0 rfl) (fun hc=>xgtr (mv hc rfl) rfl)<|Zv (xpo rfl rfl rfl)<|Za<|nl<|cnd rfl (fun h2=>?_) (fun h2=>?_)
 ·
  have hF:=ifp hF h2
  refine Zr<|Za<|nl<|?_
  cases hF
  exact wp_ret<|rt rfl (.tmp rfl rfl .nil) ⟨rfl,(Ext.refl _)⟩
 ·
  have hF:=ifn hF h2
  refine Zr<|Zm<|?_
  have hz:=bs hF; obtain ⟨x2,Ex2,hF⟩:=hz
  refine Zc (xc cb202 (mc rfl mn)) (c202 r0 Ex2) ?_
  rintro _ w1 ⟨rfl,hx1⟩
  refine Zv (xnot rfl)<|Za<|nl<|cnd rfl (fun h3=>?_) (fun h3=>?_)
  ·
   have hF:=ifp hF h3
   refine Zr<|Za<|nl<|?_
   cases hF
   exact wp_ret<|rt rfl (.tmp rfl rfl .nil) ⟨rfl,hx1⟩
  ·
   have hF:=ifn hF h3
   refine wp_skip<|Zr<|Za<|nl<|?_
   cases hF
   exact wp_ret<|rt rfl (.tmp rfl rfl .nil) ⟨rfl,hx1⟩
theorem c67 {w0:World} {v0:Value} {x0:(Int×Int)} (r0:RV w0 v0 x0) {v1:Value} {x1:(List Int)} (r1:RV w0 v1 x1) {F:Nat} {r:Bool} (hF:ref03_Meets F x0 x1=some r) :
  Calls Tryz.prog 67 [v0,v1].toArray w0 (Ret fun v w'=>v=.bool r∧Ext w0 w'):=by
 unfold ref03_Meets at hF
 have hz:=id r0; obtain ⟨_,rfl,⟨_,_,rfl,rfl,rfl⟩⟩:=hz
 have hz:=r1.sl; obtain ⟨a1,cq1,rfl,-,-,-⟩:=hz
 refine entr (n:=28) Tryz.func67 rfl rfl rfl<|Zr<|sbx rfl rfl fun b3 w1 hx1 hg1 hb1=>?_
 refine Za<|nl<|wp_seq<|Zr<|Za<|nl<|?_
 have hz:=bs hF; obtain ⟨o1,hB1,hF⟩:=hz
 refine ct (fun L w=>o1=.inr ()∧Ext w1 w) ?_ ?_
 ·
  refine wp_block<|lp (I:=fun m L w=>∃ y1:Int,ref03_Meets_l1 F x0 x1 m y1 =some o1∧L 5=.int .i64 y1∧L 1=.slice a1 x1.length cq1∧L 2=.pointer (some ⟨b3,0,none⟩)∧Ext w1 w) F ⟨_,hB1,rfl,rfl,rfl,(Ext.refl _)⟩ ?_
  rintro m L w2 ⟨y1,hB1,l5_i1,l1_i1,l2_i1,K0_i1⟩
  rcases m with _ | m
  ·rw [ref03_Meets_l1] at hB1; cases hB1
  rw [ref03_Meets_l1] at hB1
  have k1:=hx1.tr K0_i1
  have hb2:=hb1.ext K0_i1
  refine wp_seq<|Zr<|Zm<|Zm<|Zv (xlen l1_i1 Tryz.underlying28)<|Zv (xlss l5_i1 rfl)<|nl<|cnd rfl (fun h3=>?_) (fun h3=>?_)
  ·
   have hB1:=ifp hB1 h3
   refine wp_skip<|wp_seq<|wp_block<|wp_seq<|?_
   have hz:=bs hB1; obtain ⟨y2,hB3,hB1⟩:=hz
   refine ct (fun L w=>L 27=.bool y2∧L 1=.slice a1 x1.length cq1∧L 2=.pointer (some ⟨b3,0,none⟩)∧L 5=.int .i64 y1∧Ext w2 w) ?_ ?_
   ·
    refine wpl [] (.pure true 0 (.pure true 1 (.pure true 2 (.pure false 3 (.pure true 4 (.pure false 5 (.pure true 6 (.pure true 7 (.pure true 8 (.pure true 9 (.pure true 10 (.pure false 11 (.pure true 12 (.pure false 13 (.pure true 14 (.pure true 15 .fin)))))))))))))))) mixed (by kernel_rfl) (fun w4 hx3=>?_)
    have k4:=k1.tr hx3
    have hb4:=hb2.ext hx3
    refine Zn rfl<|Zn rfl<|?_
    have hz:=bs hB3; obtain ⟨x4,Ex4,hB3⟩:=hz
    have hz:=(RV.els r1).ix Ex4; obtain ⟨b5,f2,cs4,e2,i4,i5,q4,hc3⟩:=hz
    cases e2
    obtain rfl:=q4
    have hc4:=hc3.ext k4
    refine Zp rfl (fun _=>xixs l1_i1 l5_i1 Tryz.underlying28 ti2 i4 i5)<|Zq rfl (fun _ hS=>xld rfl ti2 ((hc4.ext (hS.resolve_left nofun)).at 0 rfl)) (Ext.refl _)<|Zp rfl (fun _=>xfa l2_i1 fa35_0)<|Zq rfl (fun _ hS=>xld rfl ti2 ((Bx.cs (hb4.ext (hS.resolve_left nofun))).at 0 rfl)) (Ext.refl _)<|Zp rfl (fun _=>xgeq rfl rfl)<|Zn rfl<|?_
    refine Or.elim (Bool.eq_false_or_eq_true (decide (x0.1≤x4))) (fun h4=>?_) (fun h4=>?_)
    ·
     have hB3:=ifp hB3 h4
     refine Zt rfl rfl rfl rfl (bt h4) (fun _=>xmv)<|Zt rfl rfl rfl rfl (bt h4) (fun _=>xmv)<|?_
     have hz:=bs hB3; obtain ⟨x5,Ex5,hB3⟩:=hz
     have hz:=ix2 r1 Ex5; obtain ⟨cs5,i6,i7,q5,hc5⟩:=hz
     obtain rfl:=q5
     have hc6:=hc5.ext k4
     refine Zt rfl rfl rfl rfl (bt h4) (fun _=>xixs l1_i1 l5_i1 Tryz.underlying28 ti2 i6 i7)<|pvt rfl rfl rfl rfl rfl rfl (bt h4) rfl (fun _ hS=>xld rfl ti2 ((hc6.ext (hS.resolve_left nofun)).at 0 rfl)) (.inr (Ext.refl _))<|Zt rfl rfl rfl rfl (bt h4) (fun _=>xfa l2_i1 fa35_1)<|pvt rfl rfl rfl rfl rfl rfl (bt h4) rfl (fun _ hS=>xld rfl ti2 ((Bx.cs (hb4.ext (hS.resolve_left nofun))).at 1 rfl)) (.inr (Ext.refl _))<|Zt rfl rfl rfl rfl (bt h4) (fun _=>xleq rfl rfl)<|Zp rfl (fun _=>xpt rfl h4 rfl)<|?_
     cases hB3
     refine lf<|?_
     exact ⟨rfl,l1_i1,l2_i1,l5_i1,hx3⟩
    ·
     have hB3:=ifn hB3 h4
     refine Zf rfl rfl rfl rfl (bft h4)<|Zf rfl rfl rfl rfl (bft h4)<|Zf rfl rfl rfl rfl (bft h4)<|pvf rfl rfl rfl rfl rfl rfl (bft h4) rfl (.inr (Ext.refl _))<|Zf rfl rfl rfl rfl (bft h4)<|pvf rfl rfl rfl rfl rfl rfl (bft h4) rfl (.inr (Ext.refl _))<|Zf rfl rfl rfl rfl (bft h4)<|Zp rfl (fun _=>xpf rfl h4 rfl)<|?_
     cases hB3
     refine lf<|?_
     exact ⟨rfl,l1_i1,l2_i1,l5_i1,hx3⟩
   rintro L w5 ⟨l27_j1,l1_j1,l2_j1,l5_j1,K0_j1⟩
   have k6:=k1.tr K0_j1
   have k7:=K0_i1.tr K0_j1
   refine cnd l27_j1 (fun h5=>?_) (fun h5=>?_)
   ·
    have hB1:=ifp hB1 h5
    refine Zr<|Za<|nl<|?_
    cases hB1
    have hF:=(show some _=some _ from hF); cases hF
    exact wp_ret<|rt rfl (.tmp rfl rfl .nil) ⟨rfl,k6⟩
   ·
    have hB1:=ifn hB1 h5
    refine wp_skip<|rg<|Zm<|Zv (xadd l5_j1 rfl)<|Za<|nl<|?_
    refine lq m (Nat.lt_succ_self _)<|?_
    exact ⟨_,hB1,rfl,l1_j1,l2_j1,k7⟩
  ·
   have hB1:=ifn hB1 h3
   refine wp_exit<|?_
   cases hB1
   refine lf<|?_
   exact ⟨rfl,K0_i1⟩
 rintro L w6 ⟨rfl,K0_j2⟩
 have k8:=hx1.tr K0_j2
 refine Zr<|Za<|nl<|?_
 cases hF
 exact wp_ret<|rt rfl (.tmp rfl rfl .nil) ⟨rfl,k8⟩
theorem c65 {w0:World} {v0:Value} {x0:(List (Int×Int))} (r0:RV w0 v0 x0) {F:Nat} {r:Int} (hF:ref03_CheckSong F x0=some r) :
  Calls Tryz.prog 65 [v0].toArray w0 (Ret fun v w'=>v=.int .i64 r∧Ext w0 w'):=by
 unfold ref03_CheckSong at hF
 have hz:=r0.sl; obtain ⟨a1,cq1,rfl,-,-,-⟩:=hz
 refine entr (n:=45) Tryz.func65 rfl rfl rfl<|Zr<|Za<|nl<|wp_seq<|Zr<|Zm<|Zv (xlen rfl Tryz.underlying32)<|Zv (xlss rfl rfl)<|Zm<|Zg rfl rfl (gw0 rfl) (fun hc=>xmva rfl)<|Zg rfl rfl (gw0 rfl) (fun hc=>xlen (mv hc rfl) Tryz.underlying32)<|Zg rfl rfl (gw0 rfl) (fun hc=>xgtr (mv hc rfl) rfl)<|Zv (xpo rfl rfl rfl)<|nl<|cnd rfl (fun h2=>?_) (fun h2=>?_)
 ·
  have hF:=ifp hF h2
  refine Zr<|Za<|nl<|?_
  cases hF
  exact wp_ret<|rt rfl (.tmp rfl rfl .nil) ⟨rfl,(Ext.refl _)⟩
 ·
  have hF:=ifn hF h2
  refine wp_skip<|wp_seq<|Zr<|Za<|nl<|?_
  have hz:=bs hF; obtain ⟨o1,hB1,hF⟩:=hz
  refine ct (fun L w=>o1=.inr ()∧Ext w0 w) ?_ ?_
  ·
   refine wp_block<|lp (I:=fun m L w=>∃ y1:Int,ref03_CheckSong_l1 F x0 m y1 =some o1∧L 3=.int .i64 y1∧L 0=.slice a1 x0.length cq1∧Ext w0 w) F ⟨_,hB1,rfl,rfl,(Ext.refl _)⟩ ?_
   rintro m L w1 ⟨y1,hB1,l3_i1,l0_i1,K0_i1⟩
   rcases m with _ | m
   ·rw [ref03_CheckSong_l1] at hB1; cases hB1
   rw [ref03_CheckSong_l1] at hB1
   refine wp_seq<|Zr<|Zm<|Zm<|Zv (xlen l0_i1 Tryz.underlying32)<|Zv (xlss l3_i1 rfl)<|nl<|cnd rfl (fun h3=>?_) (fun h3=>?_)
   ·
    have hB1:=ifp hB1 h3
    refine wp_skip<|wp_seq<|wp_block<|wp_seq<|?_
    have hz:=bs hB1; obtain ⟨y2,hB3,hB1⟩:=hz
    refine ct (fun L w=>L 44=.bool y2∧L 0=.slice a1 x0.length cq1∧L 3=.int .i64 y1∧Ext w1 w) ?_ ?_
    ·
     refine wpl [] (.pure true 0 (.pure true 1 (.pure true 2 (.pure true 3 (.pure false 4 (.pure true 5 (.pure true 6 (.pure true 7 (.pure true 8 (.pure true 9 (.pure true 10 (.pure false 11 (.pure true 12 (.pure true 13 (.pure true 14 (.pure true 15 (.pure false 16 (.pure true 17 (.pure true 18 (.pure true 19 (.pure true 20 (.pure true 21 (.pure true 22 (.pure true 23 (.pure false 24 (.pure true 25 (.pure true 26 .fin))))))))))))))))))))))))))) mixed (by kernel_rfl) (fun w3 hx2=>?_)
     have k2:=K0_i1.tr hx2
     refine Zn rfl<|Zn rfl<|?_
     have hz:=bs hB3; obtain ⟨x3,Ex3,hB3⟩:=hz
     have hz:=(RV.els r0).ix Ex3; obtain ⟨b3,f2,cs3,e2,i4,i5,q3,hc3⟩:=hz
     cases e2
     obtain ⟨_,_,rfl,rfl,rfl⟩:=q3
     have hc4:=hc3.ext k2
     refine Zp rfl (fun _=>xixs l0_i1 l3_i1 Tryz.underlying32 ti35 i4 i5)<|Zp rfl (fun _=>xfa rfl fa35_0)<|Zq rfl (fun _ hS=>xld rfl ti2 ((hc4.ext (hS.resolve_left nofun)).at 0 rfl)) (Ext.refl _)<|Zp rfl (fun _=>xlss rfl rfl)<|Zn rfl<|?_
     refine Or.elim (Bool.eq_false_or_eq_true (decide (x3.1<0))) (fun h4=>?_) (fun h4=>?_)
     ·
      have hB3:=ifp hB3 h4
      refine Zf rfl rfl rfl rfl (btf h4)<|Zf rfl rfl rfl rfl (btf h4)<|Zf rfl rfl rfl rfl (btf h4)<|Zf rfl rfl rfl rfl (btf h4)<|pvf rfl rfl rfl rfl rfl rfl (btf h4) rfl (.inr (Ext.refl _))<|Zf rfl rfl rfl rfl (btf h4)<|Zf rfl rfl rfl rfl (btf h4)<|Zf rfl rfl rfl rfl (btf h4)<|Zf rfl rfl rfl rfl (btf h4)<|pvf rfl rfl rfl rfl rfl rfl (btf h4) rfl (.inr (Ext.refl _))<|Zf rfl rfl rfl rfl (btf h4)<|Zp rfl (fun _=>xpt rfl h4 rfl)<|Zn rfl<|?_
      refine Or.elim (Bool.eq_false_or_eq_true true) (fun h5=>?_) (fun h5=>?_)
      ·
       have hB3:=ifp hB3 h5
       refine Zf rfl rfl rfl rfl (btf h5)<|Zf rfl rfl rfl rfl (btf h5)<|Zf rfl rfl rfl rfl (btf h5)<|Zf rfl rfl rfl rfl (btf h5)<|pvf rfl rfl rfl rfl rfl rfl (btf h5) rfl (.inr (Ext.refl _))<|Zf rfl rfl rfl rfl (btf h5)<|Zp rfl (fun _=>xpt rfl h5 rfl)<|?_
       cases hB3
       refine lf<|?_
       exact ⟨rfl,l0_i1,l3_i1,hx2⟩
      ·
       have hB3:=ifn hB3 h5
       refine Zt rfl rfl rfl rfl (bf h5) (fun _=>xmv)<|Zt rfl rfl rfl rfl (bf h5) (fun _=>xmv)<|?_
       have hz:=bs hB3; obtain ⟨x4,Ex4,hB3⟩:=hz
       have hz:=ix2 r0 Ex4; obtain ⟨cs4,i6,i7,q4,hc5⟩:=hz
       obtain ⟨_,_,rfl,rfl,rfl⟩:=q4
       have hc6:=hc5.ext k2
       refine Zt rfl rfl rfl rfl (bf h5) (fun _=>xixs l0_i1 l3_i1 Tryz.underlying32 ti35 i6 i7)<|Zt rfl rfl rfl rfl (bf h5) (fun _=>xfa rfl fa35_1)<|pvt rfl rfl rfl rfl rfl rfl (bf h5) rfl (fun _ hS=>xld rfl ti2 ((hc6.ext (hS.resolve_left nofun)).at 1 rfl)) (.inr (Ext.refl _))<|Zt rfl rfl rfl rfl (bf h5) (fun _=>xgtr rfl rfl)<|Zp rfl (fun _=>xpf rfl h5 rfl)<|?_
       cases hB3
       refine lf<|?_
       exact ⟨rfl,l0_i1,l3_i1,hx2⟩
     ·
      have hB3:=ifn hB3 h4
      refine Zt rfl rfl rfl rfl (bf h4) (fun _=>xmv)<|Zt rfl rfl rfl rfl (bf h4) (fun _=>xmv)<|?_
      have hz:=bs hB3; obtain ⟨x5,Ex5,hB3⟩:=hz
      have hz:=ix2 r0 Ex5; obtain ⟨cs5,i8,i9,q5,hc7⟩:=hz
      obtain ⟨_,_,rfl,rfl,rfl⟩:=q5
      have hc8:=hc7.ext k2
      refine Zt rfl rfl rfl rfl (bf h4) (fun _=>xixs l0_i1 l3_i1 Tryz.underlying32 ti35 i8 i9)<|Zt rfl rfl rfl rfl (bf h4) (fun _=>xfa rfl fa35_0)<|pvt rfl rfl rfl rfl rfl rfl (bf h4) rfl (fun _ hS=>xld rfl ti2 ((hc8.ext (hS.resolve_left nofun)).at 0 rfl)) (.inr (Ext.refl _))<|Zt rfl rfl rfl rfl (bf h4) (fun _=>xmv)<|Zt rfl rfl rfl rfl (bf h4) (fun _=>xmv)<|?_
      have hz:=bs hB3; obtain ⟨x6,Ex6,hB3⟩:=hz
      have hz:=ix2 r0 Ex6; obtain ⟨cs6,i10,i11,q6,hc9⟩:=hz
      obtain ⟨_,_,rfl,rfl,rfl⟩:=q6
      have hc10:=hc9.ext k2
      refine Zt rfl rfl rfl rfl (bf h4) (fun _=>xixs l0_i1 l3_i1 Tryz.underlying32 ti35 i10 i11)<|Zt rfl rfl rfl rfl (bf h4) (fun _=>xfa rfl fa35_1)<|pvt rfl rfl rfl rfl rfl rfl (bf h4) rfl (fun _ hS=>xld rfl ti2 ((hc10.ext (hS.resolve_left nofun)).at 1 rfl)) (.inr (Ext.refl _))<|Zt rfl rfl rfl rfl (bf h4) (fun _=>xgtr rfl rfl)<|Zp rfl (fun _=>xpf rfl h4 rfl)<|Zn rfl<|?_
      refine Or.elim (Bool.eq_false_or_eq_true (decide (x6.2<x5.1))) (fun h6=>?_) (fun h6=>?_)
      ·
       have hB3:=ifp hB3 h6
       refine Zf rfl rfl rfl rfl (btf h6)<|Zf rfl rfl rfl rfl (btf h6)<|Zf rfl rfl rfl rfl (btf h6)<|Zf rfl rfl rfl rfl (btf h6)<|pvf rfl rfl rfl rfl rfl rfl (btf h6) rfl (.inr (Ext.refl _))<|Zf rfl rfl rfl rfl (btf h6)<|Zp rfl (fun _=>xpt rfl h6 rfl)<|?_
       cases hB3
       refine lf<|?_
       exact ⟨rfl,l0_i1,l3_i1,hx2⟩
      ·
       have hB3:=ifn hB3 h6
       refine Zt rfl rfl rfl rfl (bf h6) (fun _=>xmv)<|Zt rfl rfl rfl rfl (bf h6) (fun _=>xmv)<|?_
       have hz:=bs hB3; obtain ⟨x7,Ex7,hB3⟩:=hz
       have hz:=ix2 r0 Ex7; obtain ⟨cs7,i12,i13,q7,hc11⟩:=hz
       obtain ⟨_,_,rfl,rfl,rfl⟩:=q7
       have hc12:=hc11.ext k2
       refine Zt rfl rfl rfl rfl (bf h6) (fun _=>xixs l0_i1 l3_i1 Tryz.underlying32 ti35 i12 i13)<|Zt rfl rfl rfl rfl (bf h6) (fun _=>xfa rfl fa35_1)<|pvt rfl rfl rfl rfl rfl rfl (bf h6) rfl (fun _ hS=>xld rfl ti2 ((hc12.ext (hS.resolve_left nofun)).at 1 rfl)) (.inr (Ext.refl _))<|Zt rfl rfl rfl rfl (bf h6) (fun _=>xgtr rfl rfl)<|Zp rfl (fun _=>xpf rfl h6 rfl)<|?_
       cases hB3
       refine lf<|?_
       exact ⟨rfl,l0_i1,l3_i1,hx2⟩
    rintro L w4 ⟨l44_j1,l0_j1,l3_j1,K0_j1⟩
    have k3:=K0_i1.tr K0_j1
    refine cnd l44_j1 (fun h7=>?_) (fun h7=>?_)
    ·
     have hB1:=ifp hB1 h7
     refine Zr<|Za<|nl<|?_
     cases hB1
     have hF:=(show some _=some _ from hF); cases hF
     exact wp_ret<|rt rfl (.tmp rfl rfl .nil) ⟨rfl,k3⟩
    ·
     have hB1:=ifn hB1 h7
     refine wp_skip<|rg<|Zm<|Zv (xadd l3_j1 rfl)<|Za<|nl<|?_
     refine lq m (Nat.lt_succ_self _)<|?_
     exact ⟨_,hB1,rfl,l0_j1,k3⟩
   ·
    have hB1:=ifn hB1 h3
    refine wp_exit<|?_
    cases hB1
    refine lf<|?_
    exact ⟨rfl,K0_i1⟩
  rintro L w5 ⟨rfl,K0_j2⟩
  refine Zr<|Za<|nl<|?_
  cases hF
  exact wp_ret<|rt rfl (.tmp rfl rfl .nil) ⟨rfl,K0_j2⟩
theorem c101 {w0:World} {v0:Value} {x0:(List (Int×Int))} (r0:RV w0 v0 x0) {v1:Value} {x1:(List Int)} (r1:RV w0 v1 x1) {F:Nat} {r:Int} (hF:ref03_IsScale F x0 x1=some r) :
  Calls Tryz.prog 101 [v0,v1].toArray w0 (Ret fun v w'=>v=.int .i64 r∧Ext w0 w'):=by
 unfold ref03_IsScale at hF
 have hz:=r0.sl; obtain ⟨a1,cq1,rfl,-,-,-⟩:=hz
 have hz:=r1.sl; obtain ⟨a2,cq2,rfl,-,-,-⟩:=hz
 refine entr (n:=49) Tryz.func101 rfl rfl rfl<|Zr<|Za<|nl<|wp_seq<|Zr<|Zm<|?_
 have hz:=bs hF; obtain ⟨x3,Ex3,hF⟩:=hz
 refine Zc (xc cb65 (mc rfl mn)) (c65 r0 Ex3) ?_
 rintro _ w1 ⟨rfl,hx1⟩
 have r3:=r0.ext hx1
 refine Zv (xneq rfl rfl)<|nl<|cnd rfl (fun h3=>?_) (fun h3=>?_)
 ·
  have hF:=ifp hF h3
  refine Zr<|Zm<|?_
  have hz:=bs hF; obtain ⟨x4,Ex4,hF⟩:=hz
  refine Zc (xc cb65 (mc rfl mn)) (c65 r3 Ex4) ?_
  rintro _ w2 ⟨rfl,hx2⟩
  have k1:=hx1.tr hx2
  refine Za<|nl<|?_
  cases hF
  exact wp_ret<|rt rfl (.tmp rfl rfl .nil) ⟨rfl,k1⟩
 ·
  have hF:=ifn hF h3
  refine wp_skip<|wp_seq<|Zr<|Zm<|Zv (xlen rfl Tryz.underlying28)<|Zv (xgtr rfl rfl)<|nl<|cnd rfl (fun h4=>?_) (fun h4=>?_)
  ·
   have hF:=ifp hF h4
   refine Zr<|Za<|nl<|?_
   cases hF
   exact wp_ret<|rt rfl (.tmp rfl rfl .nil) ⟨rfl,hx1⟩
  ·
   have hF:=ifn hF h4
   refine wp_skip<|wp_seq<|Zr<|Za<|nl<|?_
   have hz:=bs hF; obtain ⟨o1,hB1,hF⟩:=hz
   refine ct (fun L w=>o1=.inr ()∧L 1=.slice a2 x1.length cq2∧Ext w1 w) ?_ ?_
   ·
    refine wp_block<|lp (I:=fun m L w=>∃ y1:Int,ref03_IsScale_l1 F x1 m y1 =some o1∧L 5=.int .i64 y1∧L 1=.slice a2 x1.length cq2∧Ext w1 w) F ⟨_,hB1,rfl,rfl,(Ext.refl _)⟩ ?_
    rintro m L w3 ⟨y1,hB1,l5_i1,l1_i1,K0_i1⟩
    rcases m with _ | m
    ·rw [ref03_IsScale_l1] at hB1; cases hB1
    rw [ref03_IsScale_l1] at hB1
    have k2:=hx1.tr K0_i1
    refine wp_seq<|Zr<|Zm<|Zm<|Zv (xlen l1_i1 Tryz.underlying28)<|Zv (xlss l5_i1 rfl)<|nl<|cnd rfl (fun h5=>?_) (fun h5=>?_)
    ·
     have hB1:=ifp hB1 h5
     refine wp_skip<|wp_seq<|wp_block<|wp_seq<|?_
     have hz:=bs hB1; obtain ⟨y2,hB3,hB1⟩:=hz
     refine ct (fun L w=>L 32=.bool y2∧L 1=.slice a2 x1.length cq2∧L 5=.int .i64 y1∧Ext w3 w) ?_ ?_
     ·
      refine rg<|Zm<|Zm<|?_
      have hz:=bs hB3; obtain ⟨x6,Ex6,hB3⟩:=hz
      have hz:=(RV.els r1).ix Ex6; obtain ⟨b4,f2,cs4,e2,i4,i5,q4,hc3⟩:=hz
      cases e2
      obtain rfl:=q4
      have hc4:=hc3.ext k2
      refine Zv (xixs l1_i1 l5_i1 Tryz.underlying28 ti2 i4 i5)<|Zv (xld rfl ti2 (hc4.at 0 rfl))<|Zv (xlss rfl rfl)<|Zm<|?_
      refine Or.elim (Bool.eq_false_or_eq_true (decide (x6<0))) (fun h6=>?_) (fun h6=>?_)
      ·
       have hB3:=ifp hB3 h6
       refine gfk rfl rfl rfl rfl rfl (btf h6) rfl<|gfk rfl rfl rfl rfl rfl (btf h6) rfl<|gfk rfl rfl rfl rfl rfl (btf h6) rfl<|gfk rfl rfl rfl rfl rfl (btf h6) rfl<|gfk rfl rfl rfl rfl rfl (btf h6) rfl<|Zv (xpt rfl h6 rfl)<|nl<|?_
       cases hB3
       refine lf<|?_
       exact ⟨rfl,l1_i1,l5_i1,(Ext.refl _)⟩
      ·
       have hB3:=ifn hB3 h6
       refine gtk rfl rfl rfl rfl rfl (bf h6)<|Zm<|gtk rfl rfl rfl rfl rfl (bf h6)<|Zm<|?_
       have hz:=bs hB3; obtain ⟨x7,Ex7,hB3⟩:=hz
       have hz:=ix2 r1 Ex7; obtain ⟨cs5,i6,i7,q5,hc5⟩:=hz
       obtain rfl:=q5
       have hc6:=hc5.ext k2
       refine gtk rfl rfl rfl rfl rfl (bf h6)<|Zv (xixs l1_i1 l5_i1 Tryz.underlying28 ti2 i6 i7)<|gtk rfl rfl rfl rfl rfl (bf h6)<|Zv (xld rfl ti2 (hc6.at 0 rfl))<|gtk rfl rfl rfl rfl rfl (bf h6)<|Zv (xgtr rfl rfl)<|Zv (xpf rfl h6 rfl)<|nl<|?_
       cases hB3
       refine lf<|?_
       exact ⟨rfl,l1_i1,l5_i1,(Ext.refl _)⟩
     rintro L w4 ⟨l32_j1,l1_j1,l5_j1,K0_j1⟩
     have k3:=k2.tr K0_j1
     have k4:=K0_i1.tr K0_j1
     refine cnd l32_j1 (fun h7=>?_) (fun h7=>?_)
     ·
      have hB1:=ifp hB1 h7
      refine Zr<|Za<|nl<|?_
      cases hB1
      have hF:=(show some _=some _ from hF); cases hF
      exact wp_ret<|rt rfl (.tmp rfl rfl .nil) ⟨rfl,k3⟩
     ·
      have hB1:=ifn hB1 h7
      refine wp_skip<|rg<|Zm<|Zv (xadd l5_j1 rfl)<|Za<|nl<|?_
      refine lq m (Nat.lt_succ_self _)<|?_
      exact ⟨_,hB1,rfl,l1_j1,k4⟩
    ·
     have hB1:=ifn hB1 h5
     refine wp_exit<|?_
     cases hB1
     refine lf<|?_
     exact ⟨rfl,l1_i1,K0_i1⟩
   rintro L w5 ⟨rfl,l1_j2,K0_j2⟩
   have k5:=hx1.tr K0_j2
   refine wp_seq<|Zr<|Za<|nl<|?_
   have hz:=bs hF; obtain ⟨o2,hB7,hF⟩:=hz
   refine ct (fun L w=>o2=.inr ()∧Ext w5 w) ?_ ?_
   ·
    refine wp_block<|lp (I:=fun m L w=>∃ y3:Int,ref03_IsScale_l2 F x1 m y3 =some o2∧L 6=.int .i64 y3∧L 1=.slice a2 x1.length cq2∧Ext w5 w) F ⟨_,hB7,rfl,l1_j2,(Ext.refl _)⟩ ?_
    rintro m L w6 ⟨y3,hB7,l6_i8,l1_i8,K0_i8⟩
    rcases m with _ | m
    ·rw [ref03_IsScale_l2] at hB7; cases hB7
    rw [ref03_IsScale_l2] at hB7
    have k6:=k5.tr K0_i8
    refine wp_seq<|Zr<|Zm<|Zm<|Zv (xlen l1_i8 Tryz.underlying28)<|Zv (xlss l6_i8 rfl)<|nl<|cnd rfl (fun h8=>?_) (fun h8=>?_)
    ·
     have hB7:=ifp hB7 h8
     refine wp_skip<|wp_seq<|wp_block<|wp_seq<|wpl [] (.pure true 0 (.pure true 1 (.pure true 2 (.pure false 3 (.pure true 4 (.pure true 5 (.pure true 6 (.pure true 7 (.pure false 8 (.pure true 9 .fin)))))))))) mixed (by kernel_rfl) (fun w7 hx3=>?_)
     have k8:=k6.tr hx3
     have k10:=K0_i8.tr hx3
     refine Zn rfl<|Zn rfl<|?_
     have hz:=bs hB7; obtain ⟨x8,Ex8,hB7⟩:=hz
     have hz:=(RV.els r1).ix Ex8; obtain ⟨b5,f3,cs6,e3,i9,i10,q6,hc7⟩:=hz
     cases e3
     obtain rfl:=q6
     have hc8:=hc7.ext k8
     refine Zp rfl (fun _=>xixs l1_i8 l6_i8 Tryz.underlying28 ti2 i9 i10)<|Zq rfl (fun _ hS=>xld rfl ti2 ((hc8.ext (hS.resolve_left nofun)).at 0 rfl)) (Ext.refl _)<|Zn rfl<|Zn rfl<|Zp rfl (fun _=>xsub l6_i8 rfl)<|?_
     have hz:=bs hB7; obtain ⟨x9,Ex9,hB7⟩:=hz
     have hz:=ix2 r1 Ex9; obtain ⟨cs7,i11,i12,q7,hc9⟩:=hz
     obtain rfl:=q7
     have hc10:=hc9.ext k8
     refine Zp rfl (fun _=>xixs l1_i8 rfl Tryz.underlying28 ti2 i11 i12)<|Zq rfl (fun _ hS=>xld rfl ti2 ((hc10.ext (hS.resolve_left nofun)).at 0 rfl)) (Ext.refl _)<|Zp rfl (fun _=>xleq rfl rfl)<|cnd rfl (fun h9=>?_) (fun h9=>?_)
     ·
      have hB7:=ifp hB7 h9
      refine Zr<|Za<|nl<|?_
      cases hB7
      have hF:=(show some _=some _ from hF); cases hF
      exact wp_ret<|rt rfl (.tmp rfl rfl .nil) ⟨rfl,k8⟩
     ·
      have hB7:=ifn hB7 h9
      refine wp_skip<|rg<|Zm<|Zv (xadd l6_i8 rfl)<|Za<|nl<|?_
      refine lq m (Nat.lt_succ_self _)<|?_
      exact ⟨_,hB7,rfl,l1_i8,k10⟩
    ·
     have hB7:=ifn hB7 h8
     refine wp_exit<|?_
     cases hB7
     refine lf<|?_
     exact ⟨rfl,K0_i8⟩
   rintro L w8 ⟨rfl,K0_j3⟩
   have k11:=k5.tr K0_j3
   refine Zr<|Za<|nl<|?_
   cases hF
   exact wp_ret<|rt rfl (.tmp rfl rfl .nil) ⟨rfl,k11⟩
theorem c23 {w0:World} {v0:Value} {x0:(List (Int×Int))} (r0:RV w0 v0 x0) {v1:Value} {x1:(List Int)} (r1:RV w0 v1 x1) {F:Nat} {r:Int} (hF:ref03_CheckScale F x0 x1=some r) :
  Calls Tryz.prog 23 [v0,v1].toArray w0 (Ret fun v w'=>v=.int .i64 r∧Ext w0 w'):=by
 unfold ref03_CheckScale at hF
 have hz:=r0.sl; obtain ⟨a1,cq1,rfl,-,-,-⟩:=hz
 have hz:=r1.sl; obtain ⟨a2,cq2,rfl,-,-,-⟩:=hz
 refine entr (n:=26) Tryz.func23 rfl rfl rfl<|Zr<|Za<|nl<|wp_seq<|Zr<|Zm<|Zm<|?_
 have hz:=bs hF; obtain ⟨x3,Ex3,hF⟩:=hz
 refine Zc (xc cb101 (mc rfl (mc rfl mn))) (c101 r0 r1 Ex3) ?_
 rintro _ w1 ⟨rfl,hx1⟩
 have r3:=r0.ext hx1
 have r4:=r1.ext hx1
 refine Zv (xneq rfl rfl)<|nl<|cnd rfl (fun h3=>?_) (fun h3=>?_)
 ·
  have hF:=ifp hF h3
  refine Zr<|Zm<|Zm<|?_
  have hz:=bs hF; obtain ⟨x4,Ex4,hF⟩:=hz
  refine Zc (xc cb101 (mc rfl (mc rfl mn))) (c101 r3 r4 Ex4) ?_
  rintro _ w2 ⟨rfl,hx2⟩
  have k1:=hx1.tr hx2
  refine Za<|nl<|?_
  cases hF
  exact wp_ret<|rt rfl (.tmp rfl rfl .nil) ⟨rfl,k1⟩
 ·
  have hF:=ifn hF h3
  refine wp_skip<|wp_seq<|Zr<|Za<|nl<|?_
  have hz:=bs hF; obtain ⟨o1,hB1,hF⟩:=hz
  refine ct (fun L w=>o1=.inr ()∧Ext w1 w) ?_ ?_
  ·
   refine wp_block<|lp (I:=fun m L w=>∃ y1:Int,ref03_CheckScale_l1 F x0 x1 m y1 =some o1∧L 5=.int .i64 y1∧L 0=.slice a1 x0.length cq1∧L 1=.slice a2 x1.length cq2∧Ext w1 w) F ⟨_,hB1,rfl,rfl,rfl,(Ext.refl _)⟩ ?_
   rintro m L w3 ⟨y1,hB1,l5_i1,l0_i1,l1_i1,K0_i1⟩
   rcases m with _ | m
   ·rw [ref03_CheckScale_l1] at hB1; cases hB1
   rw [ref03_CheckScale_l1] at hB1
   have k2:=hx1.tr K0_i1
   have r6:=r4.ext K0_i1
   refine wp_seq<|Zr<|Zm<|Zm<|Zv (xlen l0_i1 Tryz.underlying32)<|Zv (xlss l5_i1 rfl)<|nl<|cnd rfl (fun h4=>?_) (fun h4=>?_)
   ·
    have hB1:=ifp hB1 h4
    refine wp_skip<|wp_seq<|wp_block<|Zr<|Zm<|Zm<|?_
    have hz:=bs hB1; obtain ⟨x5,Ex5,hB1⟩:=hz
    have hz:=(RV.els r0).ix Ex5; obtain ⟨b3,f1,cs3,e1,i2,i3,q3,hc1⟩:=hz
    cases e1
    obtain ⟨_,_,rfl,rfl,rfl⟩:=q3
    have hc2:=hc1.ext k2
    refine Zv (xixs l0_i1 l5_i1 Tryz.underlying32 ti35 i2 i3)<|Zv (xlda rfl ti35 rfl hc2)<|Zm<|?_
    have hz:=bs hB1; obtain ⟨x6,Ex6,hB1⟩:=hz
    refine Zc (xc cb67 (mc rfl (mc l1_i1 mn))) (c67 (show RV (α:=(Int×Int)) _ (.agg [.int .i64 x5.1,.int .i64 x5.2].toArray) (x5.1,x5.2) from ⟨_,rfl,⟨[.int .i64 x5.1],[.int .i64 x5.2],rfl,rfl,rfl⟩⟩) r6 Ex6) ?_
    rintro _ w4 ⟨rfl,hx3⟩
    have k3:=k2.tr hx3
    have k4:=K0_i1.tr hx3
    refine Zv (xnot rfl)<|nl<|cnd rfl (fun h5=>?_) (fun h5=>?_)
    ·
     have hB1:=ifp hB1 h5
     refine Zr<|Za<|nl<|?_
     cases hB1
     have hF:=(show some _=some _ from hF); cases hF
     exact wp_ret<|rt rfl (.tmp rfl rfl .nil) ⟨rfl,k3⟩
    ·
     have hB1:=ifn hB1 h5
     refine wp_skip<|rg<|Zm<|Zv (xadd l5_i1 rfl)<|Za<|nl<|?_
     refine lq m (Nat.lt_succ_self _)<|?_
     exact ⟨_,hB1,rfl,l0_i1,l1_i1,k4⟩
   ·
    have hB1:=ifn hB1 h4
    refine wp_exit<|?_
    cases hB1
    refine lf<|?_
    exact ⟨rfl,K0_i1⟩
  rintro L w5 ⟨rfl,K0_j1⟩
  have k5:=hx1.tr K0_j1
  refine Zr<|Za<|nl<|?_
  cases hF
  exact wp_ret<|rt rfl (.tmp rfl rfl .nil) ⟨rfl,k5⟩
theorem c66 {w0:World} {v0:Value} {x0:(List (Int×Int))} (r0:RV w0 v0 x0) {v1:Value} {x1:(List Int)} (r1:RV w0 v1 x1) {F:Nat} {r:Int} (hF:ref03_CheckApart F x0 x1=some r) :
  Calls Tryz.prog 66 [v0,v1].toArray w0 (Ret fun v w'=>v=.int .i64 r∧Ext w0 w'):=by
 unfold ref03_CheckApart at hF
 have hz:=r0.sl; obtain ⟨a1,cq1,rfl,-,-,-⟩:=hz
 have hz:=r1.sl; obtain ⟨a2,cq2,rfl,-,-,-⟩:=hz
 refine entr (n:=87) Tryz.func66 rfl rfl rfl<|Zr<|Za<|nl<|wp_seq<|Zr<|Zm<|?_
 have hz:=bs hF; obtain ⟨x3,Ex3,hF⟩:=hz
 refine Zc (xc cb65 (mc rfl mn)) (c65 r0 Ex3) ?_
 rintro _ w1 ⟨rfl,hx1⟩
 have r3:=r0.ext hx1
 refine Zv (xneq rfl rfl)<|nl<|cnd rfl (fun h3=>?_) (fun h3=>?_)
 ·
  have hF:=ifp hF h3
  refine Zr<|Zm<|?_
  have hz:=bs hF; obtain ⟨x4,Ex4,hF⟩:=hz
  refine Zc (xc cb65 (mc rfl mn)) (c65 r3 Ex4) ?_
  rintro _ w2 ⟨rfl,hx2⟩
  have k1:=hx1.tr hx2
  refine Za<|nl<|?_
  cases hF
  exact wp_ret<|rt rfl (.tmp rfl rfl .nil) ⟨rfl,k1⟩
 ·
  have hF:=ifn hF h3
  refine wp_skip<|wp_seq<|Zr<|Za<|nl<|?_
  have hz:=bs hF; obtain ⟨o1,hB1,hF⟩:=hz
  refine ct (fun L w=>o1=.inr ()∧L 0=.slice a1 x0.length cq1∧L 1=.slice a2 x1.length cq2∧Ext w1 w) ?_ ?_
  ·
   refine wp_block<|lp (I:=fun m L w=>∃ y1:Int,ref03_CheckApart_l1 F x0 x1 m y1 =some o1∧L 5=.int .i64 y1∧L 0=.slice a1 x0.length cq1∧L 1=.slice a2 x1.length cq2∧Ext w1 w) F ⟨_,hB1,rfl,rfl,rfl,(Ext.refl _)⟩ ?_
   rintro m L w3 ⟨y1,hB1,l5_i1,l0_i1,l1_i1,K0_i1⟩
   rcases m with _ | m
   ·rw [ref03_CheckApart_l1] at hB1; cases hB1
   rw [ref03_CheckApart_l1] at hB1
   have k2:=hx1.tr K0_i1
   refine wp_seq<|Zr<|Zm<|Zm<|Zv (xlen l1_i1 Tryz.underlying41)<|Zv (xlss l5_i1 rfl)<|nl<|cnd rfl (fun h4=>?_) (fun h4=>?_)
   ·
    have hB1:=ifp hB1 h4
    refine wp_skip<|wp_seq<|wp_block<|wp_seq<|?_
    have hz:=bs hB1; obtain ⟨y2,hB3,hB1⟩:=hz
    refine ct (fun L w=>L 50=.bool y2∧L 0=.slice a1 x0.length cq1∧L 1=.slice a2 x1.length cq2∧L 5=.int .i64 y1∧Ext w3 w) ?_ ?_
    ·
     refine wpl [] (.pure true 0 (.pure true 1 (.pure true 2 (.pure false 3 (.pure true 4 (.pure true 5 (.pure true 6 (.pure true 7 (.pure true 8 (.pure false 9 (.pure true 10 (.pure false 11 (.pure true 12 (.pure true 13 (.pure true 14 (.pure true 15 (.pure true 16 (.pure true 17 (.pure true 18 (.pure true 19 (.pure true 20 (.pure false 21 (.pure true 22 (.pure true 23 (.pure true 24 (.pure true 25 (.pure false 26 (.pure true 27 (.pure true 28 (.pure true 29 .fin)))))))))))))))))))))))))))))) mixed (by kernel_rfl) (fun w5 hx4=>?_)
     have k5:=k2.tr hx4
     refine Zn rfl<|Zn rfl<|?_
     have hz:=bs hB3; obtain ⟨x6,Ex6,hB3⟩:=hz
     have hz:=(RV.els r1).ix Ex6; obtain ⟨b4,f2,cs4,e2,i4,i5,q4,hc3⟩:=hz
     cases e2
     obtain rfl:=q4
     have hc4:=hc3.ext k5
     refine Zp rfl (fun _=>xixs l1_i1 l5_i1 Tryz.underlying41 ti3 i4 i5)<|Zq rfl (fun _ hS=>xld rfl ti3 ((hc4.ext (hS.resolve_left nofun)).at 0 rfl)) (Ext.refl _)<|Zp rfl (fun _=>xlss rfl rfl)<|Zn rfl<|?_
     refine Or.elim (Bool.eq_false_or_eq_true (decide (x6<0))) (fun h5=>?_) (fun h5=>?_)
     ·
      have hB3:=ifp hB3 h5
      refine Zf rfl rfl rfl rfl (btf h5)<|Zf rfl rfl rfl rfl (btf h5)<|Zf rfl rfl rfl rfl (btf h5)<|pvf rfl rfl rfl rfl rfl rfl (btf h5) rfl (.inr (Ext.refl _))<|Zf rfl rfl rfl rfl (btf h5)<|pvf rfl rfl rfl rfl rfl rfl (btf h5) rfl (.inr (Ext.refl _))<|Zf rfl rfl rfl rfl (btf h5)<|Zp rfl (fun _=>xpt rfl h5 rfl)<|Zn rfl<|?_
      refine Or.elim (Bool.eq_false_or_eq_true true) (fun h6=>?_) (fun h6=>?_)
      ·
       have hB3:=ifp hB3 h6
       refine Zf rfl rfl rfl rfl (btf h6)<|Zf rfl rfl rfl rfl (btf h6)<|Zf rfl rfl rfl rfl (btf h6)<|Zf rfl rfl rfl rfl bu<|Zf rfl rfl rfl rfl bu<|Zf rfl rfl rfl rfl bu<|pvf rfl rfl rfl rfl rfl rfl bu rfl (.inr (Ext.refl _))<|Zf rfl rfl rfl rfl bu<|Zf rfl rfl rfl rfl bu<|Zf rfl rfl rfl rfl bu<|Zf rfl rfl rfl rfl bu<|pvf rfl rfl rfl rfl rfl rfl bu rfl (.inr (Ext.refl _))<|Zf rfl rfl rfl rfl bu<|Zf rfl rfl rfl rfl (btf h6)<|Zp rfl (fun _=>xpt rfl h6 rfl)<|?_
       cases hB3
       refine lf<|?_
       exact ⟨rfl,l0_i1,l1_i1,l5_i1,hx4⟩
      ·
       have hB3:=ifn hB3 h6
       refine Zt rfl rfl rfl rfl (bf h6) (fun _=>xmv)<|Zt rfl rfl rfl rfl (bf h6) (fun _=>xgtr l5_i1 rfl)<|Zt rfl rfl rfl rfl (bf h6) (fun _=>xmv)<|?_
       refine Or.elim (Bool.eq_false_or_eq_true (decide (0<y1))) (fun h7=>?_) (fun h7=>?_)
       ·
        have hB3:=ifp hB3 h7
        refine Zt rfl rfl rfl rfl (bt h7) (fun _=>xmv)<|Zt rfl rfl rfl rfl (bt h7) (fun _=>xmv)<|?_
        have hz:=bs hB3; obtain ⟨x7,Ex7,hB3⟩:=hz
        have hz:=ix2 r1 Ex7; obtain ⟨cs5,i6,i7,q5,hc5⟩:=hz
        obtain rfl:=q5
        have hc6:=hc5.ext k5
        refine Zt rfl rfl rfl rfl (bt h7) (fun _=>xixs l1_i1 l5_i1 Tryz.underlying41 ti3 i6 i7)<|pvt rfl rfl rfl rfl rfl rfl (bt h7) rfl (fun _ hS=>xld rfl ti3 ((hc6.ext (hS.resolve_left nofun)).at 0 rfl)) (.inr (Ext.refl _))<|Zt rfl rfl rfl rfl (bt h7) (fun _=>xmv)<|Zt rfl rfl rfl rfl (bt h7) (fun _=>xmv)<|Zt rfl rfl rfl rfl (bt h7) (fun _=>xsub l5_i1 rfl)<|?_
        have hz:=bs hB3; obtain ⟨x8,Ex8,hB3⟩:=hz
        have hz:=ix2 r1 Ex8; obtain ⟨cs6,i8,i9,q6,hc7⟩:=hz
        obtain rfl:=q6
        have hc8:=hc7.ext k5
        refine Zt rfl rfl rfl rfl (bt h7) (fun _=>xixs l1_i1 rfl Tryz.underlying41 ti3 i8 i9)<|pvt rfl rfl rfl rfl rfl rfl (bt h7) rfl (fun _ hS=>xld rfl ti3 ((hc8.ext (hS.resolve_left nofun)).at 0 rfl)) (.inr (Ext.refl _))<|Zt rfl rfl rfl rfl (bt h7) (fun _=>xleq rfl rfl)<|Zt rfl rfl rfl rfl (bf h6) (fun _=>xpt rfl h7 rfl)<|Zp rfl (fun _=>xpf rfl h6 rfl)<|?_
        cases hB3
        refine lf<|?_
        exact ⟨rfl,l0_i1,l1_i1,l5_i1,hx4⟩
       ·
        have hB3:=ifn hB3 h7
        refine Zf rfl rfl rfl rfl (bft h7)<|Zf rfl rfl rfl rfl (bft h7)<|Zf rfl rfl rfl rfl (bft h7)<|pvf rfl rfl rfl rfl rfl rfl (bft h7) rfl (.inr (Ext.refl _))<|Zf rfl rfl rfl rfl (bft h7)<|Zf rfl rfl rfl rfl (bft h7)<|Zf rfl rfl rfl rfl (bft h7)<|Zf rfl rfl rfl rfl (bft h7)<|pvf rfl rfl rfl rfl rfl rfl (bft h7) rfl (.inr (Ext.refl _))<|Zf rfl rfl rfl rfl (bft h7)<|Zt rfl rfl rfl rfl (bf h6) (fun _=>xpf rfl h7 rfl)<|Zp rfl (fun _=>xpf rfl h6 rfl)<|?_
        cases hB3
        refine lf<|?_
        exact ⟨rfl,l0_i1,l1_i1,l5_i1,hx4⟩
     ·
      have hB3:=ifn hB3 h5
      refine Zt rfl rfl rfl rfl (bf h5) (fun _=>xmv)<|Zt rfl rfl rfl rfl (bf h5) (fun _=>xmv)<|?_
      have hz:=bs hB3; obtain ⟨x9,Ex9,hB3⟩:=hz
      have hz:=ix2 r1 Ex9; obtain ⟨cs7,i10,i11,q7,hc9⟩:=hz
      obtain rfl:=q7
      have hc10:=hc9.ext k5
      refine Zt rfl rfl rfl rfl (bf h5) (fun _=>xixs l1_i1 l5_i1 Tryz.underlying41 ti3 i10 i11)<|pvt rfl rfl rfl rfl rfl rfl (bf h5) rfl (fun _ hS=>xld rfl ti3 ((hc10.ext (hS.resolve_left nofun)).at 0 rfl)) (.inr (Ext.refl _))<|Zt rfl rfl rfl rfl (bf h5) (fun _=>xmv)<|pvt rfl rfl rfl rfl rfl rfl (bf h5) rfl (fun _ hS=>xlen l0_i1 Tryz.underlying32) (.inr (Ext.refl _))<|Zt rfl rfl rfl rfl (bf h5) (fun _=>xgeq rfl rfl)<|Zp rfl (fun _=>xpf rfl h5 rfl)<|Zn rfl<|?_
      refine Or.elim (Bool.eq_false_or_eq_true (decide ((x0.length:Int)≤x9))) (fun h8=>?_) (fun h8=>?_)
      ·
       have hB3:=ifp hB3 h8
       refine Zf rfl rfl rfl rfl (btf h8)<|Zf rfl rfl rfl rfl (btf h8)<|Zf rfl rfl rfl rfl (btf h8)<|Zf rfl rfl rfl rfl bu<|Zf rfl rfl rfl rfl bu<|Zf rfl rfl rfl rfl bu<|pvf rfl rfl rfl rfl rfl rfl bu rfl (.inr (Ext.refl _))<|Zf rfl rfl rfl rfl bu<|Zf rfl rfl rfl rfl bu<|Zf rfl rfl rfl rfl bu<|Zf rfl rfl rfl rfl bu<|pvf rfl rfl rfl rfl rfl rfl bu rfl (.inr (Ext.refl _))<|Zf rfl rfl rfl rfl bu<|Zf rfl rfl rfl rfl (btf h8)<|Zp rfl (fun _=>xpt rfl h8 rfl)<|?_
       cases hB3
       refine lf<|?_
       exact ⟨rfl,l0_i1,l1_i1,l5_i1,hx4⟩
      ·
       have hB3:=ifn hB3 h8
       refine Zt rfl rfl rfl rfl (bf h8) (fun _=>xmv)<|Zt rfl rfl rfl rfl (bf h8) (fun _=>xgtr l5_i1 rfl)<|Zt rfl rfl rfl rfl (bf h8) (fun _=>xmv)<|?_
       refine Or.elim (Bool.eq_false_or_eq_true (decide (0<y1))) (fun h9=>?_) (fun h9=>?_)
       ·
        have hB3:=ifp hB3 h9
        refine Zt rfl rfl rfl rfl (bt h9) (fun _=>xmv)<|Zt rfl rfl rfl rfl (bt h9) (fun _=>xmv)<|?_
        have hz:=bs hB3; obtain ⟨x10,Ex10,hB3⟩:=hz
        have hz:=ix2 r1 Ex10; obtain ⟨cs8,i12,i13,q8,hc11⟩:=hz
        obtain rfl:=q8
        have hc12:=hc11.ext k5
        refine Zt rfl rfl rfl rfl (bt h9) (fun _=>xixs l1_i1 l5_i1 Tryz.underlying41 ti3 i12 i13)<|pvt rfl rfl rfl rfl rfl rfl (bt h9) rfl (fun _ hS=>xld rfl ti3 ((hc12.ext (hS.resolve_left nofun)).at 0 rfl)) (.inr (Ext.refl _))<|Zt rfl rfl rfl rfl (bt h9) (fun _=>xmv)<|Zt rfl rfl rfl rfl (bt h9) (fun _=>xmv)<|Zt rfl rfl rfl rfl (bt h9) (fun _=>xsub l5_i1 rfl)<|?_
        have hz:=bs hB3; obtain ⟨x11,Ex11,hB3⟩:=hz
        have hz:=ix2 r1 Ex11; obtain ⟨cs9,i14,i15,q9,hc13⟩:=hz
        obtain rfl:=q9
        have hc14:=hc13.ext k5
        refine Zt rfl rfl rfl rfl (bt h9) (fun _=>xixs l1_i1 rfl Tryz.underlying41 ti3 i14 i15)<|pvt rfl rfl rfl rfl rfl rfl (bt h9) rfl (fun _ hS=>xld rfl ti3 ((hc14.ext (hS.resolve_left nofun)).at 0 rfl)) (.inr (Ext.refl _))<|Zt rfl rfl rfl rfl (bt h9) (fun _=>xleq rfl rfl)<|Zt rfl rfl rfl rfl (bf h8) (fun _=>xpt rfl h9 rfl)<|Zp rfl (fun _=>xpf rfl h8 rfl)<|?_
        cases hB3
        refine lf<|?_
        exact ⟨rfl,l0_i1,l1_i1,l5_i1,hx4⟩
       ·
        have hB3:=ifn hB3 h9
        refine Zf rfl rfl rfl rfl (bft h9)<|Zf rfl rfl rfl rfl (bft h9)<|Zf rfl rfl rfl rfl (bft h9)<|pvf rfl rfl rfl rfl rfl rfl (bft h9) rfl (.inr (Ext.refl _))<|Zf rfl rfl rfl rfl (bft h9)<|Zf rfl rfl rfl rfl (bft h9)<|Zf rfl rfl rfl rfl (bft h9)<|Zf rfl rfl rfl rfl (bft h9)<|pvf rfl rfl rfl rfl rfl rfl (bft h9) rfl (.inr (Ext.refl _))<|Zf rfl rfl rfl rfl (bft h9)<|Zt rfl rfl rfl rfl (bf h8) (fun _=>xpf rfl h9 rfl)<|Zp rfl (fun _=>xpf rfl h8 rfl)<|?_
        cases hB3
        refine lf<|?_
        exact ⟨rfl,l0_i1,l1_i1,l5_i1,hx4⟩
    rintro L w6 ⟨l50_j1,l0_j1,l1_j1,l5_j1,K0_j1⟩
    have k7:=k2.tr K0_j1
    have k8:=K0_i1.tr K0_j1
    refine cnd l50_j1 (fun h10=>?_) (fun h10=>?_)
    ·
     have hB1:=ifp hB1 h10
     refine Zr<|Za<|nl<|?_
     cases hB1
     have hF:=(show some _=some _ from hF); cases hF
     exact wp_ret<|rt rfl (.tmp rfl rfl .nil) ⟨rfl,k7⟩
    ·
     have hB1:=ifn hB1 h10
     refine wp_skip<|rg<|Zm<|Zv (xadd l5_j1 rfl)<|Za<|nl<|?_
     refine lq m (Nat.lt_succ_self _)<|?_
     exact ⟨_,hB1,rfl,l0_j1,l1_j1,k8⟩
   ·
    have hB1:=ifn hB1 h4
    refine wp_exit<|?_
    cases hB1
    refine lf<|?_
    exact ⟨rfl,l0_i1,l1_i1,K0_i1⟩
  rintro L w7 ⟨rfl,l0_j2,l1_j2,K0_j2⟩
  have k9:=hx1.tr K0_j2
  refine wp_seq<|Zr<|Za<|nl<|?_
  have hz:=bs hF; obtain ⟨o2,hB7,hF⟩:=hz
  refine ct (fun L w=>o2=.inr ()∧Ext w7 w) ?_ ?_
  ·
   refine wp_block<|lp (I:=fun m L w=>∃ y3:Int,ref03_CheckApart_l2 F x0 x1 m y3 =some o2∧L 6=.int .i64 y3∧L 0=.slice a1 x0.length cq1∧L 1=.slice a2 x1.length cq2∧Ext w7 w) F ⟨_,hB7,rfl,l0_j2,l1_j2,(Ext.refl _)⟩ ?_
   rintro m L w8 ⟨y3,hB7,l6_i16,l0_i16,l1_i16,K0_i16⟩
   rcases m with _ | m
   ·rw [ref03_CheckApart_l2] at hB7; cases hB7
   rw [ref03_CheckApart_l2] at hB7
   have k10:=k9.tr K0_i16
   refine wp_seq<|Zr<|Zm<|Zm<|Zv (xlen l1_i16 Tryz.underlying41)<|Zv (xlss l6_i16 rfl)<|nl<|cnd rfl (fun h11=>?_) (fun h11=>?_)
   ·
    have hB7:=ifp hB7 h11
    refine wp_skip<|wp_seq<|wp_block<|Zr<|Za<|nl<|?_
    have hz:=bs hB7; obtain ⟨o3,hB9,hB7⟩:=hz
    refine ct (fun L w=>o3=.inr ()∧L 0=.slice a1 x0.length cq1∧L 1=.slice a2 x1.length cq2∧L 6=.int .i64 y3∧Ext w8 w) ?_ ?_
    ·
     refine wp_block<|lp (I:=fun m L w=>∃ y4:Int,ref03_CheckApart_l3 F x0 x1 y3 m y4 =some o3∧L 7=.int .i64 y4∧L 0=.slice a1 x0.length cq1∧L 1=.slice a2 x1.length cq2∧L 6=.int .i64 y3∧Ext w8 w) F ⟨_,hB9,rfl,l0_i16,l1_i16,l6_i16,(Ext.refl _)⟩ ?_
     rintro m L w9 ⟨y4,hB9,l7_i17,l0_i17,l1_i17,l6_i17,K0_i17⟩
     rcases m with _ | m
     ·rw [ref03_CheckApart_l3] at hB9; cases hB9
     rw [ref03_CheckApart_l3] at hB9
     have k12:=k10.tr K0_i17
     refine wp_seq<|Zr<|Zm<|Zm<|Zv (xlss l7_i17 l6_i17)<|nl<|cnd rfl (fun h12=>?_) (fun h12=>?_)
     ·
      have hB9:=ifp hB9 h12
      refine wp_skip<|wp_seq<|wp_block<|wp_seq<|?_
      have hz:=bs hB9; obtain ⟨⟨y5,y6⟩,hB11,hB9⟩:=hz
      refine ct (fun L w=>∃ v3 v4:Value,L 8=v3∧PB 35 w9.heap.size w v3 y5∧L 9=v4∧PB 35 w9.heap.size w v4 y6∧v3≠v4∧L 0=.slice a1 x0.length cq1∧L 1=.slice a2 x1.length cq2∧L 6=.int .i64 y3∧L 7=.int .i64 y4∧Ext w9 w) ?_ ?_
      ·
       have hz:=bs hB11; obtain ⟨x12,Ex12,hB11⟩:=hz
       have hz:=bs hB11; obtain ⟨x13,Ex13,hB11⟩:=hz
       have hz:=bs hB11; obtain ⟨x14,Ex14,hB11⟩:=hz
       have hz:=bs hB11; obtain ⟨x15,Ex15,hB11⟩:=hz
       refine wpl [] (.pure true 0 (.pure true 1 (.pure true 2 (.pure true 3 (.pure false 4 (.pure true 5 (.pure false 6 (.pure true 7 (.pure true 8 (.pure true 9 (.pure true 10 (.pure false 11 (.pure true 12 (.pure false 13 (.eff 14 (.eff 15 (.eff 16 (.eff 17 .fin .stop) .stop) .stop) (.eff 15 (.eff 14 (.eff 16 (.eff 17 .fin .stop) .stop) .stop) .stop)))))))))))))))) mixed (by kernel_rfl) (fun w15 hx8=>?_)
       have k42:=k12.tr hx8
       refine Zn rfl<|Zn rfl<|Zn rfl<|?_
       have hz:=(RV.els r1).ix Ex12; obtain ⟨b9,f5,cs14,e5,i26,i27,q14,hc23⟩:=hz
       cases e5
       obtain rfl:=q14
       have hc24:=hc23.ext k42
       refine Zp rfl (fun _=>xixs l1_i17 l6_i17 Tryz.underlying41 ti3 i26 i27)<|Zq rfl (fun _ hS=>xld rfl ti3 ((hc24.ext (hS.resolve_left nofun)).at 0 rfl)) (Ext.refl _)<|?_
       have hz:=(RV.els r0).ix Ex13; obtain ⟨b10,f6,cs15,e6,i28,i29,q15,hc25⟩:=hz
       cases e6
       obtain ⟨_,_,rfl,rfl,rfl⟩:=q15
       have hc26:=hc25.ext k42
       refine Zp rfl (fun _=>xixs l0_i17 rfl Tryz.underlying32 ti35 i28 i29)<|Zq rfl (fun _ hS=>xlda rfl ti35 rfl (hc26.ext (hS.resolve_left nofun))) (Ext.refl _)<|Zn rfl<|Zn rfl<|Zn rfl<|?_
       have hz:=ix2 r1 Ex14; obtain ⟨cs16,i30,i31,q16,hc27⟩:=hz
       obtain rfl:=q16
       have hc28:=hc27.ext k42
       refine Zp rfl (fun _=>xixs l1_i17 l7_i17 Tryz.underlying41 ti3 i30 i31)<|Zq rfl (fun _ hS=>xld rfl ti3 ((hc28.ext (hS.resolve_left nofun)).at 0 rfl)) (Ext.refl _)<|?_
       have hz:=ix2 r0 Ex15; obtain ⟨cs17,i32,i33,q17,hc29⟩:=hz
       obtain ⟨_,_,rfl,rfl,rfl⟩:=q17
       have hc30:=hc29.ext k42
       refine Zp rfl (fun _=>xixs l0_i17 rfl Tryz.underlying32 ti35 i32 i33)<|Zq rfl (fun _ hS=>xlda rfl ti35 rfl (hc30.ext (hS.resolve_left nofun))) (Ext.refl _)<|?_
       refine pe rfl ?_ ?_
       ·
        refine sal ti35 fun b11 w16 hx9 hg3 hb10=>?_
        have k50:=hx8.tr hx9
        refine nl ⟨fun _ _=>hx9,?_⟩
        refine pe1 rfl<|sal ti35 fun b12 w17 hx10 hg4 hb11=>?_
        have k55:=k50.tr hx10
        have k56:=hx9.tr hx10
        have hb12:=hb10.ext hx10
        refine nl ⟨fun _ _=>k56,?_⟩
        refine pe1 rfl<|sst rfl rfl rfl ti35 hb12 rfl rfl (ble rfl) fun w18 hch3 hb13=>?_
        have k61:=Ext.chg k55 hch3 (Nat.le_trans hx8.size hg3)
        have k62:=Ext.chg k56 hch3 (Nat.le_trans (Nat.le_refl _) hg3)
        have hb14:=Bx.chg hb11 hch3 (Ne.symm (Nat.ne_of_lt (Nat.lt_of_lt_of_le hb10.lt hg4)))
        have hb15:Bx w18 b11 35 [.int .i64 x13.1,.int .i64 x13.2]:=hb13
        refine nl ⟨fun _ _=>k62,?_⟩
        refine pe1 rfl<|sst rfl rfl rfl ti35 hb14 rfl rfl (ble rfl) fun w19 hch4 hb16=>?_
        have k67:=Ext.chg k61 hch4 (Nat.le_trans hx8.size (Nat.le_trans hx9.size hg4))
        have k68:=Ext.chg k62 hch4 (Nat.le_trans (Nat.le_refl _) (Nat.le_trans hx9.size hg4))
        have hb17:=Bx.chg hb15 hch4 (Nat.ne_of_lt (Nat.lt_of_lt_of_le hb10.lt hg4))
        have hb18:Bx w19 b12 35 [.int .i64 x15.1,.int .i64 x15.2]:=hb16
        refine nl ⟨fun _ _=>k68,?_⟩
        cases hB11
        refine lf<|?_
        exact ⟨_,_,rfl,⟨_,_,rfl,(Nat.le_trans hx8.size hg3),hb17,⟨[.int .i64 x13.1],[.int .i64 x13.2],rfl,rfl,rfl⟩⟩,rfl,⟨_,_,rfl,(Nat.le_trans hx8.size (Nat.le_trans hx9.size hg4)),hb18,⟨[.int .i64 x15.1],[.int .i64 x15.2],rfl,rfl,rfl⟩⟩,(ne_ptr (Nat.ne_of_lt (Nat.lt_of_lt_of_le hb10.lt hg4))),l0_i17,l1_i17,l6_i17,l7_i17,k67⟩
       refine pm rfl ?_ ?_
       ·
        refine sal ti35 fun b13 w20 hx11 hg5 hb19=>?_
        have k73:=hx8.tr hx11
        refine nl ⟨fun _ _=>hx11,?_⟩
        refine pe1 rfl<|sal ti35 fun b14 w21 hx12 hg6 hb20=>?_
        have k78:=k73.tr hx12
        have k79:=hx11.tr hx12
        refine nl ⟨fun _ _=>k79,?_⟩
        refine pe1 rfl<|sst rfl rfl rfl ti35 hb20 rfl rfl (ble rfl) fun w22 hch5 hb22=>?_
        have k84:=Ext.chg k78 hch5 (Nat.le_trans k73.size hg6)
        have k85:=Ext.chg k79 hch5 (Nat.le_trans hx11.size hg6)
        have k86:=Ext.chg hx12 hch5 (Nat.le_trans (Nat.le_refl _) hg6)
        have hb23:=hb19.ext k86
        have hb24:Bx w22 b14 35 [.int .i64 x13.1,.int .i64 x13.2]:=hb22
        refine nl ⟨fun _ _=>k85,?_⟩
        refine pe1 rfl<|sst rfl rfl rfl ti35 hb23 rfl rfl (ble rfl) fun w23 hch6 hb25=>?_
        have k91:=Ext.chg k84 hch6 (Nat.le_trans hx8.size hg5)
        have k92:=Ext.chg k85 hch6 (Nat.le_trans (Nat.le_refl _) hg5)
        have hb26:=Bx.chg hb24 hch6 (Ne.symm (Nat.ne_of_lt (Nat.lt_of_lt_of_le hb19.lt hg6)))
        have hb27:Bx w23 b13 35 [.int .i64 x15.1,.int .i64 x15.2]:=hb25
        refine nl ⟨fun _ _=>k92,?_⟩
        cases hB11
        refine lf<|?_
        exact ⟨_,_,rfl,⟨_,_,rfl,(Nat.le_trans hx8.size (Nat.le_trans hx11.size hg6)),hb26,⟨[.int .i64 x13.1],[.int .i64 x13.2],rfl,rfl,rfl⟩⟩,rfl,⟨_,_,rfl,(Nat.le_trans hx8.size hg5),hb27,⟨[.int .i64 x15.1],[.int .i64 x15.2],rfl,rfl,rfl⟩⟩,(ne_ptr (Ne.symm (Nat.ne_of_lt (Nat.lt_of_lt_of_le hb19.lt hg6)))),l0_i17,l1_i17,l6_i17,l7_i17,k91⟩
       trivial
      rintro L w24 ⟨v3,v4,l8_j3,P8_j3,l9_j3,P9_j3,N8_9_j3,l0_j3,l1_j3,l6_j3,l7_j3,K0_j3⟩
      have k93:=k12.tr K0_j3
      have k96:=K0_i17.tr K0_j3
      obtain ⟨b15,cs18,rfl,hg7,hb28,q18⟩:=P8_j3
      obtain ⟨_,_,rfl,rfl,rfl⟩:=q18
      obtain ⟨b16,cs19,rfl,hg8,hb29,q19⟩:=P9_j3
      obtain ⟨_,_,rfl,rfl,rfl⟩:=q19
      refine Zr<|Zv (xfa l8_j3 fa35_0)<|Zv (xld rfl ti2 ((Bx.cs hb28).at 0 rfl))<|Zv (xfa l9_j3 fa35_0)<|Zv (xld rfl ti2 ((Bx.cs hb29).at 0 rfl))<|Zv (xmax rfl rfl)<|Zv (xfa l8_j3 fa35_1)<|Zv (xld rfl ti2 ((Bx.cs hb28).at 1 rfl))<|Zv (xfa l9_j3 fa35_1)<|Zv (xld rfl ti2 ((Bx.cs hb29).at 1 rfl))<|Zv (xmin rfl rfl)<|Zv (xleq rfl rfl)<|nl<|cnd rfl (fun h13=>?_) (fun h13=>?_)
      ·
       have hB9:=ifp hB9 h13
       refine Zr<|Za<|nl<|?_
       cases hB9
       have hB7:=(show some _=some _ from hB7); cases hB7
       have hF:=(show some _=some _ from hF); cases hF
       exact wp_ret<|rt rfl (.tmp rfl rfl .nil) ⟨rfl,k93⟩
      ·
       have hB9:=ifn hB9 h13
       refine wp_skip<|rg<|Zm<|Zv (xadd l7_j3 rfl)<|Za<|nl<|?_
       refine lq m (Nat.lt_succ_self _)<|?_
       exact ⟨_,hB9,rfl,l0_j3,l1_j3,l6_j3,k96⟩
     ·
      have hB9:=ifn hB9 h12
      refine wp_exit<|?_
      cases hB9
      refine lf<|?_
      exact ⟨rfl,l0_i17,l1_i17,l6_i17,K0_i17⟩
    rintro L w25 ⟨rfl,l0_j4,l1_j4,l6_j4,K0_j4⟩
    have k99:=K0_i16.tr K0_j4
    refine rg<|Zm<|Zv (xadd l6_j4 rfl)<|Za<|nl<|?_
    refine lq m (Nat.lt_succ_self _)<|?_
    exact ⟨_,hB7,rfl,l0_j4,l1_j4,k99⟩
   ·
    have hB7:=ifn hB7 h11
    refine wp_exit<|?_
    cases hB7
    refine lf<|?_
    exact ⟨rfl,K0_i16⟩
  rintro L w26 ⟨rfl,K0_j5⟩
  have k100:=k9.tr K0_j5
  refine Zr<|Za<|nl<|?_
  cases hF
  exact wp_ret<|rt rfl (.tmp rfl rfl .nil) ⟨rfl,k100⟩
theorem c209 {w0:World} {x0:Int} {r:(Int×Int)} (hF:scale_one x0=some r) :
  Calls Tryz.prog 209 [.int .i64 x0].toArray w0 (Ret fun v w'=>∃ u0:Value,v=u0∧RV w' u0 r∧Ext w0 w'):=by
 unfold scale_one at hF
 refine entr (n:=6) Tryz.func209 rfl rfl rfl<|Zr<|sal ti35 fun b2 w1 hx1 hg1 hb1=>?_
 refine nl<|Zr<|Zm<|Zm<|Zv (xbdv (r:=[.int .i64 x0,.int .i64 x0]) ti35 sp35 (pc rfl (pc rfl pn)) rfl)<|sst rfl rfl rfl ti35 hb1 rfl rfl (ble rfl) fun w2 hch1 hb2=>?_
 have k1:=Ext.chg hx1 hch1 (Nat.le_trans (Nat.le_refl _) hg1)
 have hb3:Bx w2 b2 35 [.int .i64 x0,.int .i64 x0]:=hb2
 refine nl<|?_
 cases hF
 exact wp_ret<|rt rfl (.cell rfl rfl ti35 rfl (Bx.cs hb3) .nil) ⟨_,rfl,(show RV (α:=(Int×Int)) _ (.agg [.int .i64 x0,.int .i64 x0].toArray) (x0,x0) from ⟨_,rfl,⟨[.int .i64 x0],[.int .i64 x0],rfl,rfl,rfl⟩⟩),k1⟩
theorem c208 {w0:World} {x0:Int} {F:Nat} {r:Bool} (hF:scale_check_1 F x0=some r) :
  Calls Tryz.prog 208 [.int .i64 x0].toArray w0 (Ret fun v w'=>v=.bool r∧Ext w0 w'):=by
 unfold scale_check_1 at hF
 refine entr (n:=8) Tryz.func208 rfl rfl rfl<|Zr<|Za<|nl<|Zr<|Zm<|?_
 have hz:=bs hF; obtain ⟨x2,Ex2,hF⟩:=hz
 refine Zc (xc cb209 (mc rfl mn)) (c209 Ex2) ?_
 rintro _ w1 ⟨u1,rfl,r2,hx1⟩
 have hz:=id r2; obtain ⟨_,rfl,⟨_,_,rfl,rfl,rfl⟩⟩:=hz
 refine sbsv (cs:=[.int .i64 x2.1,.int .i64 x2.2]) Tryz.underlying32 ti35 rfl (pc rfl pn) rfl rfl rfl rfl rfl fun b2 w2 hx2 hg1 hb1=>?_
 have k1:=hx1.tr hx2
 have o1:Row (α:=(Int×Int)) 35 w1.heap.size w2 (.slice (some ⟨b2,0,none⟩) 1 1) [x2]:=Row.lit hg1 hb1 rfl (ble rfl)
 have hz:=bs hF; obtain ⟨x3,Ex3,hF⟩:=hz
 refine Zc (xc cb202 (mc rfl mn)) (c202 o1.rv Ex3) ?_
 rintro _ w3 ⟨rfl,hx3⟩
 have k2:=k1.tr hx3
 refine Zv (xnot rfl)<|Za<|nl<|?_
 cases hF
 exact wp_ret<|rt rfl (.tmp rfl rfl .nil) ⟨rfl,k2⟩
theorem c99 {w0:World} {v0:Value} {x0:(List (Int×Int))} (r0:RV w0 v0 x0) {v1:Value} {x1:(List Int)} (r1:RV w0 v1 x1) {F:Nat} {r:Int} (hF:scale_check F x0 x1=some r) :
  Calls Tryz.prog 99 [v0,v1].toArray w0 (Ret fun v w'=>v=.int .i64 r∧Ext w0 w'):=by
 unfold scale_check at hF
 have hz:=r0.sl; obtain ⟨a1,cq1,rfl,-,-,-⟩:=hz
 have hz:=r1.sl; obtain ⟨a2,cq2,rfl,-,-,-⟩:=hz
 refine entr (n:=36) Tryz.func99 rfl rfl rfl<|Zr<|Za<|nl<|Zr<|Zm<|?_
 have hz:=bs hF; obtain ⟨x3,Ex3,hF⟩:=hz
 refine Zc (xc cb95 (mc rfl mn)) (c95 r0 Ex3) ?_
 rintro _ w1 ⟨rfl,hx1⟩
 have r3:=r1.ext hx1
 refine Za<|nl<|wp_seq<|wp_block<|Zr<|Zm<|Zv (xneq rfl rfl)<|Za<|nl<|cnd rfl (fun h3=>?_) (fun h3=>?_)
 ·
  have hF:=ifp hF h3
  refine Zr<|Zm<|Za<|nl<|?_
  cases hF
  exact wp_ret<|rt rfl (.tmp rfl rfl .nil) ⟨rfl,hx1⟩
 ·
  have hF:=ifn hF h3
  refine Zr<|Zm<|Zv (xlen rfl Tryz.underlying28)<|Zv (xgtr rfl rfl)<|Za<|nl<|cnd rfl (fun h4=>?_) (fun h4=>?_)
  ·
   have hF:=ifp hF h4
   refine Zr<|Za<|nl<|?_
   cases hF
   exact wp_ret<|rt rfl (.tmp rfl rfl .nil) ⟨rfl,hx1⟩
  ·
   have hF:=ifn hF h4
   refine Zr<|Zm<|?_
   have hz:=bs hF; obtain ⟨x4,Ex4,hF⟩:=hz
   refine Zc (xc cb199 (mc rfl (mc rfl mn))) (c199 r3 ⟨208,[],[],rfl,cb208,fun w' u x b hk hu hp=>by cases RVo.int.1 hu; exact c208  hp⟩ Ex4) ?_
   rintro _ w2 ⟨rfl,hx2⟩
   have k1:=hx1.tr hx2
   refine Za<|nl<|cnd rfl (fun h5=>?_) (fun h5=>?_)
   ·
    have hF:=ifp hF h5
    refine Zr<|Za<|nl<|?_
    cases hF
    exact wp_ret<|rt rfl (.tmp rfl rfl .nil) ⟨rfl,k1⟩
   ·
    have hF:=ifn hF h5
    refine wp_skip<|wp_seq<|Zr<|Za<|nl<|?_
    have hz:=bs hF; obtain ⟨o1,hB1,hF⟩:=hz
    refine ct (fun L w=>o1=.inr ()∧Ext w2 w) ?_ ?_
    ·
     refine wp_block<|lp (I:=fun m L w=>∃ y1:Int,scale_check_l1 F x1 m y1 =some o1∧L 6=.int .i64 y1∧L 1=.slice a2 x1.length cq2∧Ext w2 w) F ⟨_,hB1,rfl,rfl,(Ext.refl _)⟩ ?_
     rintro m L w3 ⟨y1,hB1,l6_i1,l1_i1,K0_i1⟩
     rcases m with _ | m
     ·rw [scale_check_l1] at hB1; cases hB1
     rw [scale_check_l1] at hB1
     have k2:=k1.tr K0_i1
     refine wp_seq<|Zr<|Zm<|Zm<|Zv (xlen l1_i1 Tryz.underlying28)<|Zv (xlss l6_i1 rfl)<|nl<|cnd rfl (fun h6=>?_) (fun h6=>?_)
     ·
      have hB1:=ifp hB1 h6
      refine wp_skip<|wp_seq<|wp_block<|wp_seq<|wpl [] (.pure true 0 (.pure true 1 (.pure true 2 (.pure false 3 (.pure true 4 (.pure true 5 (.pure true 6 (.pure true 7 (.pure false 8 (.pure true 9 .fin)))))))))) mixed (by kernel_rfl) (fun w4 hx3=>?_)
      have k3:=k2.tr hx3
      have k4:=K0_i1.tr hx3
      refine Zn rfl<|Zn rfl<|?_
      have hz:=bs hB1; obtain ⟨x5,Ex5,hB1⟩:=hz
      have hz:=(RV.els r1).ix Ex5; obtain ⟨b3,f1,cs3,e1,i2,i3,q3,hc1⟩:=hz
      cases e1
      obtain rfl:=q3
      have hc2:=hc1.ext k3
      refine Zp rfl (fun _=>xixs l1_i1 l6_i1 Tryz.underlying28 ti2 i2 i3)<|Zq rfl (fun _ hS=>xld rfl ti2 ((hc2.ext (hS.resolve_left nofun)).at 0 rfl)) (Ext.refl _)<|Zn rfl<|Zn rfl<|Zp rfl (fun _=>xsub l6_i1 rfl)<|?_
      have hz:=bs hB1; obtain ⟨x6,Ex6,hB1⟩:=hz
      have hz:=ix2 r1 Ex6; obtain ⟨cs4,i4,i5,q4,hc3⟩:=hz
      obtain rfl:=q4
      have hc4:=hc3.ext k3
      refine Zp rfl (fun _=>xixs l1_i1 rfl Tryz.underlying28 ti2 i4 i5)<|Zq rfl (fun _ hS=>xld rfl ti2 ((hc4.ext (hS.resolve_left nofun)).at 0 rfl)) (Ext.refl _)<|Zp rfl (fun _=>xleq rfl rfl)<|cnd rfl (fun h7=>?_) (fun h7=>?_)
      ·
       have hB1:=ifp hB1 h7
       refine Zr<|Za<|nl<|?_
       cases hB1
       have hF:=(show some _=some _ from hF); cases hF
       exact wp_ret<|rt rfl (.tmp rfl rfl .nil) ⟨rfl,k3⟩
      ·
       have hB1:=ifn hB1 h7
       refine wp_skip<|rg<|Zm<|Zv (xadd l6_i1 rfl)<|Za<|nl<|?_
       refine lq m (Nat.lt_succ_self _)<|?_
       exact ⟨_,hB1,rfl,l1_i1,k4⟩
     ·
      have hB1:=ifn hB1 h6
      refine wp_exit<|?_
      cases hB1
      refine lf<|?_
      exact ⟨rfl,K0_i1⟩
    rintro L w5 ⟨rfl,K0_j1⟩
    have k5:=k1.tr K0_j1
    refine Zr<|Za<|nl<|?_
    cases hF
    exact wp_ret<|rt rfl (.tmp rfl rfl .nil) ⟨rfl,k5⟩
theorem c115 {w0:World} {v0:Value} {x0:(Int×Int)} (r0:RV w0 v0 x0) {v1:Value} {x1:(Int×Int)} (r1:RV w0 v1 x1) {r:(Int×Int)} (hF:scale_both x0 x1=some r) :
  Calls Tryz.prog 115 [v0,v1].toArray w0 (Ret fun v w'=>∃ u0:Value,v=u0∧RV w' u0 r∧Ext w0 w'):=by
 unfold scale_both at hF
 have hz:=id r0; obtain ⟨_,rfl,⟨_,_,rfl,rfl,rfl⟩⟩:=hz
 have hz:=id r1; obtain ⟨_,rfl,⟨_,_,rfl,rfl,rfl⟩⟩:=hz
 refine entr (n:=16) Tryz.func115 rfl rfl rfl<|Zr<|sbx rfl rfl fun b3 w1 hx1 hg1 hb1=>?_
 refine sbx rfl rfl fun b4 w2 hx2 hg2 hb2=>?_
 have k1:=hx1.tr hx2
 have hb3:=hb1.ext hx2
 refine sal ti35 fun b5 w3 hx3 hg3 hb4=>?_
 have k2:=k1.tr hx3
 have hb5:=hb3.ext hx3
 have hb6:=hb2.ext hx3
 refine nl<|Zr<|Zv (xfa rfl fa35_0)<|Zv (xld rfl ti2 ((Bx.cs hb5).at 0 rfl))<|Zv (xfa rfl fa35_0)<|Zv (xld rfl ti2 ((Bx.cs hb6).at 0 rfl))<|Zv (xmax rfl rfl)<|Zv (xfa rfl fa35_1)<|Zv (xld rfl ti2 ((Bx.cs hb5).at 1 rfl))<|Zv (xfa rfl fa35_1)<|Zv (xld rfl ti2 ((Bx.cs hb6).at 1 rfl))<|Zv (xmin rfl rfl)<|Zv (xbdv (r:=[.int .i64 (if x0.1<x1.1 then x1.1 else x0.1),.int .i64 (if x1.2<x0.2 then x1.2 else x0.2)]) ti35 sp35 (pc rfl (pc rfl pn)) rfl)<|sst rfl rfl rfl ti35 hb4 rfl rfl (ble rfl) fun w4 hch1 hb7=>?_
 have k4:=Ext.chg k2 hch1 (Nat.le_trans k1.size hg3)
 have hb8:Bx w4 b5 35 [.int .i64 (if x0.1<x1.1 then x1.1 else x0.1),.int .i64 (if x1.2<x0.2 then x1.2 else x0.2)]:=hb7
 refine nl<|?_
 cases hF
 exact wp_ret<|rt rfl (.cell rfl rfl ti35 rfl (Bx.cs hb8) .nil) ⟨_,rfl,(show RV (α:=(Int×Int)) _ (.agg [.int .i64 (if x0.1<x1.1 then x1.1 else x0.1),.int .i64 (if x1.2<x0.2 then x1.2 else x0.2)].toArray) (if x0.1<x1.1 then x1.1 else x0.1,if x1.2<x0.2 then x1.2 else x0.2) from ⟨_,rfl,⟨[.int .i64 (if x0.1<x1.1 then x1.1 else x0.1)],[.int .i64 (if x1.2<x0.2 then x1.2 else x0.2)],rfl,rfl,rfl⟩⟩),k4⟩
theorem c195 {w0:World} {x0:Int} {x1:Int} {r:(Int×Int)} (hF:law03_rg x0 x1=some r) :
  Calls Tryz.prog 195 [.int .i64 x0,.int .i64 x1].toArray w0 (Ret fun v w'=>∃ u0:Value,v=u0∧RV w' u0 r∧Ext w0 w'):=by
 unfold law03_rg at hF
 refine entr (n:=8) Tryz.func195 rfl rfl rfl<|Zr<|sal ti35 fun b3 w1 hx1 hg1 hb1=>?_
 refine nl<|Zr<|Zm<|Zm<|Zv (xbdv (r:=[.int .i64 x0,.int .i64 x1]) ti35 sp35 (pc rfl (pc rfl pn)) rfl)<|sst rfl rfl rfl ti35 hb1 rfl rfl (ble rfl) fun w2 hch1 hb2=>?_
 have k1:=Ext.chg hx1 hch1 (Nat.le_trans (Nat.le_refl _) hg1)
 have hb3:Bx w2 b3 35 [.int .i64 x0,.int .i64 x1]:=hb2
 refine nl<|?_
 cases hF
 exact wp_ret<|rt rfl (.cell rfl rfl ti35 rfl (Bx.cs hb3) .nil) ⟨_,rfl,(show RV (α:=(Int×Int)) _ (.agg [.int .i64 x0,.int .i64 x1].toArray) (x0,x1) from ⟨_,rfl,⟨[.int .i64 x0],[.int .i64 x1],rfl,rfl,rfl⟩⟩),k1⟩
theorem c190 {w0:World}  {r:(List (Int×Int))} (hF:law03_Song=some r) :
  Calls Tryz.prog 190 [].toArray w0 (Ret fun v w'=>∃ u0:Value,v=u0∧RV w' u0 r∧Ext w0 w'):=by
 unfold law03_Song at hF
 refine entr (n:=7) Tryz.func190 rfl rfl rfl<|Zr<|Za<|nl<|Zr<|?_
 have hz:=bs hF; obtain ⟨x1,Ex1,hF⟩:=hz
 refine Zc (xc cb195 (mc rfl (mc rfl mn))) (c195 Ex1) ?_
 rintro _ w1 ⟨u1,rfl,r1,hx1⟩
 have hz:=id r1; obtain ⟨_,rfl,⟨_,_,rfl,rfl,rfl⟩⟩:=hz
 have hz:=bs hF; obtain ⟨x2,Ex2,hF⟩:=hz
 refine Zc (xc cb195 (mc rfl (mc rfl mn))) (c195 Ex2) ?_
 rintro _ w2 ⟨u2,rfl,r2,hx2⟩
 have k1:=hx1.tr hx2
 have hz:=id r2; obtain ⟨_,rfl,⟨_,_,rfl,rfl,rfl⟩⟩:=hz
 have hz:=bs hF; obtain ⟨x3,Ex3,hF⟩:=hz
 refine Zc (xc cb195 (mc rfl (mc rfl mn))) (c195 Ex3) ?_
 rintro _ w3 ⟨u3,rfl,r4,hx3⟩
 have k2:=k1.tr hx3
 have hz:=id r4; obtain ⟨_,rfl,⟨_,_,rfl,rfl,rfl⟩⟩:=hz
 have hz:=bs hF; obtain ⟨x4,Ex4,hF⟩:=hz
 refine Zc (xc cb195 (mc rfl (mc rfl mn))) (c195 Ex4) ?_
 rintro _ w4 ⟨u4,rfl,r7,hx4⟩
 have k3:=k2.tr hx4
 have hz:=id r7; obtain ⟨_,rfl,⟨_,_,rfl,rfl,rfl⟩⟩:=hz
 have hz:=bs hF; obtain ⟨x5,Ex5,hF⟩:=hz
 refine Zc (xc cb195 (mc rfl (mc rfl mn))) (c195 Ex5) ?_
 rintro _ w5 ⟨u5,rfl,r11,hx5⟩
 have k4:=k3.tr hx5
 have hz:=id r11; obtain ⟨_,rfl,⟨_,_,rfl,rfl,rfl⟩⟩:=hz
 refine sbsv (cs:=[.int .i64 x1.1,.int .i64 x1.2,.int .i64 x2.1,.int .i64 x2.2,.int .i64 x3.1,.int .i64 x3.2,.int .i64 x4.1,.int .i64 x4.2,.int .i64 x5.1,.int .i64 x5.2]) Tryz.underlying32 ti35 rfl (pc rfl (pc rfl (pc rfl (pc rfl (pc rfl pn))))) rfl rfl rfl rfl rfl fun b1 w6 hx6 hg1 hb1=>?_
 have k5:=k4.tr hx6
 have o1:Row (α:=(Int×Int)) 35 w5.heap.size w6 (.slice (some ⟨b1,0,none⟩) 5 5) [x1,x2,x3,x4,x5]:=Row.lit hg1 hb1 rfl (ble rfl)
 refine Za<|nl<|?_
 cases hF
 exact wp_ret<|rt rfl (.tmp rfl rfl .nil) ⟨_,rfl,o1.rv,k5⟩
theorem c194 {w0:World} {v0:Value} {x0:(List (Int×Int))} (r0:RV w0 v0 x0) {v1:Value} {x1:(List (Int×Int))} (r1:RV w0 v1 x1) {F:Nat} {r:Bool} (hF:law03_ranges F x0 x1=some r) :
  Calls Tryz.prog 194 [v0,v1].toArray w0 (Ret fun v w'=>v=.bool r∧Ext w0 w'):=by
 unfold law03_ranges at hF
 have hz:=r0.sl; obtain ⟨a1,cq1,rfl,-,-,-⟩:=hz
 have hz:=r1.sl; obtain ⟨a2,cq2,rfl,-,-,-⟩:=hz
 refine entr (n:=26) Tryz.func194 rfl rfl rfl<|Zr<|Za<|nl<|wp_seq<|Zr<|Zm<|Zv (xlen rfl Tryz.underlying32)<|Zm<|Zv (xlen rfl Tryz.underlying32)<|Zv (xneq rfl rfl)<|nl<|cnd rfl (fun h3=>?_) (fun h3=>?_)
 ·
  have hF:=ifp hF h3
  refine Zr<|Za<|nl<|?_
  cases hF
  exact wp_ret<|rt rfl (.tmp rfl rfl .nil) ⟨rfl,(Ext.refl _)⟩
 ·
  have hF:=ifn hF h3
  refine wp_skip<|wp_seq<|Zr<|Za<|nl<|?_
  have hz:=bs hF; obtain ⟨o1,hB1,hF⟩:=hz
  refine ct (fun L w=>o1=.inr ()∧Ext w0 w) ?_ ?_
  ·
   refine wp_block<|lp (I:=fun m L w=>∃ y1:Int,law03_ranges_l1 F x0 x1 m y1 =some o1∧L 5=.int .i64 y1∧L 0=.slice a1 x0.length cq1∧L 1=.slice a2 x1.length cq2∧Ext w0 w) F ⟨_,hB1,rfl,rfl,rfl,(Ext.refl _)⟩ ?_
   rintro m L w1 ⟨y1,hB1,l5_i1,l0_i1,l1_i1,K0_i1⟩
   rcases m with _ | m
   ·rw [law03_ranges_l1] at hB1; cases hB1
   rw [law03_ranges_l1] at hB1
   refine wp_seq<|Zr<|Zm<|Zm<|Zv (xlen l0_i1 Tryz.underlying32)<|Zv (xlss l5_i1 rfl)<|nl<|cnd rfl (fun h4=>?_) (fun h4=>?_)
   ·
    have hB1:=ifp hB1 h4
    refine wp_skip<|wp_seq<|wp_block<|wp_seq<|wpl [] (.pure true 0 (.pure true 1 (.pure true 2 (.pure false 3 (.pure true 4 (.pure true 5 (.pure true 6 (.pure false 7 (.pure true 8 .fin))))))))) mixed (by kernel_rfl) (fun w2 hx1=>?_)
    have k1:=K0_i1.tr hx1
    refine Zn rfl<|Zn rfl<|?_
    have hz:=bs hB1; obtain ⟨x3,Ex3,hB1⟩:=hz
    have hz:=(RV.els r0).ix Ex3; obtain ⟨b3,f1,cs3,e1,i2,i3,q3,hc1⟩:=hz
    cases e1
    obtain ⟨_,_,rfl,rfl,rfl⟩:=q3
    have hc2:=hc1.ext k1
    refine Zp rfl (fun _=>xixs l0_i1 l5_i1 Tryz.underlying32 ti35 i2 i3)<|Zq rfl (fun _ hS=>xlda rfl ti35 rfl (hc2.ext (hS.resolve_left nofun))) (Ext.refl _)<|Zn rfl<|Zn rfl<|?_
    have hz:=bs hB1; obtain ⟨x4,Ex4,hB1⟩:=hz
    have hz:=(RV.els r1).ix Ex4; obtain ⟨b4,f2,cs4,e2,i4,i5,q4,hc3⟩:=hz
    cases e2
    obtain ⟨_,_,rfl,rfl,rfl⟩:=q4
    have hc4:=hc3.ext k1
    refine Zp rfl (fun _=>xixs l1_i1 l5_i1 Tryz.underlying32 ti35 i4 i5)<|Zq rfl (fun _ hS=>xlda rfl ti35 rfl (hc4.ext (hS.resolve_left nofun))) (Ext.refl _)<|Zp rfl (fun _=>xagn (α:=(Int×Int)) (a:=(x3.1,x3.2)) (b:=(x4.1,x4.2)) rfl eg35 eq35 rfl rfl rfl rfl rfl)<|cnd rfl (fun h5=>?_) (fun h5=>?_)
    ·
     have hB1:=ifp hB1 h5
     refine Zr<|Za<|nl<|?_
     cases hB1
     have hF:=(show some _=some _ from hF); cases hF
     exact wp_ret<|rt rfl (.tmp rfl rfl .nil) ⟨rfl,k1⟩
    ·
     have hB1:=ifn hB1 h5
     refine wp_skip<|rg<|Zm<|Zv (xadd l5_i1 rfl)<|Za<|nl<|?_
     refine lq m (Nat.lt_succ_self _)<|?_
     exact ⟨_,hB1,rfl,l0_i1,l1_i1,k1⟩
   ·
    have hB1:=ifn hB1 h4
    refine wp_exit<|?_
    cases hB1
    refine lf<|?_
    exact ⟨rfl,K0_i1⟩
  rintro L w3 ⟨rfl,K0_j1⟩
  refine Zr<|Za<|nl<|?_
  cases hF
  exact wp_ret<|rt rfl (.tmp rfl rfl .nil) ⟨rfl,K0_j1⟩
theorem c196 {w0:World} {v0:Value} {x0:(List Int)} (r0:RV w0 v0 x0) {v1:Value} {x1:(List Int)} (r1:RV w0 v1 x1) {F:Nat} {r:Bool} (hF:law03_ints F x0 x1=some r) :
  Calls Tryz.prog 196 [v0,v1].toArray w0 (Ret fun v w'=>v=.bool r∧Ext w0 w'):=by
 unfold law03_ints at hF
 have hz:=r0.sl; obtain ⟨a1,cq1,rfl,-,-,-⟩:=hz
 have hz:=r1.sl; obtain ⟨a2,cq2,rfl,-,-,-⟩:=hz
 refine entr (n:=26) Tryz.func196 rfl rfl rfl<|Zr<|Za<|nl<|wp_seq<|Zr<|Zm<|Zv (xlen rfl Tryz.underlying41)<|Zm<|Zv (xlen rfl Tryz.underlying41)<|Zv (xneq rfl rfl)<|nl<|cnd rfl (fun h3=>?_) (fun h3=>?_)
 ·
  have hF:=ifp hF h3
  refine Zr<|Za<|nl<|?_
  cases hF
  exact wp_ret<|rt rfl (.tmp rfl rfl .nil) ⟨rfl,(Ext.refl _)⟩
 ·
  have hF:=ifn hF h3
  refine wp_skip<|wp_seq<|Zr<|Za<|nl<|?_
  have hz:=bs hF; obtain ⟨o1,hB1,hF⟩:=hz
  refine ct (fun L w=>o1=.inr ()∧Ext w0 w) ?_ ?_
  ·
   refine wp_block<|lp (I:=fun m L w=>∃ y1:Int,law03_ints_l1 F x0 x1 m y1 =some o1∧L 5=.int .i64 y1∧L 0=.slice a1 x0.length cq1∧L 1=.slice a2 x1.length cq2∧Ext w0 w) F ⟨_,hB1,rfl,rfl,rfl,(Ext.refl _)⟩ ?_
   rintro m L w1 ⟨y1,hB1,l5_i1,l0_i1,l1_i1,K0_i1⟩
   rcases m with _ | m
   ·rw [law03_ints_l1] at hB1; cases hB1
   rw [law03_ints_l1] at hB1
   refine wp_seq<|Zr<|Zm<|Zm<|Zv (xlen l0_i1 Tryz.underlying41)<|Zv (xlss l5_i1 rfl)<|nl<|cnd rfl (fun h4=>?_) (fun h4=>?_)
   ·
    have hB1:=ifp hB1 h4
    refine wp_skip<|wp_seq<|wp_block<|wp_seq<|wpl [] (.pure true 0 (.pure true 1 (.pure true 2 (.pure false 3 (.pure true 4 (.pure true 5 (.pure true 6 (.pure false 7 (.pure true 8 .fin))))))))) mixed (by kernel_rfl) (fun w2 hx1=>?_)
    have k1:=K0_i1.tr hx1
    refine Zn rfl<|Zn rfl<|?_
    have hz:=bs hB1; obtain ⟨x3,Ex3,hB1⟩:=hz
    have hz:=(RV.els r0).ix Ex3; obtain ⟨b3,f1,cs3,e1,i2,i3,q3,hc1⟩:=hz
    cases e1
    obtain rfl:=q3
    have hc2:=hc1.ext k1
    refine Zp rfl (fun _=>xixs l0_i1 l5_i1 Tryz.underlying41 ti3 i2 i3)<|Zq rfl (fun _ hS=>xld rfl ti3 ((hc2.ext (hS.resolve_left nofun)).at 0 rfl)) (Ext.refl _)<|Zn rfl<|Zn rfl<|?_
    have hz:=bs hB1; obtain ⟨x4,Ex4,hB1⟩:=hz
    have hz:=(RV.els r1).ix Ex4; obtain ⟨b4,f2,cs4,e2,i4,i5,q4,hc3⟩:=hz
    cases e2
    obtain rfl:=q4
    have hc4:=hc3.ext k1
    refine Zp rfl (fun _=>xixs l1_i1 l5_i1 Tryz.underlying41 ti3 i4 i5)<|Zq rfl (fun _ hS=>xld rfl ti3 ((hc4.ext (hS.resolve_left nofun)).at 0 rfl)) (Ext.refl _)<|Zp rfl (fun _=>xneq rfl rfl)<|cnd rfl (fun h5=>?_) (fun h5=>?_)
    ·
     have hB1:=ifp hB1 h5
     refine Zr<|Za<|nl<|?_
     cases hB1
     have hF:=(show some _=some _ from hF); cases hF
     exact wp_ret<|rt rfl (.tmp rfl rfl .nil) ⟨rfl,k1⟩
    ·
     have hB1:=ifn hB1 h5
     refine wp_skip<|rg<|Zm<|Zv (xadd l5_i1 rfl)<|Za<|nl<|?_
     refine lq m (Nat.lt_succ_self _)<|?_
     exact ⟨_,hB1,rfl,l0_i1,l1_i1,k1⟩
   ·
    have hB1:=ifn hB1 h4
    refine wp_exit<|?_
    cases hB1
    refine lf<|?_
    exact ⟨rfl,K0_i1⟩
  rintro L w3 ⟨rfl,K0_j1⟩
  refine Zr<|Za<|nl<|?_
  cases hF
  exact wp_ret<|rt rfl (.tmp rfl rfl .nil) ⟨rfl,K0_j1⟩
theorem c274 {w0:World} {v0:Value} {x0:(Int×Int)} (r0:RV w0 v0 x0) {r:(Int×Int)} (hF:scale_turned x0=some r) :
  Calls Tryz.prog 274 [v0].toArray w0 (Ret fun v w'=>∃ u0:Value,v=u0∧RV w' u0 r∧Ext w0 w'):=by
 unfold scale_turned at hF
 have hz:=id r0; obtain ⟨_,rfl,⟨_,_,rfl,rfl,rfl⟩⟩:=hz
 refine entr (n:=10) Tryz.func274 rfl rfl rfl<|Zr<|sbx rfl rfl fun b2 w1 hx1 hg1 hb1=>?_
 refine sal ti35 fun b3 w2 hx2 hg2 hb2=>?_
 have k1:=hx1.tr hx2
 have hb3:=hb1.ext hx2
 refine nl<|Zr<|Zv (xfa rfl fa35_1)<|Zv (xld rfl ti2 ((Bx.cs hb3).at 1 rfl))<|Zv (xsub rfl rfl)<|Zv (xfa rfl fa35_0)<|Zv (xld rfl ti2 ((Bx.cs hb3).at 0 rfl))<|Zv (xsub rfl rfl)<|Zv (xbdv (r:=[.int .i64 (w64 (10000 - x0.2)),.int .i64 (w64 (10000 - x0.1))]) ti35 sp35 (pc rfl (pc rfl pn)) rfl)<|sst rfl rfl rfl ti35 hb2 rfl rfl (ble rfl) fun w3 hch1 hb4=>?_
 have k2:=Ext.chg k1 hch1 (Nat.le_trans hx1.size hg2)
 have hb5:Bx w3 b3 35 [.int .i64 (w64 (10000 - x0.2)),.int .i64 (w64 (10000 - x0.1))]:=hb4
 refine nl<|?_
 cases hF
 exact wp_ret<|rt rfl (.cell rfl rfl ti35 rfl (Bx.cs hb5) .nil) ⟨_,rfl,(show RV (α:=(Int×Int)) _ (.agg [.int .i64 (w64 (10000 - x0.2)),.int .i64 (w64 (10000 - x0.1))].toArray) (w64 (10000 - x0.2),w64 (10000 - x0.1)) from ⟨_,rfl,⟨[.int .i64 (w64 (10000 - x0.2))],[.int .i64 (w64 (10000 - x0.1))],rfl,rfl,rfl⟩⟩),k2⟩
theorem c20 {w0:World} {v0:Value} {x0:(List (Int×Int))} (r0:RV w0 v0 x0) {F:Nat} {r:((List Int)×Int)} (hF:scale_Fewest F x0=some r) :
  Calls Tryz.prog 20 [v0].toArray w0 (Ret fun v w'=>∃ u0:Value,v=.tuple #[u0,.int .i64 r.2]∧RV w' u0 r.1∧Ext w0 w'):=by
 unfold scale_Fewest at hF
 have hz:=r0.sl; obtain ⟨a1,cq1,rfl,-,-,-⟩:=hz
 refine entr (n:=20) Tryz.func20 rfl rfl rfl<|Zr<|Za<|Za<|nl<|wp_seq<|Zr<|Zm<|?_
 have hz:=bs hF; obtain ⟨x2,Ex2,hF⟩:=hz
 refine Zc (xc cb95 (mc rfl mn)) (c95 r0 Ex2) ?_
 rintro _ w1 ⟨rfl,hx1⟩
 have r2:=r0.ext hx1
 refine Za<|nl<|Zr<|Zm<|Zv (xneq rfl rfl)<|nl<|cnd rfl (fun h2=>?_) (fun h2=>?_)
 ·
  have hF:=ifp hF h2
  refine Zr<|Zm<|Za<|Za<|nl<|?_
  cases hF
  exact wp_ret<|rt rfl (.tmp rfl rfl (.tmp rfl rfl .nil)) ⟨_,rfl,(RVo.nil (Nat.zero_le _)),hx1⟩
 ·
  have hF:=ifn hF h2
  refine wp_skip<|Zr<|Zm<|?_
  have hz:=bs hF; obtain ⟨x3,Ex3,hF⟩:=hz
  refine Zc (xc cb96 (mc rfl mn)) (c96 r2 Ex3) ?_
  rintro _ w2 ⟨u1,rfl,r3,hx2⟩
  have k1:=hx1.tr hx2
  have hz:=obPtr r3; obtain ⟨a2,rfl⟩:=hz
  refine Zv (xbdv (r:=[.int .i64 1,.int .i64 0]) ti35 sp35 (pc rfl pn) rfl)<|?_
  have hz:=bs hF; obtain ⟨x4,Ex4,hF⟩:=hz
  have hz:=obGet r3 Ex4; obtain ⟨b2,cs2,e1,q2,hc1⟩:=hz
  cases e1
  obtain ⟨a3,cq2,rfl,p1,q3,e2⟩:=q2
  have r4:=RV.of1 p1 q3 e2
  have hz:=bs hF; obtain ⟨x5,Ex5,hF⟩:=hz
  refine Zc (xc cb97 (mc rfl (mc rfl mn))) (c97 (x0:=(⟨x4.v⟩:(Uno (List ((Int×Int)×Int))))) hc1 r4.rep1 (show RV (α:=(Int×Int)) _ (.agg [.int .i64 1,.int .i64 0].toArray) (1,0) from ⟨_,rfl,⟨[.int .i64 1],[.int .i64 0],rfl,rfl,rfl⟩⟩) Ex5) ?_
  rintro _ w3 ⟨u2,u3,rfl,r5,r6,hx3⟩
  have k2:=k1.tr hx3
  have hz:=RV.sl r5.rv; obtain ⟨a4,cq3,rfl,-,-,-⟩:=hz
  have hz:=RV.sl r6.rv; obtain ⟨a5,cq4,rfl,-,-,-⟩:=hz
  refine Zm<|Zv (xext rfl rfl)<|Zv (xext rfl rfl)<|Za<|Za<|nl<|Zr<|Zm<|Za<|Za<|nl<|?_
  cases hF
  exact wp_ret<|rt rfl (.tmp rfl rfl (.tmp rfl rfl .nil)) ⟨_,rfl,r5.rv,k2⟩
theorem c22 {w0:World} {v0:Value} {x0:(List (Int×Int))} (r0:RV w0 v0 x0) {v1:Value} {x1:(List Int)} (r1:RV w0 v1 x1) {F:Nat} {r:Int} (hF:scale_CheckScale F x0 x1=some r) :
  Calls Tryz.prog 22 [v0,v1].toArray w0 (Ret fun v w'=>v=.int .i64 r∧Ext w0 w'):=by
 unfold scale_CheckScale at hF
 have hz:=r0.sl; obtain ⟨a1,cq1,rfl,-,-,-⟩:=hz
 have hz:=r1.sl; obtain ⟨a2,cq2,rfl,-,-,-⟩:=hz
 refine entr (n:=28) Tryz.func22 rfl rfl rfl<|Zr<|Za<|nl<|wp_seq<|Zr<|Zm<|Zm<|?_
 have hz:=bs hF; obtain ⟨x3,Ex3,hF⟩:=hz
 refine Zc (xc cb99 (mc rfl (mc rfl mn))) (c99 r0 r1 Ex3) ?_
 rintro _ w1 ⟨rfl,hx1⟩
 have r3:=r0.ext hx1
 have r4:=r1.ext hx1
 refine Za<|nl<|Zr<|Zm<|Zv (xneq rfl rfl)<|nl<|cnd rfl (fun h3=>?_) (fun h3=>?_)
 ·
  have hF:=ifp hF h3
  refine Zr<|Zm<|Za<|nl<|?_
  cases hF
  exact wp_ret<|rt rfl (.tmp rfl rfl .nil) ⟨rfl,hx1⟩
 ·
  have hF:=ifn hF h3
  refine wp_skip<|Zr<|sal ti169 fun b3 w2 hx2 hg1 hb1=>?_
  have hb2:Bx w2 b3 169 (List.flatMap Flat.enc ((Ar.fill 25 0:(Ar 25 Int))).l):=hb1
  refine nl<|wp_seq<|Zr<|Zm<|Zv (xlen rfl Tryz.underlying32)<|Zm<|nl<|?_
  have hz:=bs hF; obtain ⟨z1,hB1,hF⟩:=hz
  refine ct (fun L w=>Bx w b3 169 (List.flatMap Flat.enc z1.l)∧L 0=.slice a1 x0.length cq1∧L 1=.slice a2 x1.length cq2∧L 6=.pointer (some ⟨b3,0,none⟩)∧Ext w1 w) ?_ ?_
  ·
   refine wp_block<|lp (I:=fun m L w=>∃ y1:Int,∃ y2:(Ar 25 Int),scale_CheckScale_l1 F x0 m y1 y2 =some z1∧L 16=.int .i64 y1∧Bx w b3 169 (List.flatMap Flat.enc y2.l)∧L 0=.slice a1 x0.length cq1∧L 1=.slice a2 x1.length cq2∧L 6=.pointer (some ⟨b3,0,none⟩)∧L 15=.int .i64 (x0.length:Int)∧Ext w1 w) F ⟨_,_,hB1,rfl,hb2,rfl,rfl,rfl,rfl,hx2⟩ ?_
   rintro m L w3 ⟨y1,y2,hB1,l16_i1,B6_i1,l0_i1,l1_i1,l6_i1,l15_i1,K0_i1⟩
   rcases m with _ | m
   ·rw [scale_CheckScale_l1] at hB1; cases hB1
   rw [scale_CheckScale_l1] at hB1
   refine Zr<|Zv (xlss l16_i1 l15_i1)<|nl<|wp_seq<|cnd rfl (fun h4=>?_) (fun h4=>?_)
   ·
    have hB1:=ifp hB1 h4
    refine wp_skip<|wp_seq<|wp_block<|Zr<|Zm<|Za<|nl<|rg<|Zm<|?_
    have hz:=bs hB1; obtain ⟨x4,Ex4,hB1⟩:=hz
    have hz:=ixar (Bx.cs B6_i1) Ex4; obtain ⟨i2,i3,hc1⟩:=hz
    refine Zv (xixa l6_i1 l16_i1 Tryz.underlying169 ti3 i2 i3)<|ssta (X:=y2) (v:=1) rfl rfl rfl ti3 B6_i1 Ex4 fun w4 hch1 hb3=>?_
    have k4:=Ext.chg K0_i1 hch1 (Nat.le_trans (Nat.le_refl _) hg1)
    refine nl<|rg<|Zv (xadd l16_i1 rfl)<|Zm<|nl<|?_
    refine lq m (Nat.lt_succ_self _)<|?_
    exact ⟨_,_,hB1,rfl,hb3,l0_i1,l1_i1,l6_i1,l15_i1,k4⟩
   ·
    have hB1:=ifn hB1 h4
    refine wp_exit<|?_
    cases hB1
    refine lf<|?_
    exact ⟨B6_i1,l0_i1,l1_i1,l6_i1,K0_i1⟩
  rintro L w5 ⟨B6_j1,l0_j1,l1_j1,l6_j1,K0_j1⟩
  have k5:=hx1.tr K0_j1
  have r11:=r3.ext K0_j1
  have r12:=r4.ext K0_j1
  refine wp_seq<|wp_seq<|wpl [] (.pure true 0 (.pure true 2 (.pure false 4 (.eff 1 (.eff 3 (.pure true 5 .fin) .stop) .stop)))) mixed (by kernel_rfl) (fun w6 hx3=>?_)
  have k6:=k5.tr hx3
  have B1:=B6_j1.ext hx3
  have r13:=r11.ext hx3
  have r14:=r12.ext hx3
  refine Zn rfl<|Zn rfl<|Zq rfl (fun _ hS=>xlda l6_j1 ti169 (arlen _) (Bx.cs (B1.ext (hS.resolve_left nofun)))) (Ext.refl _)<|?_
  have hz:=bs hF; obtain ⟨x5,Ex5,hF⟩:=hz
  refine pe1 rfl<|Zc (xc cb96 (mc l0_j1 mn)) (c96 r13 Ex5) ?_
  rintro _ w7 ⟨u1,rfl,r15,hx4⟩
  have k8:=k6.tr hx4
  have r16:=r14.ext hx4
  have hz:=obPtr r15; obtain ⟨a3,rfl⟩:=hz
  refine nl ⟨fun _ _=>hx4,?_⟩
  have hz:=bs hF; obtain ⟨x6,Ex6,hF⟩:=hz
  have hz:=obGet r15 Ex6; obtain ⟨b4,cs3,e1,q3,hc2⟩:=hz
  cases e1
  obtain ⟨a4,cq3,rfl,p1,q4,e2⟩:=q3
  have r17:=RV.of1 p1 q4 e2
  have hz:=bs hF; obtain ⟨x7,Ex7,hF⟩:=hz
  refine pe1 rfl<|Zc (xc cb100 (mc rfl (mc l1_j1 mn))) (c100 (x0:=(⟨x6.v⟩:(Uno (List ((Int×Int)×Int))))) hc2 r17.rep1 r16 Ex7) ?_
  rintro _ w8 ⟨u2,rfl,r18,hx5⟩
  have k10:=k8.tr hx5
  have k12:=hx4.tr hx5
  have hz:=id r18; obtain ⟨_,rfl,rfl⟩:=hz
  refine nl ⟨fun _ _=>k12,?_⟩
  refine Zp rfl (fun _=>xagn (α:=(Ar 25 Int)) (a:=x7) (b:=z1) rfl eg169 eq169 rfl rfl rfl rfl rfl)<|cnd rfl (fun h5=>?_) (fun h5=>?_)
  ·
   have hF:=ifp hF h5
   refine Zr<|Za<|nl<|?_
   cases hF
   exact wp_ret<|rt rfl (.tmp rfl rfl .nil) ⟨rfl,k10⟩
  ·
   have hF:=ifn hF h5
   refine wp_skip<|Zr<|Za<|nl<|?_
   cases hF
   exact wp_ret<|rt rfl (.tmp rfl rfl .nil) ⟨rfl,k10⟩
theorem c193 {w0:World} {v0:Value} {x0:(List (Int×Int))} (r0:RV w0 v0 x0) {v1:Value} {x1:(List Int)} (r1:RV w0 v1 x1) {F:Nat} {r:((List Int)×Int)} (hF:scale_Met F x0 x1=some r) :
  Calls Tryz.prog 193 [v0,v1].toArray w0 (Ret fun v w'=>∃ u0:Value,v=.tuple #[u0,.int .i64 r.2]∧RV w' u0 r.1∧Ext w0 w'):=by
 unfold scale_Met at hF
 have hz:=r0.sl; obtain ⟨a1,cq1,rfl,-,-,-⟩:=hz
 have hz:=r1.sl; obtain ⟨a2,cq2,rfl,-,-,-⟩:=hz
 refine entr (n:=40) Tryz.func193 rfl rfl rfl<|Zr<|Za<|Za<|nl<|wp_seq<|Zr<|Zm<|Zm<|?_
 have hz:=bs hF; obtain ⟨x3,Ex3,hF⟩:=hz
 refine Zc (xc cb99 (mc rfl (mc rfl mn))) (c99 r0 r1 Ex3) ?_
 rintro _ w1 ⟨rfl,hx1⟩
 have r3:=r0.ext hx1
 have r4:=r1.ext hx1
 refine Za<|nl<|Zr<|Zm<|Zv (xneq rfl rfl)<|nl<|cnd rfl (fun h3=>?_) (fun h3=>?_)
 ·
  have hF:=ifp hF h3
  refine Zr<|Zm<|Za<|Za<|nl<|?_
  cases hF
  exact wp_ret<|rt rfl (.tmp rfl rfl (.tmp rfl rfl .nil)) ⟨_,rfl,(RVo.nil (Nat.zero_le _)),hx1⟩
 ·
  have hF:=ifn hF h3
  refine wp_skip<|Zr<|Zm<|?_
  have hz:=bs hF; obtain ⟨x4,Ex4,hF⟩:=hz
  refine Zc (xc cb96 (mc rfl mn)) (c96 r3 Ex4) ?_
  rintro _ w2 ⟨u1,rfl,r5,hx2⟩
  have k1:=hx1.tr hx2
  have r7:=r4.ext hx2
  have hz:=obPtr r5; obtain ⟨a3,rfl⟩:=hz
  refine Zm<|?_
  have hz:=bs hF; obtain ⟨x5,Ex5,hF⟩:=hz
  have hz:=obGet r5 Ex5; obtain ⟨b3,cs3,e1,q3,hc1⟩:=hz
  cases e1
  obtain ⟨a4,cq3,rfl,p1,q4,e2⟩:=q3
  have r8:=RV.of1 p1 q4 e2
  have hz:=bs hF; obtain ⟨x6,Ex6,hF⟩:=hz
  refine Zc (xc cb100 (mc rfl (mc rfl mn))) (c100 (x0:=(⟨x5.v⟩:(Uno (List ((Int×Int)×Int))))) hc1 r8.rep1 r7 Ex6) ?_
  rintro _ w3 ⟨u2,rfl,r9,hx3⟩
  have k2:=k1.tr hx3
  have hz:=id r9; obtain ⟨_,rfl,rfl⟩:=hz
  refine sal ti169 fun b4 w4 hx4 hg1 hb1=>?_
  have k3:=k2.tr hx4
  have hb2:Bx w4 b4 169 (List.flatMap Flat.enc ((Ar.fill 25 0:(Ar 25 Int))).l):=hb1
  refine sstw rfl rfl ti169 hb2 (arlen _) (arlen _) (flat_one _) fun w5 hch1 hb3=>?_
  have k4:=Ext.chg k3 hch1 (Nat.le_trans k2.size hg1)
  have hb4:Bx w5 b4 169 (List.flatMap Flat.enc x6.l):=hb3
  refine nl<|Zr<|Za<|nl<|wp_seq<|Zr<|Zm<|Zv (xlen rfl Tryz.underlying32)<|Zm<|nl<|?_
  have o1:Row (α:=Int) 3 w5.heap.size w5 (.slice none 0 0) []:=Row.nil
  have hz:=bs hF; obtain ⟨z1,hB1,hF⟩:=hz
  refine ct (fun L w=>∃ v4:Value,L 8=v4∧Row 3 w5.heap.size w v4 z1∧Ext w5 w) ?_ ?_
  ·
   refine wp_block<|lp (I:=fun m L w=>∃ y1:(List Int),∃ y2:Int,∃ v3:Value,scale_Met_l1 F x0 x6 m y1 y2 =some z1∧L 8=v3∧Row 3 w5.heap.size w v3 y1∧L 22=.int .i64 y2∧L 7=.pointer (some ⟨b4,0,none⟩)∧L 21=.int .i64 (x0.length:Int)∧Ext w5 w) F ⟨_,_,_,hB1,rfl,o1,rfl,rfl,rfl,(Ext.refl _)⟩ ?_
   rintro m L w6 ⟨y1,y2,v3,hB1,l8_i1,O8_i1,l22_i1,l7_i1,l21_i1,K0_i1⟩
   rcases m with _ | m
   ·rw [scale_Met_l1] at hB1; cases hB1
   rw [scale_Met_l1] at hB1
   have hb5:=hb4.ext K0_i1
   have hz:=RV.sl O8_i1.rv; obtain ⟨a5,cq4,rfl,-,-,-⟩:=hz
   refine Zr<|Zv (xlss l22_i1 l21_i1)<|nl<|wp_seq<|cnd rfl (fun h4=>?_) (fun h4=>?_)
   ·
    have hB1:=ifp hB1 h4
    refine wp_skip<|wp_seq<|?_
    have hz:=bs hB1; obtain ⟨y3,hB3,hB1⟩:=hz
    refine ct (fun L w=>∃ v5:Value,L 8=v5∧Row 3 w5.heap.size w v5 y3∧L 7=.pointer (some ⟨b4,0,none⟩)∧L 21=.int .i64 (x0.length:Int)∧L 22=.int .i64 y2∧Ext w5 w) ?_ ?_
    ·
     refine wp_block<|Zr<|Zm<|Za<|nl<|Zr<|Zm<|?_
     have hz:=bs hB3; obtain ⟨x7,Ex7,hB3⟩:=hz
     have hz:=ixar (Bx.cs hb5) Ex7; obtain ⟨i2,i3,hc2⟩:=hz
     refine Zv (xixa l7_i1 l22_i1 Tryz.underlying169 ti3 i2 i3)<|Zv (xld rfl ti3 (hc2.at 0 rfl))<|Zv (xeql rfl rfl)<|nl<|?_
     have hz:=bs hB3; obtain ⟨y4,hB4,hB3⟩:=hz
     refine ct (fun L w=>∃ v6:Value,L 8=v6∧Row 3 w5.heap.size w v6 y4∧L 7=.pointer (some ⟨b4,0,none⟩)∧L 21=.int .i64 (x0.length:Int)∧L 22=.int .i64 y2∧Ext w5 w) ?_ ?_
     ·
      refine cnd rfl (fun h5=>?_) (fun h5=>?_)
      ·
       have hB4:=ifp hB4 h5
       refine rg<|Zm<|Zm<|Zv (xlen l8_i1 Tryz.underlying41)<|Zm<|Zv (xlen l8_i1 Tryz.underlying41)<|?_
       have r14:=RV.full O8_i1.rv
       refine Zv (xslf l8_i1 (RV.cap O8_i1.rv).2.1 Tryz.underlying41 ti3 rfl rfl)<|Zm<|sbsv (cs:=[.int .i64 y2]) Tryz.underlying41 ti3 rfl (pc l22_i1 pn) rfl rfl rfl rfl rfl fun b5 w7 hx5 hg2 hb6=>?_
       have k10:=K0_i1.tr hx5
       have r15:=r14.ext hx5
       have o3:Row (α:=Int) 3 w6.heap.size w7 (.slice (some ⟨b5,0,none⟩) 1 1) [y2]:=Row.lit hg2 hb6 rfl (ble rfl)
       have hz:=bs hB4; obtain ⟨x8,Ex8,hB4⟩:=hz
       refine sapf (l:=y1) (k:=([y2]:List Int)) rfl rfl Tryz.underlying41 ti3 rfl rfl r15 o3.rv rfl Ex8 fun v7 w8 o4 hx6=>?_
       have k13:=k10.tr hx6
       have hz:=RV.sl o4.rv; obtain ⟨a6,cq5,rfl,-,-,-⟩:=hz
       refine Za<|nl<|?_
       cases hB4
       refine lf<|?_
       exact ⟨_,rfl,(o4.bnd k10.size),l7_i1,l21_i1,l22_i1,k13⟩
      ·
       have hB4:=ifn hB4 h5
       refine wp_skip<|?_
       cases hB4
       refine lf<|?_
       exact ⟨_,l8_i1,O8_i1,l7_i1,l21_i1,l22_i1,K0_i1⟩
     rintro L w9 ⟨v6,l8_j1,O8_j1,l7_j1,l21_j1,l22_j1,K0_j1⟩
     have hz:=RV.sl O8_j1.rv; obtain ⟨a7,cq6,rfl,-,-,-⟩:=hz
     cases hB3
     refine lf<|?_
     exact ⟨_,l8_j1,O8_j1,l7_j1,l21_j1,l22_j1,K0_j1⟩
    rintro L w10 ⟨v5,l8_j2,O8_j2,l7_j2,l21_j2,l22_j2,K0_j2⟩
    have hz:=RV.sl O8_j2.rv; obtain ⟨a8,cq7,rfl,-,-,-⟩:=hz
    refine rg<|Zv (xadd l22_j2 rfl)<|Zm<|nl<|?_
    refine lq m (Nat.lt_succ_self _)<|?_
    exact ⟨_,_,_,hB1,l8_j2,O8_j2,rfl,l7_j2,l21_j2,K0_j2⟩
   ·
    have hB1:=ifn hB1 h4
    refine wp_exit<|?_
    cases hB1
    refine lf<|?_
    exact ⟨_,l8_i1,O8_i1,K0_i1⟩
  rintro L w11 ⟨v4,l8_j3,O8_j3,K0_j3⟩
  have k19:=k4.tr K0_j3
  have hz:=RV.sl O8_j3.rv; obtain ⟨a9,cq8,rfl,-,-,-⟩:=hz
  refine Zr<|Zm<|Za<|Za<|nl<|?_
  cases hF
  exact wp_ret<|rt rfl (.tmp l8_j3 rfl (.tmp rfl rfl .nil)) ⟨_,rfl,O8_j3.rv,k19⟩
theorem c34 {w0:World} {v0:Value} {x0:(List (Int×Int))} (r0:RV w0 v0 x0) {x1:Int} {x2:Int} {F:Nat} {r:((Bool×Bool)×Int)} (hF:scale_Share F x0 x1 x2=some r) :
  Calls Tryz.prog 34 [v0,.int .i64 x1,.int .i64 x2].toArray w0 (Ret fun v w'=>∃ u0:Value,v=.tuple #[u0,.int .i64 r.2]∧RV w' u0 r.1∧Ext w0 w'):=by
 unfold scale_Share at hF
 have hz:=r0.sl; obtain ⟨a1,cq1,rfl,-,-,-⟩:=hz
 refine entr (n:=99) Tryz.func34 rfl rfl rfl<|Zr<|sal ti68 fun b4 w1 hx1 hg1 hb1=>?_
 have r4:=r0.ext hx1
 refine Za<|nl<|wp_seq<|Zr<|Zm<|?_
 have hz:=bs hF; obtain ⟨x4,Ex4,hF⟩:=hz
 refine Zc (xc cb95 (mc rfl mn)) (c95 r4 Ex4) ?_
 rintro _ w2 ⟨rfl,hx2⟩
 have k1:=hx1.tr hx2
 have hb2:=hb1.ext hx2
 have r5:=r4.ext hx2
 refine Za<|nl<|Zr<|Zm<|Zv (xneq rfl rfl)<|nl<|cnd rfl (fun h4=>?_) (fun h4=>?_)
 ·
  have hF:=ifp hF h4
  refine Zr<|Zv (xbdv (r:=[.bool false,.bool false]) ti68 sp68 pn rfl)<|Zm<|sst rfl rfl rfl ti68 hb2 rfl rfl (ble rfl) fun w3 hch1 hb3=>?_
  have k2:=Ext.chg k1 hch1 (Nat.le_trans (Nat.le_refl _) hg1)
  have hb4:Bx w3 b4 68 [.bool false,.bool false]:=hb3
  refine Za<|nl<|?_
  cases hF
  exact wp_ret<|rt rfl (.cell rfl rfl ti68 rfl (Bx.cs hb4) (.tmp rfl rfl .nil)) ⟨_,rfl,(show RV (α:=(Bool×Bool)) _ (.agg [.bool false,.bool false].toArray) (false,false) from ⟨_,rfl,⟨[.bool false],[.bool false],rfl,rfl,rfl⟩⟩),k2⟩
 ·
  have hF:=ifn hF h4
  refine wp_skip<|wp_seq<|Zr<|Zm<|Zm<|Zv (xmin rfl rfl)<|Zv (xlss rfl rfl)<|Zm<|Zg rfl rfl (gw0 rfl) (fun hc=>xmva rfl)<|Zg rfl rfl (gw0 rfl) (fun hc=>xmva rfl)<|Zg rfl rfl (gw0 rfl) (fun hc=>xmax (mv hc rfl) (mv hc rfl))<|Zg rfl rfl (gw0 rfl) (fun hc=>xmva rfl)<|Zg rfl rfl (gw0 rfl) (fun hc=>xlen (mv hc rfl) Tryz.underlying32)<|Zg rfl rfl (gw0 rfl) (fun hc=>xgeq (mv hc rfl) (mv hc rfl))<|Zv (xpo rfl rfl rfl)<|nl<|cnd rfl (fun h5=>?_) (fun h5=>?_)
  ·
   have hF:=ifp hF h5
   refine Zr<|Zv (xbdv (r:=[.bool false,.bool false]) ti68 sp68 pn rfl)<|sst rfl rfl rfl ti68 hb2 rfl rfl (ble rfl) fun w4 hch2 hb5=>?_
   have k3:=Ext.chg k1 hch2 (Nat.le_trans (Nat.le_refl _) hg1)
   have hb6:Bx w4 b4 68 [.bool false,.bool false]:=hb5
   refine Za<|nl<|?_
   cases hF
   exact wp_ret<|rt rfl (.cell rfl rfl ti68 rfl (Bx.cs hb6) (.tmp rfl rfl .nil)) ⟨_,rfl,(show RV (α:=(Bool×Bool)) _ (.agg [.bool false,.bool false].toArray) (false,false) from ⟨_,rfl,⟨[.bool false],[.bool false],rfl,rfl,rfl⟩⟩),k3⟩
  ·
   have hF:=ifn hF h5
   refine wp_skip<|wp_seq<|?_
   have hz:=bs hF; obtain ⟨y1,hB1,hF⟩:=hz
   refine ct (fun L w=>∃ v4:Value,L 9=v4∧PB 35 w2.heap.size w v4 y1∧L 0=.slice a1 x0.length cq1∧L 6=.pointer (some ⟨b4,0,none⟩)∧Ext w2 w) ?_ ?_
   ·
    have hz:=bs hB1; obtain ⟨x5,Ex5,hB1⟩:=hz
    have hz:=bs hB1; obtain ⟨x6,Ex6,hB1⟩:=hz
    have hz:=bs hB1; obtain ⟨x7,Ex7,hB1⟩:=hz
    refine wpl [] (.pure true 0 (.pure true 1 (.pure true 2 (.pure false 3 (.pure true 4 (.pure true 5 (.pure true 6 (.pure false 7 (.eff 8 (.eff 9 (.eff 10 .fin .stop) .stop) (.eff 9 (.eff 8 (.eff 10 .fin .stop) .stop) .stop)))))))))) mixed (by kernel_rfl) (fun w9 hx6=>?_)
    have k14:=k1.tr hx6
    refine Zn rfl<|Zn rfl<|?_
    have hz:=(RV.els r0).ix Ex5; obtain ⟨b7,f2,cs6,e2,i5,i6,q6,hc5⟩:=hz
    cases e2
    obtain ⟨_,_,rfl,rfl,rfl⟩:=q6
    have hc6:=hc5.ext k14
    refine Zp rfl (fun _=>xixs rfl rfl Tryz.underlying32 ti35 i5 i6)<|Zq rfl (fun _ hS=>xlda rfl ti35 rfl (hc6.ext (hS.resolve_left nofun))) (Ext.refl _)<|Zn rfl<|Zn rfl<|?_
    have hz:=ix2 r0 Ex6; obtain ⟨cs7,i7,i8,q7,hc7⟩:=hz
    obtain ⟨_,_,rfl,rfl,rfl⟩:=q7
    have hc8:=hc7.ext k14
    refine Zp rfl (fun _=>xixs rfl rfl Tryz.underlying32 ti35 i7 i8)<|Zq rfl (fun _ hS=>xlda rfl ti35 rfl (hc8.ext (hS.resolve_left nofun))) (Ext.refl _)<|?_
    refine pe rfl ?_ ?_
    ·
     refine Zc (xc cb115 (mc rfl (mc rfl mn))) (c115 (show RV (α:=(Int×Int)) _ (.agg [.int .i64 x5.1,.int .i64 x5.2].toArray) (x5.1,x5.2) from ⟨_,rfl,⟨[.int .i64 x5.1],[.int .i64 x5.2],rfl,rfl,rfl⟩⟩) (show RV (α:=(Int×Int)) _ (.agg [.int .i64 x6.1,.int .i64 x6.2].toArray) (x6.1,x6.2) from ⟨_,rfl,⟨[.int .i64 x6.1],[.int .i64 x6.2],rfl,rfl,rfl⟩⟩) Ex7) ?_
     rintro _ w10 ⟨u2,rfl,r13,hx7⟩
     have k16:=hx6.tr hx7
     have hz:=id r13; obtain ⟨_,rfl,⟨_,_,rfl,rfl,rfl⟩⟩:=hz
     refine nl ⟨fun _ _=>hx7,?_⟩
     refine pe1 rfl<|sal ti35 fun b8 w11 hx8 hg3 hb16=>?_
     have k18:=k16.tr hx8
     have k19:=hx7.tr hx8
     refine nl ⟨fun _ _=>k19,?_⟩
     refine pe1 rfl<|sst rfl rfl rfl ti35 hb16 rfl rfl (ble rfl) fun w12 hch4 hb18=>?_
     have k21:=Ext.chg k18 hch4 (Nat.le_trans k16.size hg3)
     have k22:=Ext.chg k19 hch4 (Nat.le_trans hx7.size hg3)
     have hb20:Bx w12 b8 35 [.int .i64 x7.1,.int .i64 x7.2]:=hb18
     refine nl ⟨fun _ _=>k22,?_⟩
     cases hB1
     refine lf<|?_
     exact ⟨_,rfl,⟨_,_,rfl,(Nat.le_trans k16.size hg3),hb20,⟨[.int .i64 x7.1],[.int .i64 x7.2],rfl,rfl,rfl⟩⟩,rfl,rfl,k21⟩
    refine pm rfl ?_ ?_
    ·
     refine sal ti35 fun b9 w13 hx9 hg4 hb21=>?_
     have k25:=hx6.tr hx9
     refine nl ⟨fun _ _=>hx9,?_⟩
     refine pe1 rfl<|Zc (xc cb115 (mc rfl (mc rfl mn))) (c115 (show RV (α:=(Int×Int)) _ (.agg [.int .i64 x5.1,.int .i64 x5.2].toArray) (x5.1,x5.2) from ⟨_,rfl,⟨[.int .i64 x5.1],[.int .i64 x5.2],rfl,rfl,rfl⟩⟩) (show RV (α:=(Int×Int)) _ (.agg [.int .i64 x6.1,.int .i64 x6.2].toArray) (x6.1,x6.2) from ⟨_,rfl,⟨[.int .i64 x6.1],[.int .i64 x6.2],rfl,rfl,rfl⟩⟩) Ex7) ?_
     rintro _ w14 ⟨u3,rfl,r19,hx10⟩
     have k27:=k25.tr hx10
     have k28:=hx9.tr hx10
     have hb24:=hb21.ext hx10
     have hz:=id r19; obtain ⟨_,rfl,⟨_,_,rfl,rfl,rfl⟩⟩:=hz
     refine nl ⟨fun _ _=>k28,?_⟩
     refine pe1 rfl<|sst rfl rfl rfl ti35 hb24 rfl rfl (ble rfl) fun w15 hch5 hb25=>?_
     have k30:=Ext.chg k27 hch5 (Nat.le_trans hx6.size hg4)
     have k31:=Ext.chg k28 hch5 (Nat.le_trans (Nat.le_refl _) hg4)
     have hb27:Bx w15 b9 35 [.int .i64 x7.1,.int .i64 x7.2]:=hb25
     refine nl ⟨fun _ _=>k31,?_⟩
     cases hB1
     refine lf<|?_
     exact ⟨_,rfl,⟨_,_,rfl,(Nat.le_trans hx6.size hg4),hb27,⟨[.int .i64 x7.1],[.int .i64 x7.2],rfl,rfl,rfl⟩⟩,rfl,rfl,k30⟩
    trivial
   rintro L w16 ⟨v4,l9_j1,P9_j1,l0_j1,l6_j1,K0_j1⟩
   have k32:=k1.tr K0_j1
   have r22:=r5.ext K0_j1
   have hb28:=hb2.ext K0_j1
   obtain ⟨b10,cs8,rfl,hg5,hb29,q8⟩:=P9_j1
   obtain ⟨_,_,rfl,rfl,rfl⟩:=q8
   refine wp_seq<|Zr<|Zv (xfa l9_j1 fa35_0)<|Zv (xld rfl ti2 ((Bx.cs hb29).at 0 rfl))<|Zv (xfa l9_j1 fa35_1)<|Zv (xld rfl ti2 ((Bx.cs hb29).at 1 rfl))<|Zv (xgtr rfl rfl)<|nl<|cnd rfl (fun h6=>?_) (fun h6=>?_)
   ·
    have hF:=ifp hF h6
    refine Zr<|Zv (xbdv (r:=[.bool false,.bool false]) ti68 sp68 pn rfl)<|sst l6_j1 rfl rfl ti68 hb28 rfl rfl (ble rfl) fun w17 hch6 hb30=>?_
    have k33:=Ext.chg k32 hch6 (Nat.le_trans (Nat.le_refl _) hg1)
    have hb31:Bx w17 b4 68 [.bool false,.bool false]:=hb30
    refine Za<|nl<|?_
    cases hF
    exact wp_ret<|rt rfl (.cell l6_j1 rfl ti68 rfl (Bx.cs hb31) (.tmp rfl rfl .nil)) ⟨_,rfl,(show RV (α:=(Bool×Bool)) _ (.agg [.bool false,.bool false].toArray) (false,false) from ⟨_,rfl,⟨[.bool false],[.bool false],rfl,rfl,rfl⟩⟩),k33⟩
   ·
    have hF:=ifn hF h6
    refine wp_skip<|Zr<|Zm<|?_
    have hz:=bs hF; obtain ⟨x8,Ex8,hF⟩:=hz
    refine Zc (xc cb96 (mc l0_j1 mn)) (c96 r22 Ex8) ?_
    rintro _ w18 ⟨u4,rfl,r23,hx11⟩
    have k34:=k32.tr hx11
    have hb32:=hb28.ext hx11
    have hb33:=hb29.ext hx11
    have r24:=r22.ext hx11
    have hz:=obPtr r23; obtain ⟨a2,rfl⟩:=hz
    refine Za<|nl<|Zr<|Zm<|Zv (xbdv (r:=[.int .i64 1,.int .i64 0]) ti35 sp35 (pc rfl pn) rfl)<|?_
    have hz:=bs hF; obtain ⟨x9,Ex9,hF⟩:=hz
    have hz:=obGet r23 Ex9; obtain ⟨b11,cs9,e3,q9,hc9⟩:=hz
    cases e3
    obtain ⟨a3,cq2,rfl,p1,q10,e4⟩:=q9
    have r25:=RV.of1 p1 q10 e4
    have hz:=bs hF; obtain ⟨x10,Ex10,hF⟩:=hz
    refine Zc (xc cb97 (mc rfl (mc rfl mn))) (c97 (x0:=(⟨x9.v⟩:(Uno (List ((Int×Int)×Int))))) hc9 r25.rep1 (show RV (α:=(Int×Int)) _ (.agg [.int .i64 1,.int .i64 0].toArray) (1,0) from ⟨_,rfl,⟨[.int .i64 1],[.int .i64 0],rfl,rfl,rfl⟩⟩) Ex10) ?_
    rintro _ w19 ⟨u5,u6,rfl,r26,r27,hx12⟩
    have k36:=k34.tr hx12
    have hb34:=hb32.ext hx12
    have hb35:=hb33.ext hx12
    have r28:=r24.ext hx12
    have r29:=r25.ext hx12
    have hc10:=hc9.ext hx12
    have hz:=RV.sl r26.rv; obtain ⟨a4,cq3,rfl,-,-,-⟩:=hz
    have hz:=RV.sl r27.rv; obtain ⟨a5,cq4,rfl,-,-,-⟩:=hz
    refine Zm<|Zv (xext rfl rfl)<|Zv (xext rfl rfl)<|Za<|Za<|nl<|Zr<|Zm<|Zv (xlen rfl Tryz.underlying28)<|Za<|nl<|wp_seq<|wpl [] (.pure true 0 (.pure true 1 (.pure false 2 (.pure true 3 (.pure false 4 (.pure true 5 (.pure false 6 (.pure true 10 (.eff 7 (.eff 8 (.eff 9 (.eff 11 (.pure true 12 (.pure true 13 (.pure true 14 (.pure true 15 (.pure true 16 .fin))))) .stop) .stop) .stop) .stop))))))))) mixed (by kernel_rfl) (fun w20 hx13=>?_)
    have k38:=k36.tr hx13
    have hb36:=hb34.ext hx13
    have hb37:=hb35.ext hx13
    have r30:=r28.ext hx13
    have r31:=r29.ext hx13
    have hc11:=hc10.ext hx13
    refine Zn rfl<|Zn rfl<|Zq rfl (fun _ hS=>xlen l0_j1 Tryz.underlying32) (Ext.refl _)<|Zn rfl<|Zq rfl (fun _ hS=>xlen l0_j1 Tryz.underlying32) (Ext.refl _)<|?_
    have r32:=RV.full r30
    refine Zp rfl (fun _=>xslf l0_j1 (RV.cap r30).2.1 Tryz.underlying32 ti35 rfl rfl)<|Zq rfl (fun _ hS=>xlda l9_j1 ti35 rfl (Bx.cs (hb37.ext (hS.resolve_left nofun)))) (Ext.refl _)<|Zp rfl (fun _=>xbdv (r:=[.int .i64 1,.int .i64 0]) ti35 sp35 (pc rfl pn) rfl)<|pe1 rfl<|sbsv (cs:=[.int .i64 y1.1,.int .i64 y1.2]) Tryz.underlying32 ti35 rfl (pc rfl pn) rfl rfl rfl rfl rfl fun b12 w21 hx14 hg6 hb38=>?_
    have k41:=k38.tr hx14
    have hb39:=hb36.ext hx14
    have hb40:=hb37.ext hx14
    have r33:=r31.ext hx14
    have hc12:=hc11.ext hx14
    have r34:=r32.ext hx14
    have o1:Row (α:=(Int×Int)) 35 w20.heap.size w21 (.slice (some ⟨b12,0,none⟩) 1 1) [(y1.1,y1.2)]:=Row.lit hg6 hb38 rfl (ble rfl)
    refine nl ⟨fun _ _=>hx14,?_⟩
    have hz:=bs hF; obtain ⟨x11,Ex11,hF⟩:=hz
    refine pe1 rfl<|sapf (l:=x0) (k:=([(y1.1,y1.2)]:List (Int×Int))) rfl rfl Tryz.underlying32 ti35 rfl rfl r34 o1.rv rfl Ex11 fun v5 w22 o2 hx15=>?_
    have k44:=k41.tr hx15
    have k47:=hx14.tr hx15
    have hb41:=hb39.ext hx15
    have hb42:=hb40.ext hx15
    have r36:=r33.ext hx15
    have hc13:=hc12.ext hx15
    have hz:=RV.sl o2.rv; obtain ⟨a6,cq5,rfl,-,-,-⟩:=hz
    refine nl ⟨fun _ _=>k47,?_⟩
    have hz:=bs hF; obtain ⟨x12,Ex12,hF⟩:=hz
    refine pe1 rfl<|Zc (xc cb96 (mc rfl mn)) (c96 o2.rv Ex12) ?_
    rintro _ w23 ⟨u7,rfl,r37,hx16⟩
    have k48:=k44.tr hx16
    have k51:=k47.tr hx16
    have hb43:=hb41.ext hx16
    have hb44:=hb42.ext hx16
    have r38:=r36.ext hx16
    have hc14:=hc13.ext hx16
    have hz:=obPtr r37; obtain ⟨a7,rfl⟩:=hz
    refine nl ⟨fun _ _=>k51,?_⟩
    have hz:=bs hF; obtain ⟨x13,Ex13,hF⟩:=hz
    have hz:=obGet r37 Ex13; obtain ⟨b13,cs10,e5,q11,hc15⟩:=hz
    cases e5
    obtain ⟨a8,cq6,rfl,p2,q12,e6⟩:=q11
    have r39:=RV.of1 p2 q12 e6
    have hz:=bs hF; obtain ⟨x14,Ex14,hF⟩:=hz
    refine pe1 rfl<|Zc (xc cb97 (mc rfl (mc rfl mn))) (c97 (x0:=(⟨x13.v⟩:(Uno (List ((Int×Int)×Int))))) hc15 r39.rep1 (show RV (α:=(Int×Int)) _ (.agg [.int .i64 1,.int .i64 0].toArray) (1,0) from ⟨_,rfl,⟨[.int .i64 1],[.int .i64 0],rfl,rfl,rfl⟩⟩) Ex14) ?_
    rintro _ w24 ⟨u8,u9,rfl,r40,r41,hx17⟩
    have k53:=k48.tr hx17
    have k56:=k51.tr hx17
    have hb45:=hb43.ext hx17
    have hb46:=hb44.ext hx17
    have r42:=r38.ext hx17
    have hc16:=hc14.ext hx17
    have hz:=RV.sl r40.rv; obtain ⟨a9,cq7,rfl,-,-,-⟩:=hz
    have hz:=RV.sl r41.rv; obtain ⟨a10,cq8,rfl,-,-,-⟩:=hz
    refine nl ⟨fun _ _=>k56,?_⟩
    refine Zn rfl<|Zp rfl (fun _=>xext rfl rfl)<|Zp rfl (fun _=>xext rfl rfl)<|Zp rfl (fun _=>xas)<|Zp rfl (fun _=>xas)<|Zr<|Zm<|Zv (xlda l9_j1 ti35 rfl (Bx.cs hb46))<|?_
    have hz:=bs hF; obtain ⟨x15,Ex15,hF⟩:=hz
    refine Zc (xc cb97 (mc rfl (mc rfl mn))) (c97 (x0:=(⟨x9.v⟩:(Uno (List ((Int×Int)×Int))))) hc16 r42.rep1 (show RV (α:=(Int×Int)) _ (.agg [.int .i64 y1.1,.int .i64 y1.2].toArray) (y1.1,y1.2) from ⟨_,rfl,⟨[.int .i64 y1.1],[.int .i64 y1.2],rfl,rfl,rfl⟩⟩) Ex15) ?_
    rintro _ w25 ⟨u10,u11,rfl,r43,r44,hx18⟩
    have k58:=k53.tr hx18
    have hb47:=hb45.ext hx18
    have hz:=RV.sl r43.rv; obtain ⟨a11,cq9,rfl,-,-,-⟩:=hz
    have hz:=RV.sl r44.rv; obtain ⟨a12,cq10,rfl,-,-,-⟩:=hz
    refine Zm<|Zv (xext rfl rfl)<|Zv (xext rfl rfl)<|Za<|Za<|nl<|Zr<|Zm<|Zv (xlen rfl Tryz.underlying28)<|Zm<|Zv (xeql rfl rfl)<|Zm<|Zv (xlen rfl Tryz.underlying41)<|Zm<|Zv (xlen rfl Tryz.underlying28)<|Zv (xlss rfl rfl)<|Zm<|Zg rfl rfl (gw0 rfl) (fun hc=>xmva rfl)<|Zg rfl rfl (gw0 rfl) (fun hc=>xlen (mv hc rfl) Tryz.underlying28)<|Zg rfl rfl (gw0 rfl) (fun hc=>xmva rfl)<|Zg rfl rfl (gw0 rfl) (fun hc=>xgtr (mv hc rfl) (mv hc rfl))<|Zv (xpo rfl rfl rfl)<|Zv (xbdv (r:=[.bool (decide ((x14.1.length:Int)=(x10.1.length:Int))),.bool ((decide ((x15.2.length:Int)<(x15.1.length:Int))) || (decide ((x10.1.length:Int)<(x15.1.length:Int))))]) ti68 sp68 (pc rfl (pc rfl pn)) rfl)<|sst l6_j1 rfl rfl ti68 hb47 rfl rfl (ble rfl) fun w26 hch7 hb48=>?_
    have k64:=Ext.chg k58 hch7 (Nat.le_trans (Nat.le_refl _) hg1)
    have hb49:Bx w26 b4 68 [.bool (decide ((x14.1.length:Int)=(x10.1.length:Int))),.bool ((decide ((x15.2.length:Int)<(x15.1.length:Int))) || (decide ((x10.1.length:Int)<(x15.1.length:Int))))]:=hb48
    refine Za<|nl<|?_
    cases hF
    exact wp_ret<|rt rfl (.cell l6_j1 rfl ti68 rfl (Bx.cs hb49) (.tmp rfl rfl .nil)) ⟨_,rfl,(show RV (α:=(Bool×Bool)) _ (.agg [.bool (decide ((x14.1.length:Int)=(x10.1.length:Int))),.bool ((decide ((x15.2.length:Int)<(x15.1.length:Int))) || (decide ((x10.1.length:Int)<(x15.1.length:Int))))].toArray) (decide ((x14.1.length:Int)=(x10.1.length:Int)),(decide ((x15.2.length:Int)<(x15.1.length:Int))) || (decide ((x10.1.length:Int)<(x15.1.length:Int)))) from ⟨_,rfl,⟨[.bool (decide ((x14.1.length:Int)=(x10.1.length:Int)))],[.bool ((decide ((x15.2.length:Int)<(x15.1.length:Int))) || (decide ((x10.1.length:Int)<(x15.1.length:Int))))],rfl,rfl,rfl⟩⟩),k64⟩
theorem c191 {w0:World} {v0:Value} {x0:(List (Int×Int))} (r0:RV w0 v0 x0) {F:Nat} {r:((List (Int×Int))×Int)} (hF:scale_Spans F x0=some r) :
  Calls Tryz.prog 191 [v0].toArray w0 (Ret fun v w'=>∃ u0:Value,v=.tuple #[u0,.int .i64 r.2]∧RV w' u0 r.1∧Ext w0 w'):=by
 unfold scale_Spans at hF
 have hz:=r0.sl; obtain ⟨a1,cq1,rfl,-,-,-⟩:=hz
 refine entr (n:=70) Tryz.func191 rfl rfl rfl<|Zr<|Za<|Za<|nl<|wp_seq<|Zr<|Zm<|?_
 have hz:=bs hF; obtain ⟨x2,Ex2,hF⟩:=hz
 refine Zc (xc cb95 (mc rfl mn)) (c95 r0 Ex2) ?_
 rintro _ w1 ⟨rfl,hx1⟩
 have r2:=r0.ext hx1
 refine Za<|nl<|Zr<|Zm<|Zv (xneq rfl rfl)<|nl<|cnd rfl (fun h2=>?_) (fun h2=>?_)
 ·
  have hF:=ifp hF h2
  refine Zr<|Zm<|Za<|Za<|nl<|?_
  cases hF
  exact wp_ret<|rt rfl (.tmp rfl rfl (.tmp rfl rfl .nil)) ⟨_,rfl,(RVo.nil (Nat.zero_le _)),hx1⟩
 ·
  have hF:=ifn hF h2
  refine wp_skip<|Zr<|Zm<|?_
  have hz:=bs hF; obtain ⟨x3,Ex3,hF⟩:=hz
  refine Zc (xc cb96 (mc rfl mn)) (c96 r2 Ex3) ?_
  rintro _ w2 ⟨u1,rfl,r3,hx2⟩
  have k1:=hx1.tr hx2
  have hz:=obPtr r3; obtain ⟨a2,rfl⟩:=hz
  refine Zv (xbdv (r:=[.int .i64 1,.int .i64 0]) ti35 sp35 (pc rfl pn) rfl)<|?_
  have hz:=bs hF; obtain ⟨x4,Ex4,hF⟩:=hz
  have hz:=obGet r3 Ex4; obtain ⟨b2,cs2,e1,q2,hc1⟩:=hz
  cases e1
  obtain ⟨a3,cq2,rfl,p1,q3,e2⟩:=q2
  have r5:=RV.of1 p1 q3 e2
  have hz:=bs hF; obtain ⟨x5,Ex5,hF⟩:=hz
  refine Zc (xc cb97 (mc rfl (mc rfl mn))) (c97 (x0:=(⟨x4.v⟩:(Uno (List ((Int×Int)×Int))))) hc1 r5.rep1 (show RV (α:=(Int×Int)) _ (.agg [.int .i64 1,.int .i64 0].toArray) (1,0) from ⟨_,rfl,⟨[.int .i64 1],[.int .i64 0],rfl,rfl,rfl⟩⟩) Ex5) ?_
  rintro _ w3 ⟨u2,u3,rfl,r6,r7,hx3⟩
  have k2:=k1.tr hx3
  have hz:=RV.sl r6.rv; obtain ⟨a4,cq3,rfl,-,-,-⟩:=hz
  have hz:=RV.sl r7.rv; obtain ⟨a5,cq4,rfl,-,-,-⟩:=hz
  refine Zm<|Zv (xext rfl rfl)<|Zv (xext rfl rfl)<|Za<|Za<|nl<|Zr<|Za<|nl<|wp_seq<|Zr<|Zm<|Zv (xlen rfl Tryz.underlying32)<|Zm<|nl<|?_
  have o1:Row (α:=(Int×Int)) 35 w3.heap.size w3 (.slice none 0 0) []:=Row.nil
  have hz:=bs hF; obtain ⟨z1,hB1,hF⟩:=hz
  refine ct (fun L w=>∃ v3:Value,L 7=v3∧Row 35 w3.heap.size w v3 z1∧Apart (v3) (.slice a4 x5.1.length cq3)∧L 5=.slice a4 x5.1.length cq3∧w2.heap.size≤w.heap.size∧Ext w3 w) ?_ ?_
  ·
   refine wp_block<|lp (I:=fun m L w=>∃ y1:(List (Int×Int)),∃ y2:Int,∃ v2:Value,scale_Spans_l1 F x0 m y1 y2 =some z1∧L 7=v2∧Row 35 w3.heap.size w v2 y1∧L 28=.int .i64 y2∧Apart (v2) (.slice a4 x5.1.length cq3)∧L 5=.slice a4 x5.1.length cq3∧L 26=.slice a1 x0.length cq1∧L 27=.int .i64 (x0.length:Int)∧w2.heap.size≤w.heap.size∧Ext w3 w) F ⟨_,_,_,hB1,rfl,o1,rfl,(Apart.symm (Apart.old' r6.own_lt (fun q e=>(o1.lt q e).1))),rfl,rfl,rfl,hx3.size,(Ext.refl _)⟩ ?_
   rintro m L w4 ⟨y1,y2,v2,hB1,l7_i1,O7_i1,l28_i1,X0_i1,l5_i1,l26_i1,l27_i1,Z0_i1,K0_i1⟩
   rcases m with _ | m
   ·rw [scale_Spans_l1] at hB1; cases hB1
   rw [scale_Spans_l1] at hB1
   have k3:=k2.tr K0_i1
   have r9:=r6.ext K0_i1
   have hz:=RV.sl O7_i1.rv; obtain ⟨a6,cq5,rfl,-,-,-⟩:=hz
   refine Zr<|Zv (xlss l28_i1 l27_i1)<|nl<|wp_seq<|cnd rfl (fun h3=>?_) (fun h3=>?_)
   ·
    have hB1:=ifp hB1 h3
    refine wp_skip<|wp_seq<|wp_block<|Zr<|?_
    have hz:=bs hB1; obtain ⟨x6,Ex6,hB1⟩:=hz
    have hz:=(RV.els r0).ix Ex6; obtain ⟨b3,f1,cs3,e3,i2,i3,q4,hc2⟩:=hz
    cases e3
    obtain ⟨_,_,rfl,rfl,rfl⟩:=q4
    have hc3:=hc2.ext k3
    refine Zv (xixs l26_i1 l28_i1 Tryz.underlying32 ti35 i2 i3)<|Zv (xlda rfl ti35 rfl hc3)<|sal ti35 fun b4 w5 hx4 hg1 hb1=>?_
    have k7:=K0_i1.tr hx4
    have zs1:=Nat.le_trans Z0_i1 hx4.size
    refine sst rfl rfl rfl ti35 hb1 rfl rfl (ble rfl) fun w6 hch1 hb2=>?_
    have k10:=Ext.chg k7 hch1 (Nat.le_trans K0_i1.size hg1)
    have k11:=Ext.chg hx4 hch1 (Nat.le_trans (Nat.le_refl _) hg1)
    have zs2:=Nat.le_trans zs1 (Nat.le_of_eq hch1.size.symm)
    have r13:=r9.ext k11
    have O2:=O7_i1.ext k11
    have hb3:Bx w6 b4 35 [.int .i64 x6.1,.int .i64 x6.2]:=hb2
    refine nl<|rg<|Zm<|Zv (xlda rfl ti35 rfl (Bx.cs hb3))<|?_
    have hz:=bs hB1; obtain ⟨x7,Ex7,hB1⟩:=hz
    refine Zc (xc cb274 (mc rfl mn)) (c274 (show RV (α:=(Int×Int)) _ (.agg [.int .i64 x6.1,.int .i64 x6.2].toArray) (x6.1,x6.2) from ⟨_,rfl,⟨[.int .i64 x6.1],[.int .i64 x6.2],rfl,rfl,rfl⟩⟩) Ex7) ?_
    rintro _ w7 ⟨u4,rfl,r15,hx5⟩
    have k14:=k10.tr hx5
    have zs3:=Nat.le_trans zs2 hx5.size
    have r16:=r13.ext hx5
    have O3:=O2.ext hx5
    have hz:=id r15; obtain ⟨_,rfl,⟨_,_,rfl,rfl,rfl⟩⟩:=hz
    refine sbsv (cs:=[.int .i64 x7.1,.int .i64 x7.2]) Tryz.underlying32 ti35 rfl (pc rfl pn) rfl rfl rfl rfl rfl fun b5 w8 hx6 hg2 hb4=>?_
    have k18:=k14.tr hx6
    have zs4:=Nat.le_trans zs3 hx6.size
    have r18:=r16.ext hx6
    have O4:=O3.ext hx6
    have o3:Row (α:=(Int×Int)) 35 w7.heap.size w8 (.slice (some ⟨b5,0,none⟩) 1 1) [x7]:=Row.lit hg2 hb4 rfl (ble rfl)
    have hz:=bs hB1; obtain ⟨x8,Ex8,hB1⟩:=hz
    refine sapx (l:=y1) (k:=([x7]:List (Int×Int))) l7_i1 rfl Tryz.underlying32 ti35 rfl rfl O4 (RV.els o3.rv) Ex8 k18.size fun v4 w9 o4 hB3 hgr1 how1=>?_
    have k22:Ext w3 w9:=k18.trans hB3
    have X1:=Apart.app how1 X0_i1 r18.own_lt
    have zs5:=Nat.le_trans zs4 hgr1.size
    have hz:=RV.sl o4.rv; obtain ⟨a7,cq6,rfl,-,-,-⟩:=hz
    refine Za<|nl<|rg<|Zv (xadd l28_i1 rfl)<|Zm<|nl<|?_
    refine lq m (Nat.lt_succ_self _)<|?_
    exact ⟨_,_,_,hB1,rfl,o4,rfl,X1,l5_i1,l26_i1,l27_i1,zs5,k22⟩
   ·
    have hB1:=ifn hB1 h3
    refine wp_exit<|?_
    cases hB1
    refine lf<|?_
    exact ⟨_,l7_i1,O7_i1,X0_i1,l5_i1,Z0_i1,K0_i1⟩
  rintro L w10 ⟨v3,l7_j1,O7_j1,X0_j1,l5_j1,Z0_j1,K0_j1⟩
  have k23:=k2.tr K0_j1
  have r23:=r6.ext K0_j1
  have hz:=RV.sl O7_j1.rv; obtain ⟨a8,cq7,rfl,-,-,-⟩:=hz
  refine Zr<|Zm<|?_
  have hz:=bs hF; obtain ⟨x9,Ex9,hF⟩:=hz
  refine Zc (xc cb96 (mc l7_j1 mn)) (c96 O7_j1.rv Ex9) ?_
  rintro _ w11 ⟨u5,rfl,r24,hx7⟩
  have k25:=k23.tr hx7
  have zs6:=Nat.le_trans Z0_j1 hx7.size
  have r25:=r23.ext hx7
  have hz:=obPtr r24; obtain ⟨a9,rfl⟩:=hz
  refine Zv (xbdv (r:=[.int .i64 1,.int .i64 0]) ti35 sp35 (pc rfl pn) rfl)<|?_
  have hz:=bs hF; obtain ⟨x10,Ex10,hF⟩:=hz
  have hz:=obGet r24 Ex10; obtain ⟨b6,cs4,e4,q5,hc4⟩:=hz
  cases e4
  obtain ⟨a10,cq8,rfl,p2,q6,e5⟩:=q5
  have r26:=RV.of1 p2 q6 e5
  have hz:=bs hF; obtain ⟨x11,Ex11,hF⟩:=hz
  refine Zc (xc cb97 (mc rfl (mc rfl mn))) (c97 (x0:=(⟨x10.v⟩:(Uno (List ((Int×Int)×Int))))) hc4 r26.rep1 (show RV (α:=(Int×Int)) _ (.agg [.int .i64 1,.int .i64 0].toArray) (1,0) from ⟨_,rfl,⟨[.int .i64 1],[.int .i64 0],rfl,rfl,rfl⟩⟩) Ex11) ?_
  rintro _ w12 ⟨u6,u7,rfl,r27,r28,hx8⟩
  have k28:=k25.tr hx8
  have zs7:=Nat.le_trans zs6 hx8.size
  have hz:=RV.sl r27.rv; obtain ⟨a11,cq9,rfl,-,-,-⟩:=hz
  have hz:=RV.sl r28.rv; obtain ⟨a12,cq10,rfl,-,-,-⟩:=hz
  refine Zm<|Zv (xext rfl rfl)<|Zv (xext rfl rfl)<|Za<|Za<|nl<|Zr<|Zm<|?_
  have hz:=bs hF; obtain ⟨x12,Ex12,hF⟩:=hz
  refine Zc (xc cb275 (mc rfl mn)) (c275g hx8.size r27 Ex12) ?_
  rintro _ w13 ⟨rfl,o5,hB5,hgr2⟩
  have k31:=Ext.grow k28 k25.size hB5
  have k34:Ext w11 w13:=hx8.trans hB5
  have zs8:=Nat.le_trans zs7 hgr2.size
  have r30:=r25.ext k34
  refine nl<|Zr<|Zm<|Zv (xlen l5_j1 Tryz.underlying28)<|?_
  have hz:=bs hF; obtain ⟨x13,Ex13,hF⟩:=hz
  refine smks (α:=(Int×Int)) (z0:=(0,0)) rfl rfl Tryz.underlying32 ti35 rfl rfl rfl Ex13 fun b7 w14 hx9 o6=>?_
  have k38:=k34.tr hx9
  have zs9:=Nat.le_trans zs8 hx9.size
  refine Za<|nl<|wp_seq<|Zr<|Zm<|Zv (xlen rfl Tryz.underlying32)<|Zm<|nl<|?_
  have hz:=bs hF; obtain ⟨z2,hB6,hF⟩:=hz
  refine ct (fun L w=>∃ v6:Value,L 12=v6∧Row 35 w13.heap.size w v6 z2∧Apart (v6) (.slice a4 x5.1.length cq3)∧Apart (v6) (.slice a11 x11.1.length cq9)∧w2.heap.size≤w.heap.size∧w11.heap.size≤w.heap.size∧Ext w13 w) ?_ ?_
  ·
   refine wp_block<|lp (I:=fun m L w=>∃ y3:(List (Int×Int)),∃ y4:Int,∃ v5:Value,scale_Spans_l2 F x5 x12 x13 m y3 y4 =some z2∧L 12=v5∧Row 35 w13.heap.size w v5 y3∧L 52=.int .i64 y4∧Apart (v5) (.slice a4 x5.1.length cq3)∧Apart (v5) (.slice a11 x11.1.length cq9)∧L 5=.slice a4 x5.1.length cq3∧L 10=.slice a11 x11.1.length cq9∧L 51=.int .i64 (x13.length:Int)∧w2.heap.size≤w.heap.size∧w11.heap.size≤w.heap.size∧Ext w13 w) F ⟨_,_,_,hB6,rfl,o6,rfl,(Apart.symm (Apart.old' r30.own_lt (fun q e=>(o6.lt q e).1))),(Apart.symm (Apart.old' o5.own_lt (fun q e=>(o6.lt q e).1))),l5_j1,rfl,rfl,zs9,k38.size,hx9⟩ ?_
   rintro m L w15 ⟨y3,y4,v5,hB6,l12_i4,O12_i4,l52_i4,X0_i4,X1_i4,l5_i4,l10_i4,l51_i4,Z0_i4,Z1_i4,K0_i4⟩
   rcases m with _ | m
   ·rw [scale_Spans_l2] at hB6; cases hB6
   rw [scale_Spans_l2] at hB6
   have r32:=r30.ext K0_i4
   have o9:=o5.ext K0_i4
   have hz:=RV.sl O12_i4.rv; obtain ⟨a13,cq11,rfl,-,-,-⟩:=hz
   refine Zr<|Zv (xlss l52_i4 l51_i4)<|nl<|wp_seq<|cnd rfl (fun h4=>?_) (fun h4=>?_)
   ·
    have hB6:=ifp hB6 h4
    refine wp_skip<|wp_seq<|wp_block<|Zr<|Zm<|Za<|nl<|wpl [13] (.pure true 0 (.pure true 1 (.pure true 2 (.pure true 3 (.pure true 4 (.pure false 5 (.pure true 6 (.pure true 7 (.pure true 8 (.pure true 9 (.pure false 10 (.pure true 11 (.pure true 12 (.eff 13 .fin .stop)))))))))))))) mixed (by kernel_rfl) (fun w16 hx10=>?_)
    have k47:=K0_i4.tr hx10
    have zs10:=Nat.le_trans Z0_i4 hx10.size
    have zs11:=Nat.le_trans Z1_i4 hx10.size
    have r33:=r32.ext hx10
    have o10:=o9.ext hx10
    have O5:=O12_i4.ext hx10
    refine Zn rfl<|Zn rfl<|Zn rfl<|Zn rfl<|?_
    have hz:=bs hB6; obtain ⟨x14,Ex14,hB6⟩:=hz
    have hz:=(RV.els o10.rv).ix Ex14; obtain ⟨b8,f2,cs5,e6,i5,i6,q7,hc5⟩:=hz
    cases e6
    obtain rfl:=q7
    have i7:y4<(x11.1.length:Int):=by rw [(RV.cap o10.rv).1]; exact i6
    refine Zp rfl (fun _=>xixs l10_i4 l52_i4 Tryz.underlying28 ti2 i5 i7)<|Zq rfl (fun _ hS=>xld rfl ti2 ((hc5.ext (hS.resolve_left nofun)).at 0 rfl)) (Ext.refl _)<|Zp rfl (fun _=>xsub rfl rfl)<|Zn rfl<|Zn rfl<|?_
    have hz:=bs hB6; obtain ⟨x15,Ex15,hB6⟩:=hz
    have hz:=(RV.els r33.rv).ix Ex15; obtain ⟨b9,f3,cs6,e7,i8,i9,q8,hc6⟩:=hz
    cases e7
    obtain rfl:=q8
    refine Zp rfl (fun _=>xixs l5_i4 l52_i4 Tryz.underlying28 ti2 i8 i9)<|Zq rfl (fun _ hS=>xld rfl ti2 ((hc6.ext (hS.resolve_left nofun)).at 0 rfl)) (Ext.refl _)<|Zp rfl (fun _=>xbdv (r:=[.int .i64 (w64 (10000 - x14)),.int .i64 x15]) ti35 sp35 (pc rfl (pc rfl pn)) rfl)<|?_
    have hz:=bs hB6; obtain ⟨x16,Ex16,hB6⟩:=hz
    have hz:=(RV.els O5.rv).ix Ex16; obtain ⟨b10,f4,cs7,e8,i10,i11,q9,hc7⟩:=hz
    cases e8
    obtain ⟨_,_,rfl,rfl,rfl⟩:=q9
    refine Zp rfl (fun _=>xixs l12_i4 l52_i4 Tryz.underlying32 ti35 i10 i11)<|pe1 rfl<|sstr (l:=y3) (v:=(w64 (10000 - x14),x15)) rfl rfl rfl ti35 O5 Ex16 fun w17 hch2 o11=>?_
    have k52:=Ext.chg k47 hch2 (Nat.le_trans (Nat.le_refl _) (Row.ge O5))
    have zs12:=Nat.le_trans zs10 (Nat.le_of_eq hch2.size.symm)
    have zs13:=Nat.le_trans zs11 (Nat.le_of_eq hch2.size.symm)
    refine nl ⟨fun h=>(h (by decide)).elim,?_⟩
    refine rg<|Zv (xadd l52_i4 rfl)<|Zm<|nl<|?_
    refine lq m (Nat.lt_succ_self _)<|?_
    exact ⟨_,_,_,hB6,l12_i4,o11,rfl,(Apart.symm (Apart.old' r30.own_lt (fun q e=>(o11.lt q e).1))),(Apart.symm (Apart.old' o5.own_lt (fun q e=>(o11.lt q e).1))),l5_i4,l10_i4,l51_i4,zs12,zs13,k52⟩
   ·
    have hB6:=ifn hB6 h4
    refine wp_exit<|?_
    cases hB6
    refine lf<|?_
    exact ⟨_,l12_i4,O12_i4,X0_i4,X1_i4,Z0_i4,Z1_i4,K0_i4⟩
  rintro L w18 ⟨v6,l12_j2,O12_j2,X0_j2,X1_j2,Z0_j2,Z1_j2,K0_j2⟩
  have k53:=k31.tr K0_j2
  have hz:=RV.sl O12_j2.rv; obtain ⟨a14,cq12,rfl,-,-,-⟩:=hz
  refine Zr<|Zm<|Za<|Za<|nl<|?_
  cases hF
  exact wp_ret<|rt rfl (.tmp l12_j2 rfl (.tmp rfl rfl .nil)) ⟨_,rfl,O12_j2.rv,k53⟩
end Go.Proofs.YtfmelbioccbdoaaGreat
end
section
namespace Go.Proofs.YtfmelbioccbdoaaGreat
open Go Go.Md Go.RowKit
attribute [local irreducible] Go.wpList Go.Code.wp Go.Calls Go.Md.Rnd Go.Md.Mt Go.Md.MtM Go.Md.RndM Go.Code.wpIn
theorem c211 {w0:World} {v0:Value} {x0:(Int×Int)} (r0:RV w0 v0 x0) {x1:Int} {x2:Int} {r:Bool} (hF:ref02_valid x0 x1 x2=some r) :
  Calls Tryz.prog 211 [v0,.int .i64 x1,.int .i64 x2].toArray w0 (Ret fun v w'=>v=.bool r∧Ext w0 w'):=by
 unfold ref02_valid at hF
 have hz:=id r0; obtain ⟨_,rfl,⟨_,_,rfl,rfl,rfl⟩⟩:=hz
 refine entr (n:=24) Tryz.func211 rfl rfl rfl<|Zr<|sbx rfl rfl fun b4 w1 hx1 hg1 hb1=>?_
 refine Za<|nl<|Zr<|Zv (xfa rfl fa35_0)<|Zv (xld rfl ti2 ((Bx.cs hb1).at 0 rfl))<|Zm<|Zv (xgeq rfl rfl)<|Zm<|Zg rfl rfl (gw1 rfl) (fun hc=>xfa rfl fa35_0)<|Zg rfl rfl (gw1 rfl) (fun hc=>xld (mv hc rfl) ti2 ((Bx.cs hb1).at 0 rfl))<|Zg rfl rfl (gw1 rfl) (fun hc=>xfa rfl fa35_1)<|Zg rfl rfl (gw1 rfl) (fun hc=>xld (mv hc rfl) ti2 ((Bx.cs hb1).at 1 rfl))<|Zg rfl rfl (gw1 rfl) (fun hc=>xleq (mv hc rfl) (mv hc rfl))<|Zv (xpa rfl rfl rfl)<|Zm<|Zg rfl rfl (gw1 rfl) (fun hc=>xfa rfl fa35_1)<|Zg rfl rfl (gw1 rfl) (fun hc=>xld (mv hc rfl) ti2 ((Bx.cs hb1).at 1 rfl))<|Zg rfl rfl (gw1 rfl) (fun hc=>xmva rfl)<|Zg rfl rfl (gw1 rfl) (fun hc=>xleq (mv hc rfl) (mv hc rfl))<|Zv (xpa rfl rfl rfl)<|Za<|nl<|?_
 cases hF
 exact wp_ret<|rt rfl (.tmp rfl rfl .nil) ⟨rfl,hx1⟩
theorem c271 {w0:World} {x0:Int} {x1:Int} {x2:Bool} {r:((((Int×Int)×Int)×((Int×Int)×Int))×Bool)} (hF:law02_Piece x0 x1 x2=some r) :
  Calls Tryz.prog 271 [.int .i64 x0,.int .i64 x1,.bool x2].toArray w0 (Ret fun v w'=>∃ u0:Value,v=u0∧RV w' u0 r∧Ext w0 w'):=by
 unfold law02_Piece at hF
 refine entr (n:=18) Tryz.func271 rfl rfl rfl<|Zr<|sal ti176 fun b4 w1 hx1 hg1 hb1=>?_
 refine nl<|Zr<|Zm<|Zm<|Zv (xbdv (r:=[.int .i64 x0,.int .i64 x0]) ti35 sp35 (pc rfl (pc rfl pn)) rfl)<|Zv (xbdv (r:=[.int .i64 x0,.int .i64 x0,.int .i64 0]) ti173 sp173 (pc rfl pn) rfl)<|Zm<|Zm<|Zv (xbdv (r:=[.int .i64 x1,.int .i64 x1]) ti35 sp35 (pc rfl (pc rfl pn)) rfl)<|Zv (xbdv (r:=[.int .i64 x1,.int .i64 x1,.int .i64 0]) ti173 sp173 (pc rfl pn) rfl)<|Zv (xbdav (r:=[.int .i64 x0,.int .i64 x0,.int .i64 0,.int .i64 x1,.int .i64 x1,.int .i64 0]) ti174 Tryz.underlying174 ti173 (pc rfl (pc rfl pn)) rfl)<|Zm<|Zv (xbdv (r:=[.int .i64 x0,.int .i64 x0,.int .i64 0,.int .i64 x1,.int .i64 x1,.int .i64 0,.bool x2]) ti176 sp176 (pc rfl (pc rfl pn)) rfl)<|sst rfl rfl rfl ti176 hb1 rfl rfl (ble rfl) fun w2 hch1 hb2=>?_
 have k1:=Ext.chg hx1 hch1 (Nat.le_trans (Nat.le_refl _) hg1)
 have hb3:Bx w2 b4 176 [.int .i64 x0,.int .i64 x0,.int .i64 0,.int .i64 x1,.int .i64 x1,.int .i64 0,.bool x2]:=hb2
 refine nl<|?_
 cases hF
 exact wp_ret<|rt rfl (.cell rfl rfl ti176 rfl (Bx.cs hb3) .nil) ⟨_,rfl,(show RV (α:=((((Int×Int)×Int)×((Int×Int)×Int))×Bool)) _ (.agg [.int .i64 x0,.int .i64 x0,.int .i64 0,.int .i64 x1,.int .i64 x1,.int .i64 0,.bool x2].toArray) ((((x0,x0),0),((x1,x1),0)),x2) from ⟨_,rfl,⟨[.int .i64 x0]++[.int .i64 x0]++[.int .i64 0]++([.int .i64 x1]++[.int .i64 x1]++[.int .i64 0]),[.bool x2],rfl,⟨[.int .i64 x0]++[.int .i64 x0]++[.int .i64 0],[.int .i64 x1]++[.int .i64 x1]++[.int .i64 0],rfl,⟨[.int .i64 x0]++[.int .i64 x0],[.int .i64 0],rfl,⟨[.int .i64 x0],[.int .i64 x0],rfl,rfl,rfl⟩,rfl⟩,⟨[.int .i64 x1]++[.int .i64 x1],[.int .i64 0],rfl,⟨[.int .i64 x1],[.int .i64 x1],rfl,rfl,rfl⟩,rfl⟩⟩,rfl⟩⟩),k1⟩
theorem c182 {w0:World}  {r:((List ((((Int×Int)×Int)×((Int×Int)×Int))×Bool))×Int×(Int×Int))} (hF:law02_Cracked=some r) :
  Calls Tryz.prog 182 [].toArray w0 (Ret fun v w'=>∃ u0:Value,v=u0∧RV w' u0 r∧Ext w0 w'):=by
 unfold law02_Cracked at hF
 refine entr (n:=7) Tryz.func182 rfl rfl rfl<|Zr<|sal ti48 fun b1 w1 hx1 hg1 hb1=>?_
 refine nl<|Zr<|?_
 have hz:=bs hF; obtain ⟨x1,Ex1,hF⟩:=hz
 refine Zc (xc cb271 (mc rfl (mc rfl (mc rfl mn)))) (c271 Ex1) ?_
 rintro _ w2 ⟨u1,rfl,r1,hx2⟩
 have k1:=hx1.tr hx2
 have hb2:=hb1.ext hx2
 have hz:=id r1; obtain ⟨_,rfl,⟨_,_,rfl,⟨_,_,rfl,⟨_,_,rfl,⟨_,_,rfl,rfl,rfl⟩,rfl⟩,⟨_,_,rfl,⟨_,_,rfl,rfl,rfl⟩,rfl⟩⟩,rfl⟩⟩:=hz
 have hz:=bs hF; obtain ⟨x2,Ex2,hF⟩:=hz
 refine Zc (xc cb271 (mc rfl (mc rfl (mc rfl mn)))) (c271 Ex2) ?_
 rintro _ w3 ⟨u2,rfl,r2,hx3⟩
 have k2:=k1.tr hx3
 have hb3:=hb2.ext hx3
 have hz:=id r2; obtain ⟨_,rfl,⟨_,_,rfl,⟨_,_,rfl,⟨_,_,rfl,⟨_,_,rfl,rfl,rfl⟩,rfl⟩,⟨_,_,rfl,⟨_,_,rfl,rfl,rfl⟩,rfl⟩⟩,rfl⟩⟩:=hz
 have hz:=bs hF; obtain ⟨x3,Ex3,hF⟩:=hz
 refine Zc (xc cb271 (mc rfl (mc rfl (mc rfl mn)))) (c271 Ex3) ?_
 rintro _ w4 ⟨u3,rfl,r4,hx4⟩
 have k3:=k2.tr hx4
 have hb4:=hb3.ext hx4
 have hz:=id r4; obtain ⟨_,rfl,⟨_,_,rfl,⟨_,_,rfl,⟨_,_,rfl,⟨_,_,rfl,rfl,rfl⟩,rfl⟩,⟨_,_,rfl,⟨_,_,rfl,rfl,rfl⟩,rfl⟩⟩,rfl⟩⟩:=hz
 have hz:=bs hF; obtain ⟨x4,Ex4,hF⟩:=hz
 refine Zc (xc cb271 (mc rfl (mc rfl (mc rfl mn)))) (c271 Ex4) ?_
 rintro _ w5 ⟨u4,rfl,r7,hx5⟩
 have k4:=k3.tr hx5
 have hb5:=hb4.ext hx5
 have hz:=id r7; obtain ⟨_,rfl,⟨_,_,rfl,⟨_,_,rfl,⟨_,_,rfl,⟨_,_,rfl,rfl,rfl⟩,rfl⟩,⟨_,_,rfl,⟨_,_,rfl,rfl,rfl⟩,rfl⟩⟩,rfl⟩⟩:=hz
 refine sbsv (cs:=[.int .i64 x1.1.1.1.1,.int .i64 x1.1.1.1.2,.int .i64 x1.1.1.2,.int .i64 x1.1.2.1.1,.int .i64 x1.1.2.1.2,.int .i64 x1.1.2.2,.bool x1.2,.int .i64 x2.1.1.1.1,.int .i64 x2.1.1.1.2,.int .i64 x2.1.1.2,.int .i64 x2.1.2.1.1,.int .i64 x2.1.2.1.2,.int .i64 x2.1.2.2,.bool x2.2,.int .i64 x3.1.1.1.1,.int .i64 x3.1.1.1.2,.int .i64 x3.1.1.2,.int .i64 x3.1.2.1.1,.int .i64 x3.1.2.1.2,.int .i64 x3.1.2.2,.bool x3.2,.int .i64 x4.1.1.1.1,.int .i64 x4.1.1.1.2,.int .i64 x4.1.1.2,.int .i64 x4.1.2.1.1,.int .i64 x4.1.2.1.2,.int .i64 x4.1.2.2,.bool x4.2]) Tryz.underlying46 ti176 rfl (pc rfl (pc rfl (pc rfl (pc rfl pn)))) rfl rfl rfl rfl rfl fun b2 w6 hx6 hg2 hb6=>?_
 have k5:=k4.tr hx6
 have hb7:=hb5.ext hx6
 have o1:Row (α:=((((Int×Int)×Int)×((Int×Int)×Int))×Bool)) 176 w5.heap.size w6 (.slice (some ⟨b2,0,none⟩) 4 4) [x1,x2,x3,x4]:=Row.lit hg2 hb6 rfl (ble rfl)
 refine Zv (xbdv (r:=[.slice (some ⟨b2,0,none⟩) ([x1,x2,x3,x4]:List ((((Int×Int)×Int)×((Int×Int)×Int))×Bool)).length 4,.int .i64 0,.int .i64 0,.int .i64 0]) ti48 sp48 (pc rfl pn) rfl)<|sst rfl rfl rfl ti48 hb7 rfl rfl (ble rfl) fun w7 hch1 hb8=>?_
 have k6:=Ext.chg k5 hch1 (Nat.le_trans (Nat.le_refl _) hg1)
 have o2:=Row.chg o1 hch1 hb5.lt
 have hb9:Bx w7 b1 48 [.slice (some ⟨b2,0,none⟩) ([x1,x2,x3,x4]:List ((((Int×Int)×Int)×((Int×Int)×Int))×Bool)).length 4,.int .i64 0,.int .i64 0,.int .i64 0]:=hb8
 refine nl<|?_
 cases hF
 exact wp_ret<|rt rfl (.cell rfl rfl ti48 rfl (Bx.cs hb9) .nil) ⟨_,rfl,(show RV (α:=((List ((((Int×Int)×Int)×((Int×Int)×Int))×Bool))×Int×(Int×Int))) _ (.agg [.slice (some ⟨b2,0,none⟩) ([x1,x2,x3,x4]:List ((((Int×Int)×Int)×((Int×Int)×Int))×Bool)).length 4,.int .i64 0,.int .i64 0,.int .i64 0].toArray) (([x1,x2,x3,x4]:List ((((Int×Int)×Int)×((Int×Int)×Int))×Bool)),0,(0,0)) from ⟨_,rfl,⟨[.slice (some ⟨b2,0,none⟩) ([x1,x2,x3,x4]:List ((((Int×Int)×Int)×((Int×Int)×Int))×Bool)).length 4],[.int .i64 0]++([.int .i64 0]++[.int .i64 0]),rfl,o2.rv.rep1,⟨[.int .i64 0],[.int .i64 0]++[.int .i64 0],rfl,rfl,⟨[.int .i64 0],[.int .i64 0],rfl,rfl,rfl⟩⟩⟩⟩),k6⟩
theorem c295 {w0:World} {x0:Int} {r:(Int×Int)} (hF:join_CheckCylinder_1 x0=some r) :
  Calls Tryz.prog 295 [.int .i64 x0].toArray w0 (Ret fun v w'=>∃ u0:Value,v=u0∧RV w' u0 r∧Ext w0 w'):=by
 unfold join_CheckCylinder_1 at hF
 refine entr (n:=6) Tryz.func295 rfl rfl rfl<|Zr<|sal ti35 fun b2 w1 hx1 hg1 hb1=>?_
 refine nl<|Zr<|Zm<|Zm<|Zv (xbdv (r:=[.int .i64 x0,.int .i64 x0]) ti35 sp35 (pc rfl (pc rfl pn)) rfl)<|sst rfl rfl rfl ti35 hb1 rfl rfl (ble rfl) fun w2 hch1 hb2=>?_
 have k1:=Ext.chg hx1 hch1 (Nat.le_trans (Nat.le_refl _) hg1)
 have hb3:Bx w2 b2 35 [.int .i64 x0,.int .i64 x0]:=hb2
 refine nl<|?_
 cases hF
 exact wp_ret<|rt rfl (.cell rfl rfl ti35 rfl (Bx.cs hb3) .nil) ⟨_,rfl,(show RV (α:=(Int×Int)) _ (.agg [.int .i64 x0,.int .i64 x0].toArray) (x0,x0) from ⟨_,rfl,⟨[.int .i64 x0],[.int .i64 x0],rfl,rfl,rfl⟩⟩),k1⟩
theorem c339 {w0:World} {v0:Value} {x0:(Int×Int)} (r0:RV w0 v0 x0) {b1:Nat} {cs1:List Value} {x1:Int} (h1:Cs w0 b1 0 cs1) (q1:Enc.rep (fun _=>True) w0 cs1 x1) {b2:Nat} {cs2:List Value} {x2:Int} (h2:Cs w0 b2 0 cs2) (q2:Enc.rep (fun _=>True) w0 cs2 x2) {r:Bool} (hF:join_within_1 x0 x1 x2=some r) :
  Calls Tryz.prog 339 [v0,.pointer (some ⟨b1,0,none⟩),.pointer (some ⟨b2,0,none⟩)].toArray w0 (Ret fun v w'=>v=.bool r∧Ext w0 w'):=by
 unfold join_within_1 at hF
 have hz:=id r0; obtain ⟨_,rfl,⟨_,_,rfl,rfl,rfl⟩⟩:=hz
 obtain rfl:=q1
 obtain rfl:=q2
 refine entr (n:=22) Tryz.func339 rfl rfl rfl<|Zr<|sbx rfl rfl fun b4 w1 hx1 hg1 hb1=>?_
 have h4:=h1.ext hx1
 have h5:=h2.ext hx1
 refine Za<|nl<|Zr<|Zv (xfa rfl fa35_0)<|Zv (xld rfl ti2 ((Bx.cs hb1).at 0 rfl))<|Zv (xld rfl ti2 (h4.at 0 rfl))<|Zv (xlss rfl rfl)<|Zm<|Zg rfl rfl (gw0 rfl) (fun hc=>xfa rfl fa35_0)<|Zg rfl rfl (gw0 rfl) (fun hc=>xld (mv hc rfl) ti2 ((Bx.cs hb1).at 0 rfl))<|Zg rfl rfl (gw0 rfl) (fun hc=>xfa rfl fa35_1)<|Zg rfl rfl (gw0 rfl) (fun hc=>xld (mv hc rfl) ti2 ((Bx.cs hb1).at 1 rfl))<|Zg rfl rfl (gw0 rfl) (fun hc=>xgtr (mv hc rfl) (mv hc rfl))<|Zv (xpo rfl rfl rfl)<|Zm<|Zg rfl rfl (gw0 rfl) (fun hc=>xfa rfl fa35_1)<|Zg rfl rfl (gw0 rfl) (fun hc=>xld (mv hc rfl) ti2 ((Bx.cs hb1).at 1 rfl))<|Zg rfl rfl (gw0 rfl) (fun hc=>xld rfl ti2 (h5.at 0 rfl))<|Zg rfl rfl (gw0 rfl) (fun hc=>xgtr (mv hc rfl) (mv hc rfl))<|Zv (xpo rfl rfl rfl)<|Za<|nl<|?_
 cases hF
 exact wp_ret<|rt rfl (.tmp rfl rfl .nil) ⟨rfl,hx1⟩
theorem c296 {w0:World} {x0:Int} {x1:Int} {v2:Value} {x2:(List (Int×Int))} (r2:RV w0 v2 x2) {F:Nat} {r:Bool} (hF:join_within F x0 x1 x2=some r) :
  Calls Tryz.prog 296 [.int .i64 x0,.int .i64 x1,v2].toArray w0 (Ret fun v w'=>v=.bool r∧Ext w0 w'):=by
 unfold join_within at hF
 have hz:=r2.sl; obtain ⟨a1,cq1,rfl,-,-,-⟩:=hz
 refine entr (n:=11) Tryz.func296 rfl rfl rfl<|Zr<|sbx rfl rfl fun b4 w1 hx1 hg1 hb1=>?_
 have r4:=r2.ext hx1
 refine sbx rfl rfl fun b5 w2 hx2 hg2 hb2=>?_
 have k1:=hx1.tr hx2
 have hb3:=hb1.ext hx2
 have r5:=r4.ext hx2
 refine Za<|nl<|Zr<|Zm<|Zv (xmf mn (mc rfl (mc rfl mn)))<|?_
 have hz:=bs hF; obtain ⟨x4,Ex4,hF⟩:=hz
 refine Zc (xc cb279 (mc rfl (mc rfl mn))) (c279 r5 ⟨339,[],[.pointer (some ⟨b4,0,none⟩),.pointer (some ⟨b5,0,none⟩)],rfl,cb339,fun w' u x b hk hu hp=>c339 hu (Bx.cs (hb3.ext hk)) rfl (Bx.cs (hb2.ext hk)) rfl hp⟩ Ex4) ?_
 rintro _ w3 ⟨rfl,hx3⟩
 have k2:=k1.tr hx3
 refine Zv (xnot rfl)<|Za<|nl<|?_
 cases hF
 exact wp_ret<|rt rfl (.tmp rfl rfl .nil) ⟨rfl,k2⟩
theorem c214 {w0:World} {v0:Value} {x0:((List ((((Int×Int)×Int)×((Int×Int)×Int))×Bool))×Int×(Int×Int))} (r0:RV w0 v0 x0) {F:Nat} {r:Int} (hF:join_CheckCylinder F x0=some r) :
  Calls Tryz.prog 214 [v0].toArray w0 (Ret fun v w'=>v=.int .i64 r∧Ext w0 w'):=by
 unfold join_CheckCylinder at hF
 have hz:=id r0; obtain ⟨_,rfl,⟨_,_,rfl,⟨a1,cq1,rfl,p1,q2,e1⟩,⟨_,_,rfl,rfl,⟨_,_,rfl,rfl,rfl⟩⟩⟩⟩:=hz
 have r2:=RV.of1 p1 q2 e1
 refine entr (n:=68) Tryz.func214 rfl rfl rfl<|Zr<|sbx rfl rfl fun b2 w1 hx1 hg1 hb1=>?_
 refine Za<|nl<|wp_seq<|Zr<|Zv (xfa rfl fa48_0)<|Zv (xld rfl ti46 ((Bx.cs hb1).at 0 rfl))<|Zv (xlen rfl Tryz.underlying46)<|Zv (xeql rfl rfl)<|Zm<|Zg rfl rfl (gw0 rfl) (fun hc=>xfa rfl fa48_0)<|Zg rfl rfl (gw0 rfl) (fun hc=>xld (mv hc rfl) ti46 ((Bx.cs hb1).at 0 rfl))<|Zg rfl rfl (gw0 rfl) (fun hc=>xlen (mv hc rfl) Tryz.underlying46)<|Zg rfl rfl (gw0 rfl) (fun hc=>xgtr (mv hc rfl) rfl)<|Zv (xpo rfl rfl rfl)<|nl<|cnd rfl (fun h2=>?_) (fun h2=>?_)
 ·
  have hF:=ifp hF h2
  refine Zr<|Za<|nl<|?_
  cases hF
  exact wp_ret<|rt rfl (.tmp rfl rfl .nil) ⟨rfl,hx1⟩
 ·
  have hF:=ifn hF h2
  refine wp_skip<|Zr<|Za<|nl<|Zr<|Zm<|Zv (xfa rfl fa48_1)<|Zv (xld rfl ti2 ((Bx.cs hb1).at 1 rfl))<|?_
  have hz:=bs hF; obtain ⟨x2,Ex2,hF⟩:=hz
  refine Zc (xcv rfl cb295 (mc rfl mn) rfl) (c295 Ex2) ?_
  rintro _ w2 ⟨u1,rfl,r5,hx2⟩
  have k1:=hx1.tr hx2
  have hb2:=hb1.ext hx2
  have hz:=id r5; obtain ⟨_,rfl,⟨_,_,rfl,rfl,rfl⟩⟩:=hz
  refine sbsv (cs:=[.int .i64 x2.1,.int .i64 x2.2]) Tryz.underlying32 ti35 rfl (pc rfl pn) rfl rfl rfl rfl rfl fun b3 w3 hx3 hg2 hb3=>?_
  have k2:=k1.tr hx3
  have hb4:=hb2.ext hx3
  have o1:Row (α:=(Int×Int)) 35 w2.heap.size w3 (.slice (some ⟨b3,0,none⟩) 1 1) [x2]:=Row.lit hg2 hb3 rfl (ble rfl)
  have hz:=bs hF; obtain ⟨x3,Ex3,hF⟩:=hz
  refine Zc (xc cb296 (mc rfl (mc rfl (mc rfl mn)))) (c296 o1.rv Ex3) ?_
  rintro _ w4 ⟨rfl,hx4⟩
  have k3:=k2.tr hx4
  have hb5:=hb4.ext hx4
  refine Zm<|Zg rfl rfl (gw1 rfl) (fun hc=>xfa rfl fa48_2)<|Zg rfl rfl (gw1 rfl) (fun hc=>xlda (mv hc rfl) ti35 rfl ((Bx.cs hb5).sub 2 2))<|gm (fun v w=>RV w v ([(x0.2.2.1,x0.2.2.2)]:List (Int×Int))∧Ext w4 w) rfl rfl rfl rfl (gw1 rfl) rfl (fun hc=>sbsv (cs:=[.int .i64 x0.2.2.1,.int .i64 x0.2.2.2]) Tryz.underlying32 ti35 rfl (pc (mv hc rfl) pn) rfl rfl rfl rfl rfl fun b w' hx hg hb=>nl ⟨_,rfl,(Row.lit (base:=0) (l:=([(x0.2.2.1,x0.2.2.2)]:List (Int×Int))) (Nat.zero_le _) hb rfl (ble rfl)).rv,hx⟩) (fun v2 w5 hy1 hn1=>?_)
  have hx5:Ext w4 w5:=gx (fun h=>(hy1 h).2) (fun h=>(hn1 h).2 ▸ Ext.refl _)
  have k5:=k3.tr hx5
  have hb6:=hb5.ext hx5
  have hz:=bs hF; obtain ⟨x4,Ex4,hF⟩:=hz
  refine gc rfl rfl rfl rfl (gw1 rfl) rfl (fun hc=>xc cb296 (mc rfl (mc rfl (mc rfl mn)))) (fun hc=>(c296 ((hy1 hc).1) (gdp Ex4 hc))) (fun v3 w6 hy2 hn2=>?_)
  have hx6:Ext w5 w6:=gx (fun h=>(hy2 h).2) (fun h=>(hn2 h).2 ▸ Ext.refl _)
  have e2:=mkw (fun h=>(hy2 h).1) (fun h=>(hn2 h).1)
  have k7:=k5.tr hx6
  have hb7:=hb6.ext hx6
  refine Zv (xpa rfl e2 rfl)<|Za<|nl<|wp_seq<|Zr<|Zv (xfa rfl fa48_0)<|Zv (xld rfl ti46 ((Bx.cs hb7).at 0 rfl))<|Zv (xlen rfl Tryz.underlying46)<|Zm<|nl<|?_
  have hz:=bs hF; obtain ⟨z1,hB1,hF⟩:=hz
  refine ct (fun L w=>L 4=.bool z1∧Ext w6 w) ?_ ?_
  ·
   refine wp_block<|lp (I:=fun m L w=>∃ y1:Bool,∃ y2:Int,join_CheckCylinder_l1 F x0 m y1 y2 =some z1∧L 4=.bool y1∧L 34=.int .i64 y2∧L 3=.func (.func 295) [].toArray [].toArray∧L 32=.slice a1 x0.1.length cq1∧L 33=.int .i64 (x0.1.length:Int)∧Ext w6 w) F ⟨_,_,hB1,rfl,rfl,rfl,rfl,rfl,(Ext.refl _)⟩ ?_
   rintro m L w7 ⟨y1,y2,hB1,l4_i1,l34_i1,l3_i1,l32_i1,l33_i1,K0_i1⟩
   rcases m with _ | m
   ·rw [join_CheckCylinder_l1] at hB1; cases hB1
   rw [join_CheckCylinder_l1] at hB1
   have k9:=k7.tr K0_i1
   refine Zr<|Zv (xlss l34_i1 l33_i1)<|nl<|wp_seq<|cnd rfl (fun h3=>?_) (fun h3=>?_)
   ·
    have hB1:=ifp hB1 h3
    refine wp_skip<|wp_seq<|wp_block<|Zr<|?_
    have hz:=bs hB1; obtain ⟨x5,Ex5,hB1⟩:=hz
    have hz:=(RV.els r2).ix Ex5; obtain ⟨b4,f1,cs2,e3,i2,i3,q3,hc1⟩:=hz
    cases e3
    obtain ⟨_,_,rfl,⟨_,_,rfl,⟨_,_,rfl,⟨_,_,rfl,rfl,rfl⟩,rfl⟩,⟨_,_,rfl,⟨_,_,rfl,rfl,rfl⟩,rfl⟩⟩,rfl⟩:=q3
    have hc2:=hc1.ext k9
    refine Zv (xixs l32_i1 l34_i1 Tryz.underlying46 ti176 i2 i3)<|Zv (xlda rfl ti176 rfl hc2)<|sal ti176 fun b5 w8 hx7 hg3 hb8=>?_
    have k13:=K0_i1.tr hx7
    refine sst rfl rfl rfl ti176 hb8 rfl rfl (ble rfl) fun w9 hch1 hb9=>?_
    have k16:=Ext.chg k13 hch1 (Nat.le_trans K0_i1.size hg3)
    have hb10:Bx w9 b5 176 [.int .i64 x5.1.1.1.1,.int .i64 x5.1.1.1.2,.int .i64 x5.1.1.2,.int .i64 x5.1.2.1.1,.int .i64 x5.1.2.1.2,.int .i64 x5.1.2.2,.bool x5.2]:=hb9
    refine nl<|wp_seq<|?_
    have hz:=bs hB1; obtain ⟨⟨y3,y4⟩,hB3,hB1⟩:=hz
    refine ct (fun L w=>∃ v4 v5:Value,L 7=v4∧PB 173 w9.heap.size w v4 y3∧L 8=v5∧PB 173 w9.heap.size w v5 y4∧v4≠v5∧L 3=.func (.func 295) [].toArray [].toArray∧L 4=.bool y1∧L 32=.slice (some ⟨b4,f1,none⟩) x0.1.length cq1∧L 33=.int .i64 (x0.1.length:Int)∧L 34=.int .i64 y2∧Ext w9 w) ?_ ?_
    ·
     refine wpl [] (.pure true 0 (.pure true 1 (.pure false 2 (.pure true 3 (.pure true 4 (.pure false 5 (.eff 6 (.eff 7 (.eff 8 (.eff 9 .fin .stop) .stop) .stop) (.eff 7 (.eff 6 (.eff 8 (.eff 9 .fin .stop) .stop) .stop) .stop)))))))) mixed (by kernel_rfl) (fun w15 hx11=>?_)
     have hb21:=hb10.ext hx11
     refine Zp rfl (fun _=>xfa rfl fa176_0)<|Zp rfl (fun _=>xixa rfl rfl Tryz.underlying174 ti173 (by decide) (by decide))<|Zq rfl (fun _ hS=>xlda rfl ti173 rfl ((Bx.cs (hb21.ext (hS.resolve_left nofun))).sub 0 3)) (Ext.refl _)<|Zp rfl (fun _=>xfa rfl fa176_0)<|Zp rfl (fun _=>xixa rfl rfl Tryz.underlying174 ti173 (by decide) (by decide))<|Zq rfl (fun _ hS=>xlda rfl ti173 rfl ((Bx.cs (hb21.ext (hS.resolve_left nofun))).sub 3 3)) (Ext.refl _)<|?_
     refine pe rfl ?_ ?_
     ·
      refine sal ti173 fun b8 w16 hx12 hg6 hb22=>?_
      have k53:=hx11.tr hx12
      refine nl ⟨fun _ _=>hx12,?_⟩
      refine pe1 rfl<|sal ti173 fun b9 w17 hx13 hg7 hb23=>?_
      have k58:=k53.tr hx13
      have k59:=hx12.tr hx13
      have hb24:=hb22.ext hx13
      refine nl ⟨fun _ _=>k59,?_⟩
      refine pe1 rfl<|sst rfl rfl rfl ti173 hb24 rfl rfl (ble rfl) fun w18 hch4 hb25=>?_
      have k64:=Ext.chg k58 hch4 (Nat.le_trans hx11.size hg6)
      have k65:=Ext.chg k59 hch4 (Nat.le_trans (Nat.le_refl _) hg6)
      have hb26:=Bx.chg hb23 hch4 (Ne.symm (Nat.ne_of_lt (Nat.lt_of_lt_of_le hb22.lt hg7)))
      have hb27:Bx w18 b8 173 [.int .i64 x5.1.1.1.1,.int .i64 x5.1.1.1.2,.int .i64 x5.1.1.2]:=hb25
      refine nl ⟨fun _ _=>k65,?_⟩
      refine pe1 rfl<|sst rfl rfl rfl ti173 hb26 rfl rfl (ble rfl) fun w19 hch5 hb28=>?_
      have k70:=Ext.chg k64 hch5 (Nat.le_trans hx11.size (Nat.le_trans hx12.size hg7))
      have k71:=Ext.chg k65 hch5 (Nat.le_trans (Nat.le_refl _) (Nat.le_trans hx12.size hg7))
      have hb29:=Bx.chg hb27 hch5 (Nat.ne_of_lt (Nat.lt_of_lt_of_le hb22.lt hg7))
      have hb30:Bx w19 b9 173 [.int .i64 x5.1.2.1.1,.int .i64 x5.1.2.1.2,.int .i64 x5.1.2.2]:=hb28
      refine nl ⟨fun _ _=>k71,?_⟩
      cases hB3
      refine lf<|?_
      exact ⟨_,_,rfl,⟨_,_,rfl,(Nat.le_trans hx11.size hg6),hb29,⟨[.int .i64 x5.1.1.1.1]++[.int .i64 x5.1.1.1.2],[.int .i64 x5.1.1.2],rfl,⟨[.int .i64 x5.1.1.1.1],[.int .i64 x5.1.1.1.2],rfl,rfl,rfl⟩,rfl⟩⟩,rfl,⟨_,_,rfl,(Nat.le_trans hx11.size (Nat.le_trans hx12.size hg7)),hb30,⟨[.int .i64 x5.1.2.1.1]++[.int .i64 x5.1.2.1.2],[.int .i64 x5.1.2.2],rfl,⟨[.int .i64 x5.1.2.1.1],[.int .i64 x5.1.2.1.2],rfl,rfl,rfl⟩,rfl⟩⟩,(ne_ptr (Nat.ne_of_lt (Nat.lt_of_lt_of_le hb22.lt hg7))),l3_i1,l4_i1,l32_i1,l33_i1,l34_i1,k70⟩
     refine pm rfl ?_ ?_
     ·
      refine sal ti173 fun b10 w20 hx14 hg8 hb31=>?_
      have k76:=hx11.tr hx14
      refine nl ⟨fun _ _=>hx14,?_⟩
      refine pe1 rfl<|sal ti173 fun b11 w21 hx15 hg9 hb32=>?_
      have k81:=k76.tr hx15
      have k82:=hx14.tr hx15
      refine nl ⟨fun _ _=>k82,?_⟩
      refine pe1 rfl<|sst rfl rfl rfl ti173 hb32 rfl rfl (ble rfl) fun w22 hch6 hb34=>?_
      have k87:=Ext.chg k81 hch6 (Nat.le_trans k76.size hg9)
      have k88:=Ext.chg k82 hch6 (Nat.le_trans hx14.size hg9)
      have k89:=Ext.chg hx15 hch6 (Nat.le_trans (Nat.le_refl _) hg9)
      have hb35:=hb31.ext k89
      have hb36:Bx w22 b11 173 [.int .i64 x5.1.1.1.1,.int .i64 x5.1.1.1.2,.int .i64 x5.1.1.2]:=hb34
      refine nl ⟨fun _ _=>k88,?_⟩
      refine pe1 rfl<|sst rfl rfl rfl ti173 hb35 rfl rfl (ble rfl) fun w23 hch7 hb37=>?_
      have k94:=Ext.chg k87 hch7 (Nat.le_trans hx11.size hg8)
      have k95:=Ext.chg k88 hch7 (Nat.le_trans (Nat.le_refl _) hg8)
      have hb38:=Bx.chg hb36 hch7 (Ne.symm (Nat.ne_of_lt (Nat.lt_of_lt_of_le hb31.lt hg9)))
      have hb39:Bx w23 b10 173 [.int .i64 x5.1.2.1.1,.int .i64 x5.1.2.1.2,.int .i64 x5.1.2.2]:=hb37
      refine nl ⟨fun _ _=>k95,?_⟩
      cases hB3
      refine lf<|?_
      exact ⟨_,_,rfl,⟨_,_,rfl,(Nat.le_trans hx11.size (Nat.le_trans hx14.size hg9)),hb38,⟨[.int .i64 x5.1.1.1.1]++[.int .i64 x5.1.1.1.2],[.int .i64 x5.1.1.2],rfl,⟨[.int .i64 x5.1.1.1.1],[.int .i64 x5.1.1.1.2],rfl,rfl,rfl⟩,rfl⟩⟩,rfl,⟨_,_,rfl,(Nat.le_trans hx11.size hg8),hb39,⟨[.int .i64 x5.1.2.1.1]++[.int .i64 x5.1.2.1.2],[.int .i64 x5.1.2.2],rfl,⟨[.int .i64 x5.1.2.1.1],[.int .i64 x5.1.2.1.2],rfl,rfl,rfl⟩,rfl⟩⟩,(ne_ptr (Ne.symm (Nat.ne_of_lt (Nat.lt_of_lt_of_le hb31.lt hg9)))),l3_i1,l4_i1,l32_i1,l33_i1,l34_i1,k94⟩
     trivial
    rintro L w24 ⟨v4,v5,l7_j1,P7_j1,l8_j1,P8_j1,N7_8_j1,l3_j1,l4_j1,l32_j1,l33_j1,l34_j1,K0_j1⟩
    have k98:=k16.tr K0_j1
    obtain ⟨b12,cs3,rfl,hg10,hb40,q4⟩:=P7_j1
    obtain ⟨_,_,rfl,⟨_,_,rfl,rfl,rfl⟩,rfl⟩:=q4
    obtain ⟨b13,cs4,rfl,hg11,hb41,q5⟩:=P8_j1
    obtain ⟨_,_,rfl,⟨_,_,rfl,rfl,rfl⟩,rfl⟩:=q5
    have hz:=bs hB1; obtain ⟨y5,hB4,hB1⟩:=hz
    refine ct (fun L w=>L 4=.bool y5∧L 3=.func (.func 295) [].toArray [].toArray∧L 32=.slice (some ⟨b4,f1,none⟩) x0.1.length cq1∧L 33=.int .i64 (x0.1.length:Int)∧L 34=.int .i64 y2∧Ext w24 w) ?_ ?_
    ·
     refine wpl [] (.pure true 0 (.pure true 1 (.pure true 2 (.pure false 3 (.pure true 4 (.pure false 5 (.eff 6 (.eff 7 (.pure true 8 (.pure true 9 (.pure true 10 (.pure true 11 (.pure false 12 (.pure true 14 (.pure true 15 (.pure false 16 (.eff 13 (.eff 17 (.eff 18 (.eff 19 (.pure true 20 (.pure true 21 .fin)) .stop) .stop) .stop) .stop))))))))) .stop) .stop))))))) mixed (by kernel_rfl) (fun w29 hx20=>?_)
     have hb48:=hb40.ext hx20
     have hb49:=hb41.ext hx20
     refine Zn rfl<|Zn rfl<|?_
     refine Or.elim (Bool.eq_false_or_eq_true y1) (fun h4=>?_) (fun h4=>?_)
     ·
      have hB4:=ifp hB4 h4
      refine pvt rfl rfl rfl rfl rfl l4_j1 (bt h4) rfl (fun _ _=>xfa l7_j1 fa173_0) (.inl rfl)<|pvt rfl rfl rfl rfl rfl l4_j1 (bt h4) rfl (fun _ hS=>xlda rfl ti35 rfl ((Bx.cs (hb48.ext (hS.resolve_left nofun))).sub 0 2)) (.inr (Ext.refl _))<|pvt rfl rfl rfl rfl rfl l4_j1 (bt h4) rfl (fun _ _=>xfa l8_j1 fa173_0) (.inl rfl)<|pvt rfl rfl rfl rfl rfl l4_j1 (bt h4) rfl (fun _ hS=>xlda rfl ti35 rfl ((Bx.cs (hb49.ext (hS.resolve_left nofun))).sub 0 2)) (.inr (Ext.refl _))<|pe1 rfl<|gtk rfl rfl rfl rfl l4_j1 (bt h4)<|sbsv (cs:=[.int .i64 y3.1.1,.int .i64 y3.1.2,.int .i64 y4.1.1,.int .i64 y4.1.2]) Tryz.underlying32 ti35 rfl (pc rfl (pc rfl pn)) rfl rfl rfl rfl rfl fun b14 w30 hx21 hg12 hb50=>?_
      have k126:=hx20.tr hx21
      have o3:Row (α:=(Int×Int)) 35 w29.heap.size w30 (.slice (some ⟨b14,0,none⟩) 2 2) [(y3.1.1,y3.1.2),(y4.1.1,y4.1.2)]:=Row.lit hg12 hb50 rfl (ble rfl)
      refine nl ⟨fun _ _=>hx21,?_⟩
      have hz:=bs hB4; obtain ⟨x8,Ex8,hB4⟩:=hz
      refine pe1 rfl<|gtk rfl rfl rfl rfl l4_j1 (bt h4)<|Zc (xc cb296 (mc rfl (mc rfl (mc rfl mn)))) (c296 o3.rv Ex8) ?_
      rintro _ w31 ⟨rfl,hx22⟩
      have k132:=k126.tr hx22
      have k133:=hx21.tr hx22
      refine nl ⟨fun _ _=>k133,?_⟩
      refine Zp rfl (fun _=>xpt l4_j1 h4 rfl)<|Zn rfl<|?_
      refine Or.elim (Bool.eq_false_or_eq_true x8) (fun h5=>?_) (fun h5=>?_)
      ·
       have hB4:=ifp hB4 h5
       refine Zt rfl rfl rfl rfl (bt h5) (fun _=>xmv)<|Zt rfl rfl rfl rfl (bt h5) (fun _=>xfa l7_j1 fa173_1)<|pvt rfl rfl rfl rfl rfl rfl (bt h5) rfl (fun _ hS=>xld rfl ti2 ((Bx.cs (hb48.ext (hS.resolve_left nofun))).at 2 rfl)) (.inr k133)<|Zt rfl rfl rfl rfl (bt h5) (fun _=>xmv)<|Zt rfl rfl rfl rfl (bt h5) (fun _=>xfa l8_j1 fa173_1)<|pvt rfl rfl rfl rfl rfl rfl (bt h5) rfl (fun _ hS=>xld rfl ti2 ((Bx.cs (hb49.ext (hS.resolve_left nofun))).at 2 rfl)) (.inr k133)<|?_
       have hz:=bs hB4; obtain ⟨x9,Ex9,hB4⟩:=hz
       refine pe1 rfl<|gtk rfl rfl rfl rfl rfl (bt h5)<|Zc (xcv l3_j1 cb295 (mc rfl mn) rfl) (c295 Ex9) ?_
       rintro _ w32 ⟨u2,rfl,r37,hx23⟩
       have k139:=k132.tr hx23
       have k140:=k133.tr hx23
       have hz:=id r37; obtain ⟨_,rfl,⟨_,_,rfl,rfl,rfl⟩⟩:=hz
       refine nl ⟨fun _ _=>k140,?_⟩
       have hz:=bs hB4; obtain ⟨x10,Ex10,hB4⟩:=hz
       refine pe1 rfl<|gtk rfl rfl rfl rfl rfl (bt h5)<|Zc (xcv l3_j1 cb295 (mc rfl mn) rfl) (c295 Ex10) ?_
       rintro _ w33 ⟨u3,rfl,r39,hx24⟩
       have k146:=k139.tr hx24
       have k147:=k140.tr hx24
       have hz:=id r39; obtain ⟨_,rfl,⟨_,_,rfl,rfl,rfl⟩⟩:=hz
       refine nl ⟨fun _ _=>k147,?_⟩
       refine pe1 rfl<|gtk rfl rfl rfl rfl rfl (bt h5)<|sbsv (cs:=[.int .i64 x9.1,.int .i64 x9.2,.int .i64 x10.1,.int .i64 x10.2]) Tryz.underlying32 ti35 rfl (pc rfl (pc rfl pn)) rfl rfl rfl rfl rfl fun b15 w34 hx25 hg13 hb55=>?_
       have k153:=k146.tr hx25
       have k154:=k147.tr hx25
       have o4:Row (α:=(Int×Int)) 35 w33.heap.size w34 (.slice (some ⟨b15,0,none⟩) 2 2) [x9,x10]:=Row.lit hg13 hb55 rfl (ble rfl)
       refine nl ⟨fun _ _=>k154,?_⟩
       have hz:=bs hB4; obtain ⟨x11,Ex11,hB4⟩:=hz
       refine pe1 rfl<|gtk rfl rfl rfl rfl rfl (bt h5)<|Zc (xc cb296 (mc rfl (mc rfl (mc rfl mn)))) (c296 o4.rv Ex11) ?_
       rintro _ w35 ⟨rfl,hx26⟩
       have k160:=k153.tr hx26
       have k161:=k154.tr hx26
       refine nl ⟨fun _ _=>k161,?_⟩
       refine Zp rfl (fun _=>xpt rfl h5 rfl)<|Zp rfl (fun _=>xas)<|?_
       cases hB4
       refine lf<|?_
       exact ⟨rfl,l3_j1,l32_j1,l33_j1,l34_j1,k160⟩
      ·
       have hB4:=ifn hB4 h5
       refine Zf rfl rfl rfl rfl (bft h5)<|Zf rfl rfl rfl rfl (bft h5)<|pvf rfl rfl rfl rfl rfl rfl (bft h5) rfl (.inr k133)<|Zf rfl rfl rfl rfl (bft h5)<|Zf rfl rfl rfl rfl (bft h5)<|pvf rfl rfl rfl rfl rfl rfl (bft h5) rfl (.inr k133)<|pe1 rfl<|gfk rfl rfl rfl rfl rfl (bft h5) rfl<|nl ⟨fun _ _=>k133,?_⟩
       refine pe1 rfl<|gfk rfl rfl rfl rfl rfl (bft h5) rfl<|nl ⟨fun _ _=>k133,?_⟩
       refine pe1 rfl<|gfk rfl rfl rfl rfl rfl (bft h5) rfl<|nl ⟨fun _ _=>k133,?_⟩
       refine pe1 rfl<|gfk rfl rfl rfl rfl rfl (bft h5) rfl<|nl ⟨fun _ _=>k133,?_⟩
       refine Zp rfl (fun _=>xpf rfl h5 rfl)<|Zp rfl (fun _=>xas)<|?_
       cases hB4
       refine lf<|?_
       exact ⟨rfl,l3_j1,l32_j1,l33_j1,l34_j1,k132⟩
     ·
      have hB4:=ifn hB4 h4
      refine pvf rfl rfl rfl rfl rfl l4_j1 (bft h4) rfl (.inl rfl)<|pvf rfl rfl rfl rfl rfl l4_j1 (bft h4) rfl (.inr (Ext.refl _))<|pvf rfl rfl rfl rfl rfl l4_j1 (bft h4) rfl (.inl rfl)<|pvf rfl rfl rfl rfl rfl l4_j1 (bft h4) rfl (.inr (Ext.refl _))<|pe1 rfl<|gfk rfl rfl rfl rfl l4_j1 (bft h4) rfl<|nl ⟨fun _ _=>(Ext.refl _),?_⟩
      refine pe1 rfl<|gfk rfl rfl rfl rfl l4_j1 (bft h4) rfl<|nl ⟨fun _ _=>(Ext.refl _),?_⟩
      refine Zp rfl (fun _=>xpf l4_j1 h4 rfl)<|Zn rfl<|?_
      refine Or.elim (Bool.eq_false_or_eq_true false) (fun h6=>?_) (fun h6=>?_)
      ·
       have hB4:=ifp hB4 h6
       refine Zt rfl rfl rfl rfl (bt h6) (fun _=>xmv)<|Zt rfl rfl rfl rfl (bt h6) (fun _=>xfa l7_j1 fa173_1)<|pvt rfl rfl rfl rfl rfl rfl (bt h6) rfl (fun _ hS=>xld rfl ti2 ((Bx.cs (hb48.ext (hS.resolve_left nofun))).at 2 rfl)) (.inr (Ext.refl _))<|Zt rfl rfl rfl rfl (bt h6) (fun _=>xmv)<|Zt rfl rfl rfl rfl (bt h6) (fun _=>xfa l8_j1 fa173_1)<|pvt rfl rfl rfl rfl rfl rfl (bt h6) rfl (fun _ hS=>xld rfl ti2 ((Bx.cs (hb49.ext (hS.resolve_left nofun))).at 2 rfl)) (.inr (Ext.refl _))<|?_
       have hz:=bs hB4; obtain ⟨x12,Ex12,hB4⟩:=hz
       refine pe1 rfl<|gtk rfl rfl rfl rfl rfl (bt h6)<|Zc (xcv l3_j1 cb295 (mc rfl mn) rfl) (c295 Ex12) ?_
       rintro _ w36 ⟨u4,rfl,r45,hx27⟩
       have k168:=hx20.tr hx27
       have hz:=id r45; obtain ⟨_,rfl,⟨_,_,rfl,rfl,rfl⟩⟩:=hz
       refine nl ⟨fun _ _=>hx27,?_⟩
       have hz:=bs hB4; obtain ⟨x13,Ex13,hB4⟩:=hz
       refine pe1 rfl<|gtk rfl rfl rfl rfl rfl (bt h6)<|Zc (xcv l3_j1 cb295 (mc rfl mn) rfl) (c295 Ex13) ?_
       rintro _ w37 ⟨u5,rfl,r47,hx28⟩
       have k174:=k168.tr hx28
       have k175:=hx27.tr hx28
       have hz:=id r47; obtain ⟨_,rfl,⟨_,_,rfl,rfl,rfl⟩⟩:=hz
       refine nl ⟨fun _ _=>k175,?_⟩
       refine pe1 rfl<|gtk rfl rfl rfl rfl rfl (bt h6)<|sbsv (cs:=[.int .i64 x12.1,.int .i64 x12.2,.int .i64 x13.1,.int .i64 x13.2]) Tryz.underlying32 ti35 rfl (pc rfl (pc rfl pn)) rfl rfl rfl rfl rfl fun b16 w38 hx29 hg14 hb56=>?_
       have k181:=k174.tr hx29
       have k182:=k175.tr hx29
       have o5:Row (α:=(Int×Int)) 35 w37.heap.size w38 (.slice (some ⟨b16,0,none⟩) 2 2) [x12,x13]:=Row.lit hg14 hb56 rfl (ble rfl)
       refine nl ⟨fun _ _=>k182,?_⟩
       have hz:=bs hB4; obtain ⟨x14,Ex14,hB4⟩:=hz
       refine pe1 rfl<|gtk rfl rfl rfl rfl rfl (bt h6)<|Zc (xc cb296 (mc rfl (mc rfl (mc rfl mn)))) (c296 o5.rv Ex14) ?_
       rintro _ w39 ⟨rfl,hx30⟩
       have k188:=k181.tr hx30
       have k189:=k182.tr hx30
       refine nl ⟨fun _ _=>k189,?_⟩
       refine Zp rfl (fun _=>xpt rfl h6 rfl)<|Zp rfl (fun _=>xas)<|?_
       cases hB4
       refine lf<|?_
       exact ⟨rfl,l3_j1,l32_j1,l33_j1,l34_j1,k188⟩
      ·
       have hB4:=ifn hB4 h6
       refine Zf rfl rfl rfl rfl (bft h6)<|Zf rfl rfl rfl rfl (bft h6)<|pvf rfl rfl rfl rfl rfl rfl (bft h6) rfl (.inr (Ext.refl _))<|Zf rfl rfl rfl rfl (bft h6)<|Zf rfl rfl rfl rfl (bft h6)<|pvf rfl rfl rfl rfl rfl rfl (bft h6) rfl (.inr (Ext.refl _))<|pe1 rfl<|gfk rfl rfl rfl rfl rfl (bft h6) rfl<|nl ⟨fun _ _=>(Ext.refl _),?_⟩
       refine pe1 rfl<|gfk rfl rfl rfl rfl rfl (bft h6) rfl<|nl ⟨fun _ _=>(Ext.refl _),?_⟩
       refine pe1 rfl<|gfk rfl rfl rfl rfl rfl (bft h6) rfl<|nl ⟨fun _ _=>(Ext.refl _),?_⟩
       refine pe1 rfl<|gfk rfl rfl rfl rfl rfl (bft h6) rfl<|nl ⟨fun _ _=>(Ext.refl _),?_⟩
       refine Zp rfl (fun _=>xpf rfl h6 rfl)<|Zp rfl (fun _=>xas)<|?_
       cases hB4
       refine lf<|?_
       exact ⟨rfl,l3_j1,l32_j1,l33_j1,l34_j1,hx20⟩
    rintro L w40 ⟨l4_j2,l3_j2,l32_j2,l33_j2,l34_j2,K0_j2⟩
    have k193:=k98.tr K0_j2
    refine rg<|Zv (xadd l34_j2 rfl)<|Zm<|nl<|?_
    refine lq m (Nat.lt_succ_self _)<|?_
    exact ⟨_,_,hB1,l4_j2,rfl,l3_j2,l32_j2,l33_j2,k193⟩
   ·
    have hB1:=ifn hB1 h3
    refine wp_exit<|?_
    cases hB1
    refine lf<|?_
    exact ⟨l4_i1,K0_i1⟩
  rintro L w41 ⟨l4_j3,K0_j3⟩
  have k196:=k7.tr K0_j3
  refine wp_seq<|Zr<|Zm<|Zv (xnot l4_j3)<|nl<|cnd rfl (fun h7=>?_) (fun h7=>?_)
  ·
   have hF:=ifp hF h7
   refine Zr<|Za<|nl<|?_
   cases hF
   exact wp_ret<|rt rfl (.tmp rfl rfl .nil) ⟨rfl,k196⟩
  ·
   have hF:=ifn hF h7
   refine wp_skip<|Zr<|Za<|nl<|?_
   cases hF
   exact wp_ret<|rt rfl (.tmp rfl rfl .nil) ⟨rfl,k196⟩
theorem c297 {w0:World} {b0:Nat} {cs0:List Value} {x0:(((List ((((Int×Int)×Int)×((Int×Int)×Int))×Bool))×Int×(Int×Int))×(List (Int×Bool))×(Ar 16 (Ar 16 Int))×Opq×Opq)} (h0:Cs w0 b0 0 cs0) (q0:Enc.rep (fun _=>True) w0 cs0 x0) {v1:Value} {x1:((Int×Int)×Int)} (r1:RV w0 v1 x1) {v2:Value} {x2:((Int×Int)×Int)} (r2:RV w0 v2 x2) {r:Bool} (hF:join_table_meets x0 x1 x2=some r) :
  Calls Tryz.prog 297 [.pointer (some ⟨b0,0,none⟩),v1,v2].toArray w0 (Ret fun v w'=>v=.bool r∧Ext w0 w'):=by
 unfold join_table_meets at hF
 obtain ⟨_,_,rfl,⟨_,_,rfl,⟨a1,cq1,rfl,p1,q4,e1⟩,⟨_,_,rfl,rfl,⟨_,_,rfl,rfl,rfl⟩⟩⟩,⟨_,_,rfl,⟨a2,cq2,rfl,p2,q5,e2⟩,⟨_,_,rfl,rfl,⟨_,_,rfl,⟨a3,rfl,q6⟩,⟨a4,rfl,q7⟩⟩⟩⟩⟩:=q0
 have hz:=id r1; obtain ⟨_,rfl,⟨_,_,rfl,⟨_,_,rfl,rfl,rfl⟩,rfl⟩⟩:=hz
 have hz:=id r2; obtain ⟨_,rfl,⟨_,_,rfl,⟨_,_,rfl,rfl,rfl⟩,rfl⟩⟩:=hz
 refine entr (n:=56) Tryz.func297 rfl rfl rfl<|Zr<|sbx rfl rfl fun b4 w1 hx1 hg1 hb1=>?_
 have h4:=h0.ext hx1
 refine sbx rfl rfl fun b5 w2 hx2 hg2 hb2=>?_
 have k1:=hx1.tr hx2
 have hb3:=hb1.ext hx2
 have h5:=h4.ext hx2
 refine Za<|nl<|Zr<|Zv (xfa rfl fa173_0)<|Zv (xfa rfl fa35_0)<|Zv (xld rfl ti2 ((Bx.cs hb3).at 0 rfl))<|Zv (xfa rfl fa173_0)<|Zv (xfa rfl fa35_1)<|Zv (xld rfl ti2 ((Bx.cs hb2).at 1 rfl))<|Zv (xsub rfl rfl)<|Zv (xfa rfl fa173_0)<|Zv (xfa rfl fa35_0)<|Zv (xld rfl ti2 ((Bx.cs hb2).at 0 rfl))<|Zv (xfa rfl fa173_0)<|Zv (xfa rfl fa35_1)<|Zv (xld rfl ti2 ((Bx.cs hb3).at 1 rfl))<|Zv (xsub rfl rfl)<|Zv (xmax rfl rfl)<|Za<|nl<|Zr<|Zv (xfa rfl fa173_1)<|Zv (xld rfl ti2 ((Bx.cs hb2).at 2 rfl))<|Zv (xfa rfl fa173_1)<|Zv (xld rfl ti2 ((Bx.cs hb3).at 2 rfl))<|Zv (xsub rfl rfl)<|Za<|nl<|Zr<|Zm<|Zm<|Zv (xnil rfl)<|Zv (xfa rfl fa199_0)<|Zv (xfa rfl fa48_1)<|Zv (xld rfl ti2 (h5.at 1 rfl))<|Zv (xleq rfl rfl)<|Zm<|Zg rfl rfl (gw1 rfl) (fun hc=>xmva rfl)<|Zg rfl rfl (gw1 rfl) (fun hc=>xnil (mv hc rfl))<|Zg rfl rfl (gw1 rfl) (fun hc=>xfa (mv hc rfl) fa199_0)<|Zg rfl rfl (gw1 rfl) (fun hc=>xfa (mv hc rfl) fa48_2)<|Zg rfl rfl (gw1 rfl) (fun hc=>xfa (mv hc rfl) fa35_0)<|Zg rfl rfl (gw1 rfl) (fun hc=>xld (mv hc rfl) ti2 (h5.at 2 rfl))<|Zg rfl rfl (gw1 rfl) (fun hc=>xmva rfl)<|Zg rfl rfl (gw1 rfl) (fun hc=>xleq (mv hc rfl) (mv hc rfl))<|Zv (xpa rfl rfl rfl)<|Zm<|Zg rfl rfl (gw1 rfl) (fun hc=>xmva rfl)<|Zg rfl rfl (gw1 rfl) (fun hc=>xmva rfl)<|Zg rfl rfl (gw1 rfl) (fun hc=>xnil (mv hc rfl))<|Zg rfl rfl (gw1 rfl) (fun hc=>xfa (mv hc rfl) fa199_0)<|Zg rfl rfl (gw1 rfl) (fun hc=>xfa (mv hc rfl) fa48_2)<|Zg rfl rfl (gw1 rfl) (fun hc=>xfa (mv hc rfl) fa35_1)<|Zg rfl rfl (gw1 rfl) (fun hc=>xld (mv hc rfl) ti2 (h5.at 3 rfl))<|Zg rfl rfl (gw1 rfl) (fun hc=>xleq (mv hc rfl) (mv hc rfl))<|Zv (xpa rfl rfl rfl)<|Za<|nl<|?_
 cases hF
 exact wp_ret<|rt rfl (.tmp rfl rfl .nil) ⟨rfl,k1⟩
theorem c26 {w0:World} {v0:Value} {x0:((List ((((Int×Int)×Int)×((Int×Int)×Int))×Bool))×Int×(Int×Int))} (r0:RV w0 v0 x0) {v1:Value} {x1:(Int×Bool)} (r1:RV w0 v1 x1) {r:((Int×Int)×(Int×Int))} (hF:top_ends03 x0 x1=some r) :
  Calls Tryz.prog 26 [v0,v1].toArray w0 (Ret fun v w'=>∃ u0 u1:Value,v=.tuple #[u0,u1]∧RV w' u0 r.1∧RV w' u1 r.2∧Ext w0 w'):=by
 unfold top_ends03 at hF
 have hz:=id r0; obtain ⟨_,rfl,⟨_,_,rfl,⟨a1,cq1,rfl,p1,q3,e1⟩,⟨_,_,rfl,rfl,⟨_,_,rfl,rfl,rfl⟩⟩⟩⟩:=hz
 have r3:=RV.of1 p1 q3 e1
 have hz:=id r1; obtain ⟨_,rfl,⟨_,_,rfl,rfl,rfl⟩⟩:=hz
 refine entr (n:=31) Tryz.func26 rfl rfl rfl<|Zr<|sbx rfl rfl fun b3 w1 hx1 hg1 hb1=>?_
 refine sbx rfl rfl fun b4 w2 hx2 hg2 hb2=>?_
 have k1:=hx1.tr hx2
 have hb3:=hb1.ext hx2
 refine sal ti35 fun b5 w3 hx3 hg3 hb4=>?_
 have k2:=k1.tr hx3
 have hb5:=hb3.ext hx3
 have hb6:=hb2.ext hx3
 refine sal ti35 fun b6 w4 hx4 hg4 hb7=>?_
 have k4:=k2.tr hx4
 have hb8:=hb5.ext hx4
 have hb9:=hb6.ext hx4
 have hb10:=hb4.ext hx4
 refine nl<|Zr<|Zv (xfa rfl fa48_0)<|Zv (xld rfl ti46 ((Bx.cs hb8).at 0 rfl))<|Zv (xfa rfl fa56_0)<|Zv (xld rfl ti3 ((Bx.cs hb9).at 0 rfl))<|?_
 have hz:=bs hF; obtain ⟨x3,Ex3,hF⟩:=hz
 have hz:=(RV.els r3).ix Ex3; obtain ⟨b7,f1,cs3,e2,i1,i2,q4,hc1⟩:=hz
 cases e2
 obtain ⟨_,_,rfl,⟨_,_,rfl,⟨_,_,rfl,⟨_,_,rfl,rfl,rfl⟩,rfl⟩,⟨_,_,rfl,⟨_,_,rfl,rfl,rfl⟩,rfl⟩⟩,rfl⟩:=q4
 have hc2:=hc1.ext k4
 refine Zv (xixs rfl rfl Tryz.underlying46 ti176 i1 i2)<|Zv (xlda rfl ti176 rfl hc2)<|sal ti176 fun b8 w5 hx5 hg5 hb11=>?_
 have k7:=k4.tr hx5
 refine sst rfl rfl rfl ti176 hb11 rfl rfl (ble rfl) fun w6 hch1 hb15=>?_
 have k11:=Ext.chg k7 hch1 (Nat.le_trans k4.size hg5)
 have k15:=Ext.chg hx5 hch1 (Nat.le_trans (Nat.le_refl _) hg5)
 have hb16:=hb9.ext k15
 have hb17:=hb10.ext k15
 have hb18:=hb7.ext k15
 have hb19:Bx w6 b8 176 [.int .i64 x3.1.1.1.1,.int .i64 x3.1.1.1.2,.int .i64 x3.1.1.2,.int .i64 x3.1.2.1.1,.int .i64 x3.1.2.1.2,.int .i64 x3.1.2.2,.bool x3.2]:=hb15
 refine nl<|wp_seq<|Zr<|Zv (xfa rfl fa56_1)<|Zv (xld rfl ti4 ((Bx.cs hb16).at 1 rfl))<|nl<|cnd rfl (fun h3=>?_) (fun h3=>?_)
 ·
  have hF:=ifp hF h3
  refine wp_seq<|wplG (row:=(some b5)) [9] (.pure true 0 (.pure true 1 (.pure true 2 (.pure false 3 (.pure true 4 (.pure true 5 (.pure true 6 (.pure false 7 (.eff 8 (.eff 9 .fin .stop) .stop))))))))) mixed (by kernel_rfl) (fun w7 hx6=>?_)
  have k16:=k11.tr hx6
  have hb20:=hb17.ext hx6
  have hb21:=hb18.ext hx6
  have hb22:=hb19.ext hx6
  refine Zp rfl (fun _=>xfa rfl fa176_0)<|Zp rfl (fun _=>xixa rfl rfl Tryz.underlying174 ti173 (by decide) (by decide))<|Zp rfl (fun _=>xfa rfl fa173_0)<|Zq rfl (fun _ hS=>xlda rfl ti35 rfl ((Bx.cs (Bx.gr hb22 (hS.resolve_left nofun) (fun e=>(Ne.symm (Nat.ne_of_lt (Nat.lt_of_lt_of_le hb10.lt hg5))) (Option.some.inj e)))).sub 3 2)) (Ext.gro (Ext.refl _))<|Zp rfl (fun _=>xfa rfl fa176_0)<|Zp rfl (fun _=>xixa rfl rfl Tryz.underlying174 ti173 (by decide) (by decide))<|Zp rfl (fun _=>xfa rfl fa173_0)<|Zq rfl (fun _ hS=>xlda rfl ti35 rfl ((Bx.cs (Bx.gr hb22 (hS.resolve_left nofun) (fun e=>(Ne.symm (Nat.ne_of_lt (Nat.lt_of_lt_of_le hb10.lt hg5))) (Option.some.inj e)))).sub 0 2)) (Ext.gro (Ext.refl _))<|pe1 rfl<|sst rfl rfl rfl ti35 hb20 rfl rfl (ble rfl) fun w8 hch2 hb23=>?_
  have gS1:=World.grownBy.tr (Ext.gro (Ext.refl _)) (Chg.gro hch2)
  have k21:=Ext.chg k16 hch2 (Nat.le_trans k1.size hg3)
  have hb24:=Bx.chg hb21 hch2 (Ne.symm (Nat.ne_of_lt (Nat.lt_of_lt_of_le hb4.lt hg4)))
  have hb25:Bx w8 b5 35 [.int .i64 x3.1.2.1.1,.int .i64 x3.1.2.1.2]:=hb23
  refine nl ⟨fun _ _=>gS1,?_⟩
  refine pe1 rfl<|sst rfl rfl rfl ti35 hb24 rfl rfl (ble rfl) fun w9 hch3 hb26=>?_
  have k24:=Ext.chg k21 hch3 (Nat.le_trans k1.size (Nat.le_trans hx3.size hg4))
  have hb27:=Bx.chg hb25 hch3 (Nat.ne_of_lt (Nat.lt_of_lt_of_le hb4.lt hg4))
  have hb28:Bx w9 b6 35 [.int .i64 x3.1.1.1.1,.int .i64 x3.1.1.1.2]:=hb26
  refine nl ⟨fun h=>(h (by decide)).elim,?_⟩
  cases hF
  exact wp_ret<|rt rfl (.cell rfl rfl ti35 rfl (Bx.cs hb27) (.cell rfl rfl ti35 rfl (Bx.cs hb28) .nil)) ⟨_,_,rfl,(show RV (α:=(Int×Int)) _ (.agg [.int .i64 x3.1.2.1.1,.int .i64 x3.1.2.1.2].toArray) (x3.1.2.1.1,x3.1.2.1.2) from ⟨_,rfl,⟨[.int .i64 x3.1.2.1.1],[.int .i64 x3.1.2.1.2],rfl,rfl,rfl⟩⟩),(show RV (α:=(Int×Int)) _ (.agg [.int .i64 x3.1.1.1.1,.int .i64 x3.1.1.1.2].toArray) (x3.1.1.1.1,x3.1.1.1.2) from ⟨_,rfl,⟨[.int .i64 x3.1.1.1.1],[.int .i64 x3.1.1.1.2],rfl,rfl,rfl⟩⟩),k24⟩
 ·
  have hF:=ifn hF h3
  refine wp_skip<|wp_seq<|wplG (row:=(some b5)) [9] (.pure true 0 (.pure true 1 (.pure true 2 (.pure false 3 (.pure true 4 (.pure true 5 (.pure true 6 (.pure false 7 (.eff 8 (.eff 9 .fin .stop) .stop))))))))) mixed (by kernel_rfl) (fun w10 hx7=>?_)
  have k27:=k11.tr hx7
  have hb29:=hb17.ext hx7
  have hb30:=hb18.ext hx7
  have hb31:=hb19.ext hx7
  refine Zp rfl (fun _=>xfa rfl fa176_0)<|Zp rfl (fun _=>xixa rfl rfl Tryz.underlying174 ti173 (by decide) (by decide))<|Zp rfl (fun _=>xfa rfl fa173_0)<|Zq rfl (fun _ hS=>xlda rfl ti35 rfl ((Bx.cs (Bx.gr hb31 (hS.resolve_left nofun) (fun e=>(Ne.symm (Nat.ne_of_lt (Nat.lt_of_lt_of_le hb10.lt hg5))) (Option.some.inj e)))).sub 0 2)) (Ext.gro (Ext.refl _))<|Zp rfl (fun _=>xfa rfl fa176_0)<|Zp rfl (fun _=>xixa rfl rfl Tryz.underlying174 ti173 (by decide) (by decide))<|Zp rfl (fun _=>xfa rfl fa173_0)<|Zq rfl (fun _ hS=>xlda rfl ti35 rfl ((Bx.cs (Bx.gr hb31 (hS.resolve_left nofun) (fun e=>(Ne.symm (Nat.ne_of_lt (Nat.lt_of_lt_of_le hb10.lt hg5))) (Option.some.inj e)))).sub 3 2)) (Ext.gro (Ext.refl _))<|pe1 rfl<|sst rfl rfl rfl ti35 hb29 rfl rfl (ble rfl) fun w11 hch4 hb32=>?_
  have gS2:=World.grownBy.tr (Ext.gro (Ext.refl _)) (Chg.gro hch4)
  have k32:=Ext.chg k27 hch4 (Nat.le_trans k1.size hg3)
  have hb33:=Bx.chg hb30 hch4 (Ne.symm (Nat.ne_of_lt (Nat.lt_of_lt_of_le hb4.lt hg4)))
  have hb34:Bx w11 b5 35 [.int .i64 x3.1.1.1.1,.int .i64 x3.1.1.1.2]:=hb32
  refine nl ⟨fun _ _=>gS2,?_⟩
  refine pe1 rfl<|sst rfl rfl rfl ti35 hb33 rfl rfl (ble rfl) fun w12 hch5 hb35=>?_
  have k35:=Ext.chg k32 hch5 (Nat.le_trans k1.size (Nat.le_trans hx3.size hg4))
  have hb36:=Bx.chg hb34 hch5 (Nat.ne_of_lt (Nat.lt_of_lt_of_le hb4.lt hg4))
  have hb37:Bx w12 b6 35 [.int .i64 x3.1.2.1.1,.int .i64 x3.1.2.1.2]:=hb35
  refine nl ⟨fun h=>(h (by decide)).elim,?_⟩
  cases hF
  exact wp_ret<|rt rfl (.cell rfl rfl ti35 rfl (Bx.cs hb36) (.cell rfl rfl ti35 rfl (Bx.cs hb37) .nil)) ⟨_,_,rfl,(show RV (α:=(Int×Int)) _ (.agg [.int .i64 x3.1.1.1.1,.int .i64 x3.1.1.1.2].toArray) (x3.1.1.1.1,x3.1.1.1.2) from ⟨_,rfl,⟨[.int .i64 x3.1.1.1.1],[.int .i64 x3.1.1.1.2],rfl,rfl,rfl⟩⟩),(show RV (α:=(Int×Int)) _ (.agg [.int .i64 x3.1.2.1.1,.int .i64 x3.1.2.1.2].toArray) (x3.1.2.1.1,x3.1.2.1.2) from ⟨_,rfl,⟨[.int .i64 x3.1.2.1.1],[.int .i64 x3.1.2.1.2],rfl,rfl,rfl⟩⟩),k35⟩
theorem c25 {w0:World} {v0:Value} {x0:((List ((((Int×Int)×Int)×((Int×Int)×Int))×Bool))×Int×(Int×Int))} (r0:RV w0 v0 x0) {v1:Value} {x1:(List (KI .u8))} (r1:RV w0 v1 x1) {F:Nat} {r:(List (Int×Bool))} (hF:top_order03 F x0 x1=some r) :
  Calls Tryz.prog 25 [v0,v1].toArray w0 (Ret fun v w'=>∃ u0:Value,v=u0∧RV w' u0 r∧Ext w0 w'):=by
 unfold top_order03 at hF
 have hz:=id r0; obtain ⟨_,rfl,⟨_,_,rfl,⟨a1,cq1,rfl,p1,q3,e1⟩,⟨_,_,rfl,rfl,⟨_,_,rfl,rfl,rfl⟩⟩⟩⟩:=hz
 have r3:=RV.of1 p1 q3 e1
 have hz:=r1.sl; obtain ⟨a2,cq2,rfl,-,-,-⟩:=hz
 refine entr (n:=73) Tryz.func25 rfl rfl rfl<|Zr<|sbx rfl rfl fun b3 w1 hx1 hg1 hb1=>?_
 refine Za<|nl<|Zr<|Za<|nl<|wp_seq<|Zr<|Za<|nl<|?_
 have o1:Row (α:=Int) 3 w1.heap.size w1 (.slice none 0 0) []:=Row.nil
 have hz:=bs hF; obtain ⟨z1,hB1,hF⟩:=hz
 refine ct (fun L w=>∃ v4:Value,L 5=v4∧Row 3 w1.heap.size w v4 z1∧L 1=.slice a2 x1.length cq2∧L 2=.pointer (some ⟨b3,0,none⟩)∧Ext w1 w) ?_ ?_
 ·
  refine wp_block<|lp (I:=fun m L w=>∃ y1:(List Int),∃ y2:Int,∃ v3:Value,top_order03_l1 F x0 m y1 y2 =some z1∧L 5=v3∧Row 3 w1.heap.size w v3 y1∧L 6=.int .i64 y2∧L 1=.slice a2 x1.length cq2∧L 2=.pointer (some ⟨b3,0,none⟩)∧Ext w1 w) F ⟨_,_,_,hB1,rfl,o1,rfl,rfl,rfl,(Ext.refl _)⟩ ?_
  rintro m L w2 ⟨y1,y2,v3,hB1,l5_i1,O5_i1,l6_i1,l1_i1,l2_i1,K0_i1⟩
  rcases m with _ | m
  ·rw [top_order03_l1] at hB1; cases hB1
  rw [top_order03_l1] at hB1
  have hb2:=hb1.ext K0_i1
  have hz:=RV.sl O5_i1.rv; obtain ⟨a3,cq3,rfl,-,-,-⟩:=hz
  refine wp_seq<|Zr<|Zm<|Zv (xfa l2_i1 fa48_0)<|Zv (xld rfl ti46 ((Bx.cs hb2).at 0 rfl))<|Zv (xlen rfl Tryz.underlying46)<|Zv (xlss l6_i1 rfl)<|nl<|cnd rfl (fun h3=>?_) (fun h3=>?_)
  ·
   have hB1:=ifp hB1 h3
   refine wp_skip<|wp_seq<|wp_block<|rg<|Zm<|Zm<|sbsv (cs:=[.int .i64 y2]) Tryz.underlying41 ti3 rfl (pc l6_i1 pn) rfl rfl rfl rfl rfl fun b4 w3 hx2 hg2 hb3=>?_
   have k3:=K0_i1.tr hx2
   have O1:=O5_i1.ext hx2
   have o3:Row (α:=Int) 3 w2.heap.size w3 (.slice (some ⟨b4,0,none⟩) 1 1) [y2]:=Row.lit hg2 hb3 rfl (ble rfl)
   have hz:=bs hB1; obtain ⟨x3,Ex3,hB1⟩:=hz
   refine sapx (l:=y1) (k:=([y2]:List Int)) l5_i1 rfl Tryz.underlying41 ti3 rfl rfl O1 (RV.els o3.rv) Ex3 k3.size fun v5 w4 o4 hB3 hgr1 how1=>?_
   have k5:Ext w1 w4:=k3.trans hB3
   have hz:=RV.sl o4.rv; obtain ⟨a4,cq4,rfl,-,-,-⟩:=hz
   refine Za<|nl<|rg<|Zm<|Zv (xadd l6_i1 rfl)<|Za<|nl<|?_
   refine lq m (Nat.lt_succ_self _)<|?_
   exact ⟨_,_,_,hB1,rfl,o4,rfl,l1_i1,l2_i1,k5⟩
  ·
   have hB1:=ifn hB1 h3
   refine wp_exit<|?_
   cases hB1
   refine lf<|?_
   exact ⟨_,l5_i1,O5_i1,l1_i1,l2_i1,K0_i1⟩
 rintro L w5 ⟨v4,l5_j1,O5_j1,l1_j1,l2_j1,K0_j1⟩
 have hz:=RV.sl O5_j1.rv; obtain ⟨a5,cq5,rfl,-,-,-⟩:=hz
 refine Zr<|Za<|nl<|wp_seq<|Zr<|Za<|nl<|?_
 have o5:Row (α:=(Int×Bool)) 56 w5.heap.size w5 (.slice none 0 0) []:=Row.nil
 have hz:=bs hF; obtain ⟨z2,hB5,hF⟩:=hz
 refine ct (fun L w=>∃ v8:Value,L 7=v8∧Row 56 w5.heap.size w v8 z2∧w5.heap.size≤w.heap.size∧Ext w1 w) ?_ ?_
 ·
  refine wp_block<|lp (I:=fun m L w=>∃ y3:(List Int),∃ y4:(List (Int×Bool)),∃ y5:Int,∃ v6 v7:Value,top_order03_l2 F x0 x1 m y3 y4 y5 =some z2∧L 5=v6∧Row 3 w1.heap.size w v6 y3∧L 7=v7∧Row 56 w5.heap.size w v7 y4∧L 8=.int .i64 y5∧Apart (v6) (v7)∧L 1=.slice a2 x1.length cq2∧L 2=.pointer (some ⟨b3,0,none⟩)∧w5.heap.size≤w.heap.size∧Ext w1 w) F ⟨_,_,_,_,_,hB5,l5_j1,O5_j1,rfl,o5,rfl,(Apart.old' O5_j1.own_lt (fun q e=>(o5.lt q e).1)),l1_j1,l2_j1,(Nat.le_refl _),K0_j1⟩ ?_
  rintro m L w6 ⟨y3,y4,y5,v6,v7,hB5,l5_i2,O5_i2,l7_i2,O7_i2,l8_i2,X0_i2,l1_i2,l2_i2,Z0_i2,K0_i2⟩
  rcases m with _ | m
  ·rw [top_order03_l2] at hB5; cases hB5
  rw [top_order03_l2] at hB5
  have k7:=hx1.tr K0_i2
  have hb7:=hb1.ext K0_i2
  have hz:=RV.sl O5_i2.rv; obtain ⟨a6,cq6,rfl,-,-,-⟩:=hz
  have hz:=RV.sl O7_i2.rv; obtain ⟨a7,cq7,rfl,-,-,-⟩:=hz
  refine wp_seq<|Zr<|Zm<|Zv (xlen l5_i2 Tryz.underlying41)<|Zv (xgtr rfl rfl)<|nl<|cnd rfl (fun h4=>?_) (fun h4=>?_)
  ·
   have hB5:=ifp hB5 h4
   refine wp_skip<|wp_seq<|wp_block<|Zr<|Za<|nl<|wp_seq<|Zr<|Zm<|Zv (xlen l1_i2 Tryz.underlying49)<|Zv (xgtr rfl rfl)<|nl<|?_
   have hz:=bs hB5; obtain ⟨y6,hB7,hB5⟩:=hz
   refine ct (fun L w=>L 9=.int .i64 y6∧L 1=.slice a2 x1.length cq2∧L 2=.pointer (some ⟨b3,0,none⟩)∧L 5=.slice a6 y3.length cq6∧L 7=.slice a7 y4.length cq7∧L 8=.int .i64 y5∧w5.heap.size≤w.heap.size∧w1.heap.size≤w.heap.size∧Ext w6 w) ?_ ?_
   ·
    refine cnd rfl (fun h5=>?_) (fun h5=>?_)
    ·
     have hB7:=ifp hB7 h5
     refine rg<|Zm<|Zm<|Zm<|Zv (xlen l1_i2 Tryz.underlying49)<|?_
     have hz:=bs hB7; obtain ⟨x4,Ex4,hB7⟩:=hz
     refine Zv (xremv l8_i2 rfl Ex4)<|?_
     have hz:=bs hB7; obtain ⟨x5,Ex5,hB7⟩:=hz
     have hz:=(RV.els r1).ix Ex5; obtain ⟨b5,f1,cs3,e2,i3,i4,q4,hc1⟩:=hz
     cases e2
     obtain rfl:=q4
     have hc2:=hc1.ext k7
     refine Zv (xixs l1_i2 rfl Tryz.underlying49 ti5 i3 i4)<|Zv (xld rfl ti5 (hc2.at 0 rfl))<|Zv (xcvt rfl Tryz.underlying5 Tryz.underlying3)<|Za<|nl<|?_
     cases hB7
     refine lf<|?_
     exact ⟨rfl,l1_i2,l2_i2,l5_i2,l7_i2,l8_i2,Z0_i2,K0_i2.size,(Ext.refl _)⟩
    ·
     have hB7:=ifn hB7 h5
     refine wp_skip<|?_
     cases hB7
     refine lf<|?_
     exact ⟨rfl,l1_i2,l2_i2,l5_i2,l7_i2,l8_i2,Z0_i2,K0_i2.size,(Ext.refl _)⟩
   rintro L w7 ⟨l9_j2,l1_j2,l2_j2,l5_j2,l7_j2,l8_j2,Z0_j2,Z1_j2,K0_j2⟩
   have k8:=k7.tr K0_j2
   have k9:=K0_i2.tr K0_j2
   have hb8:=hb7.ext K0_j2
   have O2:=O5_i2.ext K0_j2
   have O3:=O7_i2.ext K0_j2
   refine Zr<|Zm<|Zm<|Zv (xlen l5_j2 Tryz.underlying41)<|?_
   have hz:=bs hB5; obtain ⟨x6,Ex6,hB5⟩:=hz
   refine Zv (xremv l9_j2 rfl Ex6)<|Za<|nl<|Zr<|Zm<|Zm<|?_
   have hz:=bs hB5; obtain ⟨x7,Ex7,hB5⟩:=hz
   have hz:=(RV.els O2.rv).ix Ex7; obtain ⟨b6,f2,cs4,e3,i5,i6,q5,hc3⟩:=hz
   cases e3
   obtain rfl:=q5
   refine Zv (xixs l5_j2 rfl Tryz.underlying41 ti3 i5 i6)<|Zv (xld rfl ti3 (hc3.at 0 rfl))<|Za<|nl<|Zr<|Zm<|Zm<|Zv (xfa l2_j2 fa48_0)<|Zv (xld rfl ti46 ((Bx.cs hb8).at 0 rfl))<|Zm<|?_
   have hz:=bs hB5; obtain ⟨x8,Ex8,hB5⟩:=hz
   have hz:=(RV.els r3).ix Ex8; obtain ⟨b7,f3,cs5,e4,i7,i8,q6,hc4⟩:=hz
   cases e4
   obtain ⟨_,_,rfl,⟨_,_,rfl,⟨_,_,rfl,⟨_,_,rfl,rfl,rfl⟩,rfl⟩,⟨_,_,rfl,⟨_,_,rfl,rfl,rfl⟩,rfl⟩⟩,rfl⟩:=q6
   have hc5:=hc4.ext k8
   refine Zv (xixs rfl rfl Tryz.underlying46 ti176 i7 i8)<|Zv (xfa rfl fa176_1)<|Zv (xld rfl ti4 (hc5.at 6 rfl))<|Zm<|Zg rfl rfl (gw1 rfl) (fun hc=>xmva l9_j2)<|Zg rfl rfl (gw1 rfl) (fun hc=>xgeq (mv hc rfl) rfl)<|Zv (xpa rfl rfl rfl)<|Zv (xbdv (r:=[.int .i64 x7,.bool (x8.2 && (decide (128≤y6)))]) ti56 sp56 (pc rfl (pc rfl pn)) rfl)<|sbsv (cs:=[.int .i64 x7,.bool (x8.2 && (decide (128≤y6)))]) Tryz.underlying51 ti56 rfl (pc rfl pn) rfl rfl rfl rfl rfl fun b8 w8 hx3 hg3 hb9=>?_
   have k11:=k9.tr hx3
   have zs1:=Nat.le_trans Z0_j2 hx3.size
   have O4:=O2.ext hx3
   have O5:=O3.ext hx3
   have o7:Row (α:=(Int×Bool)) 56 w7.heap.size w8 (.slice (some ⟨b8,0,none⟩) 1 1) [(x7,x8.2 && (decide (128≤y6)))]:=Row.lit hg3 hb9 rfl (ble rfl)
   have hz:=bs hB5; obtain ⟨x9,Ex9,hB5⟩:=hz
   refine sapx (l:=y4) (k:=([(x7,x8.2 && (decide (128≤y6)))]:List (Int×Bool))) l7_j2 rfl Tryz.underlying51 ti56 rfl rfl O5 (RV.els o7.rv) Ex9 zs1 fun v9 w9 o8 hB10 hgr2 how2=>?_
   have k14:=Ext.grow k11 K0_j1.size hB10
   have zs3:=Nat.le_trans zs1 hgr2.size
   have o9:=Row.gra O4 hgr2 (Apart.symm X0_i2)
   have hz:=RV.sl o8.rv; obtain ⟨a8,cq8,rfl,-,-,-⟩:=hz
   refine Za<|nl<|wpl [] (.pure true 1 (.pure true 2 (.pure true 3 (.pure true 5 (.pure true 6 (.pure true 7 (.pure true 8 (.eff 0 (.eff 4 (.eff 9 (.pure true 10 .fin) .stop) .stop) .stop)))))))) mixed (by kernel_rfl) (fun w10 hx4=>?_)
   have k16:=k14.tr hx4
   have zs5:=Nat.le_trans zs3 hx4.size
   have O6:=o9.ext hx4
   have o10:=o8.ext hx4
   refine Zn rfl<|Zn rfl<|?_
   have hz:=bs hB5; obtain ⟨x10,Ex10,hB5⟩:=hz
   have hz:=slh O6.rv Ex10 Tryz.underlying41 ti3; obtain ⟨a9,cq9,r27,hr1⟩:=hz
   refine Zp rfl (fun _=>hr1 _ _ _ _ _ _ _ _ _ _ l5_j2 rfl)<|Zn rfl<|Zn rfl<|Zp rfl (fun _=>xadd rfl rfl)<|?_
   have hz:=bs hB5; obtain ⟨x11,Ex11,hB5⟩:=hz
   have hz:=slo O6.rv Ex11 Tryz.underlying41 ti3; obtain ⟨a10,cq10,r28,hr2⟩:=hz
   refine Zp rfl (fun _=>hr2 _ _ _ _ _ _ _ _ _ _ l5_j2 rfl)<|pe1 rfl<|sbsv (cs:=[]) Tryz.underlying41 ti3 rfl pn rfl rfl rfl rfl rfl fun b9 w11 hx5 hg4 hb13=>?_
   have k18:=k16.tr hx5
   have zs7:=Nat.le_trans zs5 hx5.size
   have o11:=o10.ext hx5
   have r31:=r27.ext hx5
   have o12:Row (α:=Int) 3 w10.heap.size w11 (.slice (some ⟨b9,0,none⟩) 0 0) []:=Row.lit hg4 hb13 rfl (ble rfl)
   refine nl ⟨fun _ _=>hx5,?_⟩
   have hz:=bs hB5; obtain ⟨x12,Ex12,hB5⟩:=hz
   refine pe1 rfl<|sapx (l:=([]:List Int)) (k:=x10) rfl rfl Tryz.underlying41 ti3 rfl rfl o12 (RV.els r31) Ex12 hx5.size fun v10 w12 o13 hB11 hgr3 how3=>?_
   have k20:=Ext.grow k18 k16.size hB11
   have k21:Ext w10 w12:=hx5.trans hB11
   have X2:=Apart.app how3 (Apart.symm (Apart.old' o10.own_lt (fun q e=>(o12.lt q e).1))) o11.own_lt
   have zs9:=Nat.le_trans zs7 hgr3.size
   have o14:=o10.ext k21
   have r36:=r28.ext k21
   have hz:=RV.sl o13.rv; obtain ⟨a11,cq11,rfl,-,-,-⟩:=hz
   refine nl ⟨fun _ _=>k21,?_⟩
   have hz:=bs hB5; obtain ⟨x13,Ex13,hB5⟩:=hz
   refine pe1 rfl<|sapx (l:=x12) (k:=x11) rfl rfl Tryz.underlying41 ti3 rfl rfl o13 (RV.els r36) Ex13 k21.size fun v11 w13 o15 hB12 hgr4 how4=>?_
   have k23:=Ext.grow k20 k16.size hB12
   have k24:Ext w10 w13:=k21.trans hB12
   have X3:=Apart.app how4 X2 o14.own_lt
   have zs11:=Nat.le_trans zs9 hgr4.size
   have o16:=o10.ext k24
   have hz:=RV.sl o15.rv; obtain ⟨a12,cq12,rfl,-,-,-⟩:=hz
   refine nl ⟨fun _ _=>k24,?_⟩
   refine Zp rfl (fun _=>xas)<|rg<|Zm<|Zv (xadd l8_j2 rfl)<|Za<|nl<|?_
   refine lq m (Nat.lt_succ_self _)<|?_
   exact ⟨_,_,_,_,_,hB5,rfl,(o15.bnd k16.size),rfl,o16,rfl,X3,l1_j2,l2_j2,zs11,k23⟩
  ·
   have hB5:=ifn hB5 h4
   refine wp_exit<|?_
   cases hB5
   refine lf<|?_
   exact ⟨_,l7_i2,O7_i2,Z0_i2,K0_i2⟩
 rintro L w14 ⟨v8,l7_j3,O7_j3,Z0_j3,K0_j3⟩
 have k25:=hx1.tr K0_j3
 have hz:=RV.sl O7_j3.rv; obtain ⟨a13,cq13,rfl,-,-,-⟩:=hz
 refine Zr<|Zm<|Za<|nl<|?_
 cases hF
 exact wp_ret<|rt rfl (.tmp l7_j3 rfl .nil) ⟨_,rfl,O7_j3.rv,k25⟩
theorem c298 {w0:World} {b0:Nat} {cs0:List Value} {x0:(((List ((((Int×Int)×Int)×((Int×Int)×Int))×Bool))×Int×(Int×Int))×(List (Int×Bool))×(Ar 16 (Ar 16 Int))×Opq×Opq)} (h0:Cs w0 b0 0 cs0) (q0:Enc.rep (fun _=>True) w0 cs0 x0) {v1:Value} {x1:(Int×Bool)} (r1:RV w0 v1 x1) {x2:Int} {r:((Int×Int)×Int)} (hF:join_table_end x0 x1 x2=some r) :
  Calls Tryz.prog 298 [.pointer (some ⟨b0,0,none⟩),v1,.int .i64 x2].toArray w0 (Ret fun v w'=>∃ u0:Value,v=u0∧RV w' u0 r∧Ext w0 w'):=by
 unfold join_table_end at hF
 obtain ⟨_,_,rfl,⟨_,_,rfl,⟨a1,cq1,rfl,p1,q4,e1⟩,⟨_,_,rfl,rfl,⟨_,_,rfl,rfl,rfl⟩⟩⟩,⟨_,_,rfl,⟨a2,cq2,rfl,p2,q5,e2⟩,⟨_,_,rfl,rfl,⟨_,_,rfl,⟨a3,rfl,q6⟩,⟨a4,rfl,q7⟩⟩⟩⟩⟩:=q0
 have r4:=RV.of1 p1 q4 e1
 have hz:=id r1; obtain ⟨_,rfl,⟨_,_,rfl,rfl,rfl⟩⟩:=hz
 refine entr (n:=23) Tryz.func298 rfl rfl rfl<|Zr<|sbx rfl rfl fun b4 w1 hx1 hg1 hb1=>?_
 have h4:=h0.ext hx1
 refine sal ti173 fun b5 w2 hx2 hg2 hb2=>?_
 have k1:=hx1.tr hx2
 have hb3:=hb1.ext hx2
 have h5:=h4.ext hx2
 refine nl<|wp_seq<|Zr<|Zv (xfa rfl fa56_1)<|Zv (xld rfl ti4 ((Bx.cs hb3).at 1 rfl))<|nl<|?_
 have hz:=bs hF; obtain ⟨y1,hB1,hF⟩:=hz
 refine ct (fun L w=>L 2=.int .i64 y1∧L 0=.pointer (some ⟨b0,0,none⟩)∧L 4=.pointer (some ⟨b4,0,none⟩)∧L 6=.pointer (some ⟨b5,0,none⟩)∧Ext w2 w) ?_ ?_
 ·
  refine cnd rfl (fun h6=>?_) (fun h6=>?_)
  ·
   have hB1:=ifp hB1 h6
   refine rg<|Zm<|Zv (xsub rfl rfl)<|Za<|nl<|?_
   cases hB1
   refine lf<|?_
   exact ⟨rfl,rfl,rfl,rfl,(Ext.refl _)⟩
  ·
   have hB1:=ifn hB1 h6
   refine wp_skip<|?_
   cases hB1
   refine lf<|?_
   exact ⟨rfl,rfl,rfl,rfl,(Ext.refl _)⟩
 rintro L w3 ⟨l2_j1,l0_j1,l4_j1,l6_j1,K0_j1⟩
 have k2:=k1.tr K0_j1
 have h7:=h5.ext K0_j1
 have hb4:=hb3.ext K0_j1
 have hb5:=hb2.ext K0_j1
 refine wp_seq<|wpl [12] (.pure true 0 (.pure true 1 (.pure true 2 (.pure true 3 (.pure false 4 (.pure true 5 (.pure false 6 (.pure true 7 (.pure true 8 (.pure true 9 (.pure true 10 (.pure false 11 (.eff 12 .fin .stop))))))))))))) mixed (by kernel_rfl) (fun w4 hx3=>?_)
 have k4:=k2.tr hx3
 have hb6:=hb4.ext hx3
 have hb7:=hb5.ext hx3
 have h8:=h7.ext hx3
 refine Zn rfl<|Zp rfl (fun _=>xnil l0_j1)<|Zp rfl (fun _=>xfa rfl fa199_0)<|Zp rfl (fun _=>xfa rfl fa48_0)<|Zq rfl (fun _ hS=>xld rfl ti46 ((h8.ext (hS.resolve_left nofun)).at 0 rfl)) (Ext.refl _)<|Zp rfl (fun _=>xfa l4_j1 fa56_0)<|Zq rfl (fun _ hS=>xld rfl ti3 ((Bx.cs (hb6.ext (hS.resolve_left nofun))).at 0 rfl)) (Ext.refl _)<|Zn rfl<|?_
 have hz:=bs hF; obtain ⟨x4,Ex4,hF⟩:=hz
 have hz:=(RV.els r4).ix Ex4; obtain ⟨b6,f1,cs4,e3,i1,i2,q8,hc1⟩:=hz
 cases e3
 obtain ⟨_,_,rfl,⟨_,_,rfl,⟨_,_,rfl,⟨_,_,rfl,rfl,rfl⟩,rfl⟩,⟨_,_,rfl,⟨_,_,rfl,rfl,rfl⟩,rfl⟩⟩,rfl⟩:=q8
 have hc2:=hc1.ext k4
 refine Zp rfl (fun _=>xixs rfl rfl Tryz.underlying46 ti176 i1 i2)<|Zp rfl (fun _=>xfa rfl fa176_0)<|?_
 have hz:=bs hF; obtain ⟨x5,Ex5,hF⟩:=hz
 have hq1:Cs w4 b6 (f1 + x1.1.toNat * 7 + 0) (List.flatMap Flat.enc (⟨[((x4.1.1.1.1,x4.1.1.1.2),x4.1.1.2),((x4.1.2.1.1,x4.1.2.1.2),x4.1.2.2)],rfl⟩:Ar 2 ((Int×Int)×Int)).l):=(hc2.sub 0 6)
 have hz:=ixar hq1 Ex5; obtain ⟨i3,i4,hc3⟩:=hz
 refine Zp rfl (fun _=>xixa rfl l2_j1 Tryz.underlying174 ti173 i3 i4)<|Zq rfl (fun _ hS=>xlda rfl ti173 rfl (hc3.ext (hS.resolve_left nofun))) (Ext.refl _)<|pe1 rfl<|sst l6_j1 rfl rfl ti173 hb7 rfl rfl (ble rfl) fun w5 hch1 hb8=>?_
 have k7:=Ext.chg k4 hch1 (Nat.le_trans hx1.size hg2)
 have hb9:Bx w5 b5 173 [.int .i64 x5.1.1,.int .i64 x5.1.2,.int .i64 x5.2]:=hb8
 refine nl ⟨fun h=>(h (by decide)).elim,?_⟩
 cases hF
 exact wp_ret<|rt rfl (.cell l6_j1 rfl ti173 rfl (Bx.cs hb9) .nil) ⟨_,rfl,(show RV (α:=((Int×Int)×Int)) _ (.agg [.int .i64 x5.1.1,.int .i64 x5.1.2,.int .i64 x5.2].toArray) ((x5.1.1,x5.1.2),x5.2) from ⟨_,rfl,⟨[.int .i64 x5.1.1]++[.int .i64 x5.1.2],[.int .i64 x5.2],rfl,⟨[.int .i64 x5.1.1],[.int .i64 x5.1.2],rfl,rfl,rfl⟩,rfl⟩⟩),k7⟩
theorem c102 {w0:World} {v0:Value} {x0:((List ((((Int×Int)×Int)×((Int×Int)×Int))×Bool))×Int×(Int×Int))} (r0:RV w0 v0 x0) {F:Nat} {r:Int} (hF:ref02_CheckCylinder F x0=some r) :
  Calls Tryz.prog 102 [v0].toArray w0 (Ret fun v w'=>v=.int .i64 r∧Ext w0 w'):=by
 unfold ref02_CheckCylinder at hF
 have hz:=id r0; obtain ⟨_,rfl,⟨_,_,rfl,⟨a1,cq1,rfl,p1,q2,e1⟩,⟨_,_,rfl,rfl,⟨_,_,rfl,rfl,rfl⟩⟩⟩⟩:=hz
 have r2:=RV.of1 p1 q2 e1
 refine entr (n:=63) Tryz.func102 rfl rfl rfl<|Zr<|sbx rfl rfl fun b2 w1 hx1 hg1 hb1=>?_
 refine Za<|nl<|wp_seq<|Zr<|Zv (xfa rfl fa48_0)<|Zv (xld rfl ti46 ((Bx.cs hb1).at 0 rfl))<|Zv (xlen rfl Tryz.underlying46)<|Zv (xlss rfl rfl)<|Zm<|Zg rfl rfl (gw0 rfl) (fun hc=>xfa rfl fa48_0)<|Zg rfl rfl (gw0 rfl) (fun hc=>xld (mv hc rfl) ti46 ((Bx.cs hb1).at 0 rfl))<|Zg rfl rfl (gw0 rfl) (fun hc=>xlen (mv hc rfl) Tryz.underlying46)<|Zg rfl rfl (gw0 rfl) (fun hc=>xgtr (mv hc rfl) rfl)<|Zv (xpo rfl rfl rfl)<|nl<|cnd rfl (fun h2=>?_) (fun h2=>?_)
 ·
  have hF:=ifp hF h2
  refine Zr<|Za<|nl<|?_
  cases hF
  exact wp_ret<|rt rfl (.tmp rfl rfl .nil) ⟨rfl,hx1⟩
 ·
  have hF:=ifn hF h2
  refine wp_skip<|wp_seq<|Zr<|Za<|nl<|?_
  have hz:=bs hF; obtain ⟨o1,hB1,hF⟩:=hz
  refine ct (fun L w=>o1=.inr ()∧L 1=.pointer (some ⟨b2,0,none⟩)∧Ext w1 w) ?_ ?_
  ·
   refine wp_block<|lp (I:=fun m L w=>∃ y1:Int,ref02_CheckCylinder_l1 F x0 m y1 =some o1∧L 3=.int .i64 y1∧L 1=.pointer (some ⟨b2,0,none⟩)∧Ext w1 w) F ⟨_,hB1,rfl,rfl,(Ext.refl _)⟩ ?_
   rintro m L w2 ⟨y1,hB1,l3_i1,l1_i1,K0_i1⟩
   rcases m with _ | m
   ·rw [ref02_CheckCylinder_l1] at hB1; cases hB1
   rw [ref02_CheckCylinder_l1] at hB1
   have k1:=hx1.tr K0_i1
   have hb2:=hb1.ext K0_i1
   refine wp_seq<|Zr<|Zm<|Zv (xfa l1_i1 fa48_0)<|Zv (xld rfl ti46 ((Bx.cs hb2).at 0 rfl))<|Zv (xlen rfl Tryz.underlying46)<|Zv (xlss l3_i1 rfl)<|nl<|cnd rfl (fun h3=>?_) (fun h3=>?_)
   ·
    have hB1:=ifp hB1 h3
    refine wp_skip<|wp_seq<|wp_block<|Zr<|Za<|nl<|?_
    have hz:=bs hB1; obtain ⟨o2,hB3,hB1⟩:=hz
    refine ct (fun L w=>o2=.inr ()∧L 1=.pointer (some ⟨b2,0,none⟩)∧L 3=.int .i64 y1∧Ext w2 w) ?_ ?_
    ·
     refine wp_block<|lp (I:=fun m L w=>∃ y2:Int,ref02_CheckCylinder_l2 F x0 y1 m y2 =some o2∧L 4=.int .i64 y2∧L 1=.pointer (some ⟨b2,0,none⟩)∧L 3=.int .i64 y1∧Ext w2 w) F ⟨_,hB3,rfl,l1_i1,l3_i1,(Ext.refl _)⟩ ?_
     rintro m L w3 ⟨y2,hB3,l4_i2,l1_i2,l3_i2,K0_i2⟩
     rcases m with _ | m
     ·rw [ref02_CheckCylinder_l2] at hB3; cases hB3
     rw [ref02_CheckCylinder_l2] at hB3
     have k2:=k1.tr K0_i2
     have hb3:=hb2.ext K0_i2
     refine wp_seq<|Zr<|Zm<|Zv (xlss l4_i2 rfl)<|nl<|cnd rfl (fun h4=>?_) (fun h4=>?_)
     ·
      have hB3:=ifp hB3 h4
      refine wp_skip<|wp_seq<|wp_block<|Zr<|Zv (xfa l1_i2 fa48_0)<|Zv (xld rfl ti46 ((Bx.cs hb3).at 0 rfl))<|Zm<|Zm<|?_
      have hz:=bs hB3; obtain ⟨x2,Ex2,hB3⟩:=hz
      have hz:=(RV.els r2).ix Ex2; obtain ⟨b3,f1,cs2,e2,i3,i4,q3,hc1⟩:=hz
      cases e2
      obtain ⟨_,_,rfl,⟨_,_,rfl,⟨_,_,rfl,⟨_,_,rfl,rfl,rfl⟩,rfl⟩,⟨_,_,rfl,⟨_,_,rfl,rfl,rfl⟩,rfl⟩⟩,rfl⟩:=q3
      have hc2:=hc1.ext k2
      refine Zv (xixs rfl l3_i2 Tryz.underlying46 ti176 i3 i4)<|Zv (xfa rfl fa176_0)<|?_
      have hz:=bs hB3; obtain ⟨x3,Ex3,hB3⟩:=hz
      have hq1:Cs w3 b3 (f1 + y1.toNat * 7 + 0) (List.flatMap Flat.enc (⟨[((x2.1.1.1.1,x2.1.1.1.2),x2.1.1.2),((x2.1.2.1.1,x2.1.2.1.2),x2.1.2.2)],rfl⟩:Ar 2 ((Int×Int)×Int)).l):=(hc2.sub 0 6)
      have hz:=ixar hq1 Ex3; obtain ⟨i5,i6,hc3⟩:=hz
      refine Zv (xixa rfl l4_i2 Tryz.underlying174 ti173 i5 i6)<|Zv (xlda rfl ti173 rfl hc3)<|sal ti173 fun b4 w4 hx2 hg2 hb4=>?_
      have k4:=k2.tr hx2
      have k6:=K0_i2.tr hx2
      refine sst rfl rfl rfl ti173 hb4 rfl rfl (ble rfl) fun w5 hch1 hb6=>?_
      have k7:=Ext.chg k4 hch1 (Nat.le_trans k2.size hg2)
      have k9:=Ext.chg k6 hch1 (Nat.le_trans K0_i2.size hg2)
      have hb8:Bx w5 b4 173 [.int .i64 x3.1.1,.int .i64 x3.1.2,.int .i64 x3.2]:=hb6
      refine nl<|Zr<|Zv (xfa rfl fa173_0)<|Zv (xlda rfl ti35 rfl ((Bx.cs hb8).sub 0 2))<|?_
      have hz:=bs hB3; obtain ⟨x4,Ex4,hB3⟩:=hz
      refine Zc (xc cb211 (mc rfl (mc rfl (mc rfl mn)))) (c211 (show RV (α:=(Int×Int)) _ (.agg [.int .i64 x3.1.1,.int .i64 x3.1.2].toArray) (x3.1.1,x3.1.2) from ⟨_,rfl,⟨[.int .i64 x3.1.1],[.int .i64 x3.1.2],rfl,rfl,rfl⟩⟩) Ex4) ?_
      rintro _ w6 ⟨rfl,hx3⟩
      have k11:=k7.tr hx3
      have k13:=k9.tr hx3
      have hb10:=hb8.ext hx3
      refine Zv (xnot rfl)<|Zm<|Zg rfl rfl (gw0 rfl) (fun hc=>xfa rfl fa173_1)<|Zg rfl rfl (gw0 rfl) (fun hc=>xld (mv hc rfl) ti2 ((Bx.cs hb10).at 2 rfl))<|Zg rfl rfl (gw0 rfl) (fun hc=>xlss (mv hc rfl) rfl)<|Zv (xpo rfl rfl rfl)<|Zm<|Zg rfl rfl (gw0 rfl) (fun hc=>xfa rfl fa173_1)<|Zg rfl rfl (gw0 rfl) (fun hc=>xld (mv hc rfl) ti2 ((Bx.cs hb10).at 2 rfl))<|Zg rfl rfl (gw0 rfl) (fun hc=>xgtr (mv hc rfl) rfl)<|Zv (xpo rfl rfl rfl)<|nl<|cnd rfl (fun h5=>?_) (fun h5=>?_)
      ·
       have hB3:=ifp hB3 h5
       refine Zr<|Za<|nl<|?_
       cases hB3
       have hB1:=(show some _=some _ from hB1); cases hB1
       have hF:=(show some _=some _ from hF); cases hF
       exact wp_ret<|rt rfl (.tmp rfl rfl .nil) ⟨rfl,k11⟩
      ·
       have hB3:=ifn hB3 h5
       refine wp_skip<|rg<|Zm<|Zv (xadd l4_i2 rfl)<|Za<|nl<|?_
       refine lq m (Nat.lt_succ_self _)<|?_
       exact ⟨_,hB3,rfl,l1_i2,l3_i2,k13⟩
     ·
      have hB3:=ifn hB3 h4
      refine wp_exit<|?_
      cases hB3
      refine lf<|?_
      exact ⟨rfl,l1_i2,l3_i2,K0_i2⟩
    rintro L w7 ⟨rfl,l1_j1,l3_j1,K0_j1⟩
    have k16:=K0_i1.tr K0_j1
    refine rg<|Zm<|Zv (xadd l3_j1 rfl)<|Za<|nl<|?_
    refine lq m (Nat.lt_succ_self _)<|?_
    exact ⟨_,hB1,rfl,l1_j1,k16⟩
   ·
    have hB1:=ifn hB1 h3
    refine wp_exit<|?_
    cases hB1
    refine lf<|?_
    exact ⟨rfl,l1_i1,K0_i1⟩
  rintro L w8 ⟨rfl,l1_j2,K0_j2⟩
  have k17:=hx1.tr K0_j2
  have hb12:=hb1.ext K0_j2
  refine wp_seq<|Zr<|Zv (xfa l1_j2 fa48_1)<|Zv (xld rfl ti2 ((Bx.cs hb12).at 1 rfl))<|Zv (xlss rfl rfl)<|Zm<|Zg rfl rfl (gw0 rfl) (fun hc=>xfa l1_j2 fa48_1)<|Zg rfl rfl (gw0 rfl) (fun hc=>xld (mv hc rfl) ti2 ((Bx.cs hb12).at 1 rfl))<|Zg rfl rfl (gw0 rfl) (fun hc=>xgtr (mv hc rfl) rfl)<|Zv (xpo rfl rfl rfl)<|Zm<|Zg rfl rfl (gw0 rfl) (fun hc=>xfa l1_j2 fa48_2)<|Zg rfl rfl (gw0 rfl) (fun hc=>xlda (mv hc rfl) ti35 rfl ((Bx.cs hb12).sub 2 2))<|?_
  have hz:=bs hF; obtain ⟨x5,Ex5,hF⟩:=hz
  refine gc rfl rfl rfl rfl (gw0 rfl) rfl (fun hc=>xc cb211 (mc (mv hc rfl) (mc rfl (mc rfl mn)))) (fun hc=>(c211 (show RV (α:=(Int×Int)) _ (.agg [.int .i64 x0.2.2.1,.int .i64 x0.2.2.2].toArray) (x0.2.2.1,x0.2.2.2) from ⟨_,rfl,⟨[.int .i64 x0.2.2.1],[.int .i64 x0.2.2.2],rfl,rfl,rfl⟩⟩) (gdp Ex5 hc))) (fun v2 w9 hy1 hn1=>?_)
  have hx4:Ext w8 w9:=gx (fun h=>(hy1 h).2) (fun h=>(hn1 h).2 ▸ Ext.refl _)
  have e3:=mkw (fun h=>(hy1 h).1) (fun h=>(hn1 h).1)
  have k18:=k17.tr hx4
  refine Zg rfl rfl (gw0 rfl) (fun hc=>xnot (mv hc e3))<|Zv (xpo rfl rfl rfl)<|nl<|cnd rfl (fun h6=>?_) (fun h6=>?_)
  ·
   have hF:=ifp hF h6
   refine Zr<|Za<|nl<|?_
   cases hF
   exact wp_ret<|rt rfl (.tmp rfl rfl .nil) ⟨rfl,k18⟩
  ·
   have hF:=ifn hF h6
   refine wp_skip<|Zr<|Za<|nl<|?_
   cases hF
   exact wp_ret<|rt rfl (.tmp rfl rfl .nil) ⟨rfl,k18⟩
theorem c219 {w0:World} {v0:Value} {x0:(Int×Bool)} (r0:RV w0 v0 x0) {b1:Nat} {cs1:List Value} {x1:(Int×Bool)} (h1:Cs w0 b1 0 cs1) (q1:Enc.rep (fun _=>True) w0 cs1 x1) {r:Bool} (hF:join_table_index_1 x0 x1=some r) :
  Calls Tryz.prog 219 [v0,.pointer (some ⟨b1,0,none⟩)].toArray w0 (Ret fun v w'=>v=.bool r∧Ext w0 w'):=by
 unfold join_table_index_1 at hF
 have hz:=id r0; obtain ⟨_,rfl,⟨_,_,rfl,rfl,rfl⟩⟩:=hz
 obtain ⟨_,_,rfl,rfl,rfl⟩:=q1
 refine entr (n:=7) Tryz.func219 rfl rfl rfl<|Zr<|sbx rfl rfl fun b3 w1 hx1 hg1 hb1=>?_
 have h3:=h1.ext hx1
 refine Za<|nl<|Zr<|Zv (xlda rfl ti56 rfl (Bx.cs hb1))<|Zv (xlda rfl ti56 rfl h3)<|Zv (xage (α:=(Int×Bool)) (a:=(x0.1,x0.2)) (b:=(x1.1,x1.2)) rfl eg56 eq56 rfl rfl rfl rfl rfl)<|Za<|nl<|?_
 cases hF
 exact wp_ret<|rt rfl (.tmp rfl rfl .nil) ⟨rfl,hx1⟩
theorem c218 {w0:World} {v0:Value} {x0:(List (Int×Bool))} (r0:RV w0 v0 x0) {v1:Value} {x1:(Int×Bool)→Option Bool} (h1:FnB Tryz.prog (Int×Bool) w0 v1 x1) {F:Nat} {r:Int} (hF:join_first__api_JoinStep F x0 x1=some r) :
  Calls Tryz.prog 218 [v0,v1].toArray w0 (Ret fun v w'=>v=.int .i64 r∧Ext w0 w'):=by
 unfold join_first__api_JoinStep at hF
 have hz:=r0.sl; obtain ⟨a1,cq1,rfl,-,-,-⟩:=hz
 refine entr (n:=19) Tryz.func218 rfl rfl rfl<|Zr<|Za<|nl<|wp_seq<|Zr<|Zm<|Zv (xlen rfl Tryz.underlying51)<|Zm<|nl<|?_
 have hz:=bs hF; obtain ⟨o1,hB1,hF⟩:=hz
 refine ct (fun L w=>o1=.inr ()∧Ext w0 w) ?_ ?_
 ·
  refine wp_block<|lp (I:=fun m L w=>∃ y1:Int,join_first__api_JoinStep_l1 F x0 x1 m y1 =some o1∧L 9=.int .i64 y1∧L 1=v1∧L 7=.slice a1 x0.length cq1∧L 8=.int .i64 (x0.length:Int)∧Ext w0 w) F ⟨_,hB1,rfl,rfl,rfl,rfl,(Ext.refl _)⟩ ?_
  rintro m L w1 ⟨y1,hB1,l9_i1,l1_i1,l7_i1,l8_i1,K0_i1⟩
  rcases m with _ | m
  ·rw [join_first__api_JoinStep_l1] at hB1; cases hB1
  rw [join_first__api_JoinStep_l1] at hB1
  have h3:=h1.ext K0_i1
  refine Zr<|Zv (xlss l9_i1 l8_i1)<|nl<|wp_seq<|cnd rfl (fun h4=>?_) (fun h4=>?_)
  ·
   have hB1:=ifp hB1 h4
   refine wp_skip<|wp_seq<|wp_block<|Zr<|Zm<|?_
   have hz:=bs hB1; obtain ⟨x3,Ex3,hB1⟩:=hz
   have hz:=(RV.els r0).ix Ex3; obtain ⟨b3,f1,cs3,e1,i2,i3,q3,hc1⟩:=hz
   cases e1
   obtain ⟨_,_,rfl,rfl,rfl⟩:=q3
   have hc2:=hc1.ext K0_i1
   refine Zv (xixs l7_i1 l9_i1 Tryz.underlying51 ti56 i2 i3)<|Zv (xlda rfl ti56 rfl hc2)<|sal ti56 fun b4 w2 hx1 hg1 hb1=>?_
   have k1:=K0_i1.tr hx1
   refine Za<|sst rfl rfl rfl ti56 hb1 rfl rfl (ble rfl) fun w3 hch1 hb2=>?_
   have k2:=Ext.chg k1 hch1 (Nat.le_trans K0_i1.size hg1)
   have k3:=Ext.chg hx1 hch1 (Nat.le_trans (Nat.le_refl _) hg1)
   have h6:=h3.ext k3
   have hb3:Bx w3 b4 56 [.int .i64 x3.1,.bool x3.2]:=hb2
   refine nl<|Zr<|Zm<|Zv (xlda rfl ti56 rfl (Bx.cs hb3))<|?_
   have hz:=bs hB1; obtain ⟨x4,Ex4,hB1⟩:=hz
   have hz:=id h6; obtain ⟨g1,fs1,cs4,e2,hg2,hu1⟩:=hz
   refine Zc (xcv (l1_i1.trans e2) hg2 (mc rfl mn) rfl) (hu1 _ _ _ _ (Ext.refl _) (show RV (α:=(Int×Bool)) _ (.agg [.int .i64 x3.1,.bool x3.2].toArray) (x3.1,x3.2) from ⟨_,rfl,⟨[.int .i64 x3.1],[.bool x3.2],rfl,rfl,rfl⟩⟩) Ex4) ?_
   rintro _ w4 ⟨rfl,hx2⟩
   have k4:=k2.tr hx2
   refine nl<|cnd rfl (fun h8=>?_) (fun h8=>?_)
   ·
    have hB1:=ifp hB1 h8
    refine Zr<|Zm<|Za<|nl<|?_
    cases hB1
    have hF:=(show some _=some _ from hF); cases hF
    exact wp_ret<|rt rfl (.tmp l9_i1 rfl .nil) ⟨rfl,k4⟩
   ·
    have hB1:=ifn hB1 h8
    refine wp_skip<|rg<|Zv (xadd l9_i1 rfl)<|Zm<|nl<|?_
    refine lq m (Nat.lt_succ_self _)<|?_
    exact ⟨_,hB1,rfl,l1_i1,l7_i1,l8_i1,k4⟩
  ·
   have hB1:=ifn hB1 h4
   refine wp_exit<|?_
   cases hB1
   refine lf<|?_
   exact ⟨rfl,K0_i1⟩
 rintro L w5 ⟨rfl,K0_j1⟩
 refine Zr<|Za<|nl<|?_
 cases hF
 exact wp_ret<|rt rfl (.tmp rfl rfl .nil) ⟨rfl,K0_j1⟩
theorem c114 {w0:World} {b0:Nat} {cs0:List Value} {x0:(((List ((((Int×Int)×Int)×((Int×Int)×Int))×Bool))×Int×(Int×Int))×(List (Int×Bool))×(Ar 16 (Ar 16 Int))×Opq×Opq)} (h0:Cs w0 b0 0 cs0) (q0:Enc.rep (fun _=>True) w0 cs0 x0) {v1:Value} {x1:(Int×Bool)} (r1:RV w0 v1 x1) {F:Nat} {r:Int} (hF:join_table_index F x0 x1=some r) :
  Calls Tryz.prog 114 [.pointer (some ⟨b0,0,none⟩),v1].toArray w0 (Ret fun v w'=>v=.int .i64 r∧Ext w0 w'):=by
 unfold join_table_index at hF
 obtain ⟨_,_,rfl,⟨_,_,rfl,⟨a1,cq1,rfl,p1,q3,e1⟩,⟨_,_,rfl,rfl,⟨_,_,rfl,rfl,rfl⟩⟩⟩,⟨_,_,rfl,⟨a2,cq2,rfl,p2,q4,e2⟩,⟨_,_,rfl,rfl,⟨_,_,rfl,⟨a3,rfl,q5⟩,⟨a4,rfl,q6⟩⟩⟩⟩⟩:=q0
 have r4:=RV.of1 p2 q4 e2
 have hz:=id r1; obtain ⟨_,rfl,⟨_,_,rfl,rfl,rfl⟩⟩:=hz
 refine entr (n:=11) Tryz.func114 rfl rfl rfl<|Zr<|sbx rfl rfl fun b3 w1 hx1 hg1 hb1=>?_
 have r6:=r4.ext hx1
 have h3:=h0.ext hx1
 refine Za<|nl<|Zr<|Zm<|Zv (xnil rfl)<|Zv (xfa rfl fa199_1)<|Zv (xld rfl ti51 (h3.at 4 rfl))<|Zv (xmf mn (mc rfl mn))<|?_
 have hz:=bs hF; obtain ⟨x3,Ex3,hF⟩:=hz
 refine Zc (xc cb218 (mc rfl (mc rfl mn))) (c218 r6 ⟨219,[],[.pointer (some ⟨b3,0,none⟩)],rfl,cb219,fun w' u x b hk hu hp=>c219 hu (Bx.cs (hb1.ext hk)) ⟨[.int .i64 x1.1],[.bool x1.2],rfl,rfl,rfl⟩ hp⟩ Ex3) ?_
 rintro _ w2 ⟨rfl,hx2⟩
 have k1:=hx1.tr hx2
 refine Za<|nl<|?_
 cases hF
 exact wp_ret<|rt rfl (.tmp rfl rfl .nil) ⟨rfl,k1⟩
theorem c185 {w0:World} {v0:Value} {x0:(List Int)} (r0:RV w0 v0 x0) {F:Nat} {r:(List (Int×Bool))} (hF:law02_On F x0=some r) :
  Calls Tryz.prog 185 [v0].toArray w0 (Ret fun v w'=>∃ u0:Value,v=u0∧RV w' u0 r∧Ext w0 w'):=by
 unfold law02_On at hF
 have hz:=r0.sl; obtain ⟨a1,cq1,rfl,-,-,-⟩:=hz
 refine entr (n:=20) Tryz.func185 rfl rfl rfl<|Zr<|Za<|nl<|Zr<|Za<|nl<|wp_seq<|Zr<|Za<|nl<|?_
 have o1:Row (α:=(Int×Bool)) 56 w0.heap.size w0 (.slice none 0 0) []:=Row.nil
 have hz:=bs hF; obtain ⟨z1,hB1,hF⟩:=hz
 refine ct (fun L w=>∃ v3:Value,L 3=v3∧Row 56 w0.heap.size w v3 z1∧Ext w0 w) ?_ ?_
 ·
  refine wp_block<|lp (I:=fun m L w=>∃ y1:(List (Int×Bool)),∃ y2:Int,∃ v2:Value,law02_On_l1 F x0 m y1 y2 =some z1∧L 3=v2∧Row 56 w0.heap.size w v2 y1∧L 4=.int .i64 y2∧L 0=.slice a1 x0.length cq1∧Ext w0 w) F ⟨_,_,_,hB1,rfl,o1,rfl,rfl,(Ext.refl _)⟩ ?_
  rintro m L w1 ⟨y1,y2,v2,hB1,l3_i1,O3_i1,l4_i1,l0_i1,K0_i1⟩
  rcases m with _ | m
  ·rw [law02_On_l1] at hB1; cases hB1
  rw [law02_On_l1] at hB1
  have hz:=RV.sl O3_i1.rv; obtain ⟨a2,cq2,rfl,-,-,-⟩:=hz
  refine wp_seq<|Zr<|Zm<|Zm<|Zv (xlen l0_i1 Tryz.underlying41)<|Zv (xlss l4_i1 rfl)<|nl<|cnd rfl (fun h2=>?_) (fun h2=>?_)
  ·
   have hB1:=ifp hB1 h2
   refine wp_skip<|wp_seq<|wp_block<|rg<|Zm<|Zm<|Zm<|?_
   have hz:=bs hB1; obtain ⟨x2,Ex2,hB1⟩:=hz
   have hz:=(RV.els r0).ix Ex2; obtain ⟨b2,f1,cs2,e1,i2,i3,q2,hc1⟩:=hz
   cases e1
   obtain rfl:=q2
   have hc2:=hc1.ext K0_i1
   refine Zv (xixs l0_i1 l4_i1 Tryz.underlying41 ti3 i2 i3)<|Zv (xld rfl ti3 (hc2.at 0 rfl))<|Zv (xbdv (r:=[.int .i64 x2,.bool false]) ti56 sp56 (pc rfl pn) rfl)<|sbsv (cs:=[.int .i64 x2,.bool false]) Tryz.underlying51 ti56 rfl (pc rfl pn) rfl rfl rfl rfl rfl fun b3 w2 hx1 hg1 hb1=>?_
   have k1:=K0_i1.tr hx1
   have O1:=O3_i1.ext hx1
   have o3:Row (α:=(Int×Bool)) 56 w1.heap.size w2 (.slice (some ⟨b3,0,none⟩) 1 1) [(x2,false)]:=Row.lit hg1 hb1 rfl (ble rfl)
   have hz:=bs hB1; obtain ⟨x3,Ex3,hB1⟩:=hz
   refine sapx (l:=y1) (k:=([(x2,false)]:List (Int×Bool))) l3_i1 rfl Tryz.underlying51 ti56 rfl rfl O1 (RV.els o3.rv) Ex3 k1.size fun v4 w3 o4 hB3 hgr1 how1=>?_
   have k2:Ext w0 w3:=k1.trans hB3
   have hz:=RV.sl o4.rv; obtain ⟨a3,cq3,rfl,-,-,-⟩:=hz
   refine Za<|nl<|rg<|Zm<|Zv (xadd l4_i1 rfl)<|Za<|nl<|?_
   refine lq m (Nat.lt_succ_self _)<|?_
   exact ⟨_,_,_,hB1,rfl,o4,rfl,l0_i1,k2⟩
  ·
   have hB1:=ifn hB1 h2
   refine wp_exit<|?_
   cases hB1
   refine lf<|?_
   exact ⟨_,l3_i1,O3_i1,K0_i1⟩
 rintro L w4 ⟨v3,l3_j1,O3_j1,K0_j1⟩
 have hz:=RV.sl O3_j1.rv; obtain ⟨a4,cq4,rfl,-,-,-⟩:=hz
 refine Zr<|Zm<|Za<|nl<|?_
 cases hF
 exact wp_ret<|rt rfl (.tmp l3_j1 rfl .nil) ⟨_,rfl,O3_j1.rv,K0_j1⟩
theorem c188 {w0:World} {v0:Value} {x0:(List (Int×Bool))} (r0:RV w0 v0 x0) {v1:Value} {x1:(List (Int×Bool))} (r1:RV w0 v1 x1) {F:Nat} {r:Bool} (hF:ref02_Same F x0 x1=some r) :
  Calls Tryz.prog 188 [v0,v1].toArray w0 (Ret fun v w'=>v=.bool r∧Ext w0 w'):=by
 unfold ref02_Same at hF
 have hz:=r0.sl; obtain ⟨a1,cq1,rfl,-,-,-⟩:=hz
 have hz:=r1.sl; obtain ⟨a2,cq2,rfl,-,-,-⟩:=hz
 refine entr (n:=26) Tryz.func188 rfl rfl rfl<|Zr<|Za<|nl<|wp_seq<|Zr<|Zm<|Zv (xlen rfl Tryz.underlying51)<|Zm<|Zv (xlen rfl Tryz.underlying51)<|Zv (xneq rfl rfl)<|nl<|cnd rfl (fun h3=>?_) (fun h3=>?_)
 ·
  have hF:=ifp hF h3
  refine Zr<|Za<|nl<|?_
  cases hF
  exact wp_ret<|rt rfl (.tmp rfl rfl .nil) ⟨rfl,(Ext.refl _)⟩
 ·
  have hF:=ifn hF h3
  refine wp_skip<|wp_seq<|Zr<|Za<|nl<|?_
  have hz:=bs hF; obtain ⟨o1,hB1,hF⟩:=hz
  refine ct (fun L w=>o1=.inr ()∧Ext w0 w) ?_ ?_
  ·
   refine wp_block<|lp (I:=fun m L w=>∃ y1:Int,ref02_Same_l1 F x0 x1 m y1 =some o1∧L 5=.int .i64 y1∧L 0=.slice a1 x0.length cq1∧L 1=.slice a2 x1.length cq2∧Ext w0 w) F ⟨_,hB1,rfl,rfl,rfl,(Ext.refl _)⟩ ?_
   rintro m L w1 ⟨y1,hB1,l5_i1,l0_i1,l1_i1,K0_i1⟩
   rcases m with _ | m
   ·rw [ref02_Same_l1] at hB1; cases hB1
   rw [ref02_Same_l1] at hB1
   refine wp_seq<|Zr<|Zm<|Zm<|Zv (xlen l0_i1 Tryz.underlying51)<|Zv (xlss l5_i1 rfl)<|nl<|cnd rfl (fun h4=>?_) (fun h4=>?_)
   ·
    have hB1:=ifp hB1 h4
    refine wp_skip<|wp_seq<|wp_block<|wp_seq<|wpl [] (.pure true 0 (.pure true 1 (.pure true 2 (.pure false 3 (.pure true 4 (.pure true 5 (.pure true 6 (.pure false 7 (.pure true 8 .fin))))))))) mixed (by kernel_rfl) (fun w2 hx1=>?_)
    have k1:=K0_i1.tr hx1
    refine Zn rfl<|Zn rfl<|?_
    have hz:=bs hB1; obtain ⟨x3,Ex3,hB1⟩:=hz
    have hz:=(RV.els r0).ix Ex3; obtain ⟨b3,f1,cs3,e1,i2,i3,q3,hc1⟩:=hz
    cases e1
    obtain ⟨_,_,rfl,rfl,rfl⟩:=q3
    have hc2:=hc1.ext k1
    refine Zp rfl (fun _=>xixs l0_i1 l5_i1 Tryz.underlying51 ti56 i2 i3)<|Zq rfl (fun _ hS=>xlda rfl ti56 rfl (hc2.ext (hS.resolve_left nofun))) (Ext.refl _)<|Zn rfl<|Zn rfl<|?_
    have hz:=bs hB1; obtain ⟨x4,Ex4,hB1⟩:=hz
    have hz:=(RV.els r1).ix Ex4; obtain ⟨b4,f2,cs4,e2,i4,i5,q4,hc3⟩:=hz
    cases e2
    obtain ⟨_,_,rfl,rfl,rfl⟩:=q4
    have hc4:=hc3.ext k1
    refine Zp rfl (fun _=>xixs l1_i1 l5_i1 Tryz.underlying51 ti56 i4 i5)<|Zq rfl (fun _ hS=>xlda rfl ti56 rfl (hc4.ext (hS.resolve_left nofun))) (Ext.refl _)<|Zp rfl (fun _=>xagn (α:=(Int×Bool)) (a:=(x3.1,x3.2)) (b:=(x4.1,x4.2)) rfl eg56 eq56 rfl rfl rfl rfl rfl)<|cnd rfl (fun h5=>?_) (fun h5=>?_)
    ·
     have hB1:=ifp hB1 h5
     refine Zr<|Za<|nl<|?_
     cases hB1
     have hF:=(show some _=some _ from hF); cases hF
     exact wp_ret<|rt rfl (.tmp rfl rfl .nil) ⟨rfl,k1⟩
    ·
     have hB1:=ifn hB1 h5
     refine wp_skip<|rg<|Zm<|Zv (xadd l5_i1 rfl)<|Za<|nl<|?_
     refine lq m (Nat.lt_succ_self _)<|?_
     exact ⟨_,hB1,rfl,l0_i1,l1_i1,k1⟩
   ·
    have hB1:=ifn hB1 h4
    refine wp_exit<|?_
    cases hB1
    refine lf<|?_
    exact ⟨rfl,K0_i1⟩
  rintro L w3 ⟨rfl,K0_j1⟩
  refine Zr<|Za<|nl<|?_
  cases hF
  exact wp_ret<|rt rfl (.tmp rfl rfl .nil) ⟨rfl,K0_j1⟩
theorem c189 {w0:World} {v0:Value} {x0:(List ((Int×Bool)×(Int×Bool)))} (r0:RV w0 v0 x0) {v1:Value} {x1:(List ((Int×Bool)×(Int×Bool)))} (r1:RV w0 v1 x1) {F:Nat} {r:Bool} (hF:law02_pairs F x0 x1=some r) :
  Calls Tryz.prog 189 [v0,v1].toArray w0 (Ret fun v w'=>v=.bool r∧Ext w0 w'):=by
 unfold law02_pairs at hF
 have hz:=r0.sl; obtain ⟨a1,cq1,rfl,-,-,-⟩:=hz
 have hz:=r1.sl; obtain ⟨a2,cq2,rfl,-,-,-⟩:=hz
 refine entr (n:=26) Tryz.func189 rfl rfl rfl<|Zr<|Za<|nl<|wp_seq<|Zr<|Zm<|Zv (xlen rfl Tryz.underlying75)<|Zm<|Zv (xlen rfl Tryz.underlying75)<|Zv (xneq rfl rfl)<|nl<|cnd rfl (fun h3=>?_) (fun h3=>?_)
 ·
  have hF:=ifp hF h3
  refine Zr<|Za<|nl<|?_
  cases hF
  exact wp_ret<|rt rfl (.tmp rfl rfl .nil) ⟨rfl,(Ext.refl _)⟩
 ·
  have hF:=ifn hF h3
  refine wp_skip<|wp_seq<|Zr<|Za<|nl<|?_
  have hz:=bs hF; obtain ⟨o1,hB1,hF⟩:=hz
  refine ct (fun L w=>o1=.inr ()∧Ext w0 w) ?_ ?_
  ·
   refine wp_block<|lp (I:=fun m L w=>∃ y1:Int,law02_pairs_l1 F x0 x1 m y1 =some o1∧L 5=.int .i64 y1∧L 0=.slice a1 x0.length cq1∧L 1=.slice a2 x1.length cq2∧Ext w0 w) F ⟨_,hB1,rfl,rfl,rfl,(Ext.refl _)⟩ ?_
   rintro m L w1 ⟨y1,hB1,l5_i1,l0_i1,l1_i1,K0_i1⟩
   rcases m with _ | m
   ·rw [law02_pairs_l1] at hB1; cases hB1
   rw [law02_pairs_l1] at hB1
   refine wp_seq<|Zr<|Zm<|Zm<|Zv (xlen l0_i1 Tryz.underlying75)<|Zv (xlss l5_i1 rfl)<|nl<|cnd rfl (fun h4=>?_) (fun h4=>?_)
   ·
    have hB1:=ifp hB1 h4
    refine wp_skip<|wp_seq<|wp_block<|wp_seq<|wpl [] (.pure true 0 (.pure true 1 (.pure true 2 (.pure false 3 (.pure true 4 (.pure true 5 (.pure true 6 (.pure false 7 (.pure true 8 .fin))))))))) mixed (by kernel_rfl) (fun w2 hx1=>?_)
    have k1:=K0_i1.tr hx1
    refine Zn rfl<|Zn rfl<|?_
    have hz:=bs hB1; obtain ⟨x3,Ex3,hB1⟩:=hz
    have hz:=(RV.els r0).ix Ex3; obtain ⟨b3,f1,cs3,e1,i2,i3,q3,hc1⟩:=hz
    cases e1
    obtain ⟨_,_,rfl,⟨_,_,rfl,rfl,rfl⟩,⟨_,_,rfl,rfl,rfl⟩⟩:=q3
    have hc2:=hc1.ext k1
    refine Zp rfl (fun _=>xixs l0_i1 l5_i1 Tryz.underlying75 ti92 i2 i3)<|Zq rfl (fun _ hS=>xlda rfl ti92 rfl (hc2.ext (hS.resolve_left nofun))) (Ext.refl _)<|Zn rfl<|Zn rfl<|?_
    have hz:=bs hB1; obtain ⟨x4,Ex4,hB1⟩:=hz
    have hz:=(RV.els r1).ix Ex4; obtain ⟨b4,f2,cs4,e2,i4,i5,q4,hc3⟩:=hz
    cases e2
    obtain ⟨_,_,rfl,⟨_,_,rfl,rfl,rfl⟩,⟨_,_,rfl,rfl,rfl⟩⟩:=q4
    have hc4:=hc3.ext k1
    refine Zp rfl (fun _=>xixs l1_i1 l5_i1 Tryz.underlying75 ti92 i4 i5)<|Zq rfl (fun _ hS=>xlda rfl ti92 rfl (hc4.ext (hS.resolve_left nofun))) (Ext.refl _)<|Zp rfl (fun _=>xagn (α:=((Int×Bool)×(Int×Bool))) (a:=((x3.1.1,x3.1.2),(x3.2.1,x3.2.2))) (b:=((x4.1.1,x4.1.2),(x4.2.1,x4.2.2))) rfl eg92 eq92 rfl rfl rfl rfl rfl)<|cnd rfl (fun h5=>?_) (fun h5=>?_)
    ·
     have hB1:=ifp hB1 h5
     refine Zr<|Za<|nl<|?_
     cases hB1
     have hF:=(show some _=some _ from hF); cases hF
     exact wp_ret<|rt rfl (.tmp rfl rfl .nil) ⟨rfl,k1⟩
    ·
     have hB1:=ifn hB1 h5
     refine wp_skip<|rg<|Zm<|Zv (xadd l5_i1 rfl)<|Za<|nl<|?_
     refine lq m (Nat.lt_succ_self _)<|?_
     exact ⟨_,hB1,rfl,l0_i1,l1_i1,k1⟩
   ·
    have hB1:=ifn hB1 h4
    refine wp_exit<|?_
    cases hB1
    refine lf<|?_
    exact ⟨rfl,K0_i1⟩
  rintro L w3 ⟨rfl,K0_j1⟩
  refine Zr<|Za<|nl<|?_
  cases hF
  exact wp_ret<|rt rfl (.tmp rfl rfl .nil) ⟨rfl,K0_j1⟩
theorem c272 {w0:World} {b0:Nat} {cs0:List Value} {x0:(((List ((((Int×Int)×Int)×((Int×Int)×Int))×Bool))×Int×(Int×Int))×(List (Int×Bool))×(Ar 16 (Ar 16 Int))×Opq×Opq)} (h0:Cs w0 b0 0 cs0) (q0:Enc.rep (fun _=>True) w0 cs0 x0) {v1:Value} {x1:(Int×Int)} (r1:RV w0 v1 x1) {x2:Int} {r:(Int×Int)} (hF:join_table_on x0 x1 x2=some r) :
  Calls Tryz.prog 272 [.pointer (some ⟨b0,0,none⟩),v1,.int .i64 x2].toArray w0 (Ret fun v w'=>∃ u0:Value,v=u0∧RV w' u0 r∧Ext w0 w'):=by
 unfold join_table_on at hF
 obtain ⟨_,_,rfl,⟨_,_,rfl,⟨a1,cq1,rfl,p1,q4,e1⟩,⟨_,_,rfl,rfl,⟨_,_,rfl,rfl,rfl⟩⟩⟩,⟨_,_,rfl,⟨a2,cq2,rfl,p2,q5,e2⟩,⟨_,_,rfl,rfl,⟨_,_,rfl,⟨a3,rfl,q6⟩,⟨a4,rfl,q7⟩⟩⟩⟩⟩:=q0
 have r5:=RV.of1 p2 q5 e2
 have hz:=id r1; obtain ⟨_,rfl,⟨_,_,rfl,rfl,rfl⟩⟩:=hz
 refine entr (n:=21) Tryz.func272 rfl rfl rfl<|Zr<|sbx rfl rfl fun b4 w1 hx1 hg1 hb1=>?_
 have h4:=h0.ext hx1
 refine sal ti326 fun b5 w2 hx2 hg2 hb2=>?_
 have k1:=hx1.tr hx2
 have hb3:=hb1.ext hx2
 have h5:=h4.ext hx2
 refine nl<|wp_seq<|wpl [14] (.pure true 0 (.pure false 1 (.pure true 2 (.pure true 3 (.pure true 4 (.pure false 5 (.pure true 6 (.pure true 7 (.pure true 8 (.pure false 9 (.pure true 10 (.pure true 11 (.pure true 12 (.pure true 13 (.eff 14 .fin .stop))))))))))))))) mixed (by kernel_rfl) (fun w3 hx3=>?_)
 have k2:=k1.tr hx3
 have hb4:=hb3.ext hx3
 have hb5:=hb2.ext hx3
 have h6:=h5.ext hx3
 refine Zp rfl (fun _=>xfa rfl fa326_0)<|Zq rfl (fun _ hS=>xld rfl ti3 ((Bx.cs (hb4.ext (hS.resolve_left nofun))).at 0 rfl)) (Ext.refl _)<|Zn rfl<|Zp rfl (fun _=>xnil rfl)<|Zp rfl (fun _=>xfa rfl fa199_1)<|Zq rfl (fun _ hS=>xld rfl ti51 ((h6.ext (hS.resolve_left nofun)).at 4 rfl)) (Ext.refl _)<|Zn rfl<|?_
 have hz:=bs hF; obtain ⟨x4,Ex4,hF⟩:=hz
 have hz:=(RV.els r5).ix Ex4; obtain ⟨b6,f1,cs4,e3,i1,i2,q8,hc1⟩:=hz
 cases e3
 obtain ⟨_,_,rfl,rfl,rfl⟩:=q8
 have hc2:=hc1.ext k2
 refine Zp rfl (fun _=>xixs rfl rfl Tryz.underlying51 ti56 i1 i2)<|Zp rfl (fun _=>xfa rfl fa56_0)<|Zq rfl (fun _ hS=>xld rfl ti3 ((hc2.ext (hS.resolve_left nofun)).at 0 rfl)) (Ext.refl _)<|?_
 have hz:=bs hF; obtain ⟨x5,Ex5,hF⟩:=hz
 refine Zp rfl (fun _=>xshl rfl rfl Ex5)<|Zp rfl (fun _=>xor_ rfl rfl)<|Zn rfl<|Zp rfl (fun _=>xbdv (r:=[.int .i64 (bor .i64 x1.1 x5),.int .i64 x2]) ti326 sp326 (pc rfl (pc rfl pn)) rfl)<|pe1 rfl<|sst rfl rfl rfl ti326 hb5 rfl rfl (ble rfl) fun w4 hch1 hb6=>?_
 have k4:=Ext.chg k2 hch1 (Nat.le_trans hx1.size hg2)
 have hb7:Bx w4 b5 326 [.int .i64 (bor .i64 x1.1 x5),.int .i64 x2]:=hb6
 refine nl ⟨fun h=>(h (by decide)).elim,?_⟩
 cases hF
 exact wp_ret<|rt rfl (.cell rfl rfl ti326 rfl (Bx.cs hb7) .nil) ⟨_,rfl,(show RV (α:=(Int×Int)) _ (.agg [.int .i64 (bor .i64 x1.1 x5),.int .i64 x2].toArray) (bor .i64 x1.1 x5,x2) from ⟨_,rfl,⟨[.int .i64 (bor .i64 x1.1 x5)],[.int .i64 x2],rfl,rfl,rfl⟩⟩),k4⟩
theorem c309 {w0:World} {x0:Int} {b1:Nat} {cs1:List Value} {x1:(Int×Int)} (h1:Cs w0 b1 0 cs1) (q1:Enc.rep (fun _=>True) w0 cs1 x1) {b2:Nat} {cs2:List Value} {x2:(Ob (((List ((((Int×Int)×Int)×((Int×Int)×Int))×Bool))×Int×(Int×Int))×(List (Int×Bool))×(Ar 16 (Ar 16 Int))×Opq×Opq))} (h2:Cs w0 b2 0 cs2) (q2:Enc.rep (fun _=>True) w0 cs2 x2) {r:Bool} (hF:join_table_behind_1 x0 x1 x2=some r) :
  Calls Tryz.prog 309 [.int .i64 x0,.pointer (some ⟨b1,0,none⟩),.pointer (some ⟨b2,0,none⟩)].toArray w0 (Ret fun v w'=>v=.bool r∧Ext w0 w'):=by
 unfold join_table_behind_1 at hF
 obtain ⟨_,_,rfl,rfl,rfl⟩:=q1
 have q4:=q2
 have hz:=obRep q4; obtain ⟨a1,rfl,r4⟩:=hz
 refine entr (n:=18) Tryz.func309 rfl rfl rfl<|Zr<|Za<|nl<|wp_seq<|wpl [] (.pure true 0 (.pure false 1 (.pure false 2 (.pure true 3 (.pure true 4 (.pure false 5 (.pure true 6 (.pure true 7 (.pure true 8 (.pure false 9 (.pure true 10 (.pure true 11 (.pure true 12 (.pure true 13 .fin)))))))))))))) mixed (by kernel_rfl) (fun w1 hx1=>?_)
 have h4:=h1.ext hx1
 have h5:=h2.ext hx1
 refine Zp rfl (fun _=>xfa rfl fa326_0)<|Zq rfl (fun _ hS=>xld rfl ti3 ((h4.ext (hS.resolve_left nofun)).at 0 rfl)) (Ext.refl _)<|Zq rfl (fun _ hS=>xld rfl ti177 ((h5.ext (hS.resolve_left nofun)).at 0 rfl)) (Ext.refl _)<|?_
 have hz:=bs hF; obtain ⟨x4,Ex4,hF⟩:=hz
 have hz:=obGet r4 Ex4; obtain ⟨b4,cs4,e1,q5,hc1⟩:=hz
 cases e1
 obtain ⟨_,_,rfl,⟨_,_,rfl,⟨a2,cq1,rfl,p1,q6,e2⟩,⟨_,_,rfl,rfl,⟨_,_,rfl,rfl,rfl⟩⟩⟩,⟨_,_,rfl,⟨a3,cq2,rfl,p2,q7,e3⟩,⟨_,_,rfl,rfl,⟨_,_,rfl,⟨a4,rfl,q8⟩,⟨a5,rfl,q9⟩⟩⟩⟩⟩:=q5
 have r7:=RV.of1 p2 q7 e3
 have hc2:=hc1.ext hx1
 refine Zp rfl (fun _=>xnil rfl)<|Zp rfl (fun _=>xfa rfl fa199_1)<|Zq rfl (fun _ hS=>xld rfl ti51 ((hc2.ext (hS.resolve_left nofun)).at 4 rfl)) (Ext.refl _)<|Zn rfl<|?_
 have hz:=bs hF; obtain ⟨x5,Ex5,hF⟩:=hz
 have hz:=(RV.els r7).ix Ex5; obtain ⟨b5,f1,cs5,e4,i1,i2,q10,hc3⟩:=hz
 cases e4
 obtain ⟨_,_,rfl,rfl,rfl⟩:=q10
 have hc4:=hc3.ext hx1
 refine Zp rfl (fun _=>xixs rfl rfl Tryz.underlying51 ti56 i1 i2)<|Zp rfl (fun _=>xfa rfl fa56_0)<|Zq rfl (fun _ hS=>xld rfl ti3 ((hc4.ext (hS.resolve_left nofun)).at 0 rfl)) (Ext.refl _)<|?_
 have hz:=bs hF; obtain ⟨x6,Ex6,hF⟩:=hz
 refine Zp rfl (fun _=>xshr rfl rfl Ex6)<|Zp rfl (fun _=>xand rfl rfl)<|Zp rfl (fun _=>xeql rfl rfl)<|Zp rfl (fun _=>xas)<|?_
 cases hF
 exact wp_ret<|rt rfl (.tmp rfl rfl .nil) ⟨rfl,hx1⟩
end Go.Proofs.YtfmelbioccbdoaaGreat
end
section
namespace Go.Proofs.YtfmelbioccbdoaaGreat
open Go Go.Md Go.RowKit
instance:Key (Int×Int):=⟨fun k=>(Lit.int .i64 k.1).wf && (Lit.int .i64 k.2).wf⟩
theorem laid_out:laidOutB Tryz.prog=true:=by kernel_rfl
theorem cells2:Tryz.prog.cellsOf 2=1:=by kernel_rfl
theorem cells3:Tryz.prog.cellsOf 3=1:=by kernel_rfl
theorem lit_of2 {d:Nat} (hd:0<d) {a:Int} (h:(Lit.int .i64 a).wf=true):Tryz.prog.keyLits d 2 [.int .i64 a]=some [.int .i64 a]:=by
 obtain ⟨d,rfl⟩:∃ e,d=e + 1:=⟨d - 1,by omega⟩
 unfold Program.keyLits
 rw [Tryz.underlying2]
 simp [h]
theorem lit_of3 {d:Nat} (hd:0<d) {a:Int} (h:(Lit.int .i64 a).wf=true):Tryz.prog.keyLits d 3 [.int .i64 a]=some [.int .i64 a]:=by
 obtain ⟨d,rfl⟩:∃ e,d=e + 1:=⟨d - 1,by omega⟩
 unfold Program.keyLits
 rw [Tryz.underlying3]
 simp [h]
theorem inj2 {a b:Int×Int} (h:fv a=fv b):a=b:=by
 obtain ⟨a1,a2⟩:=a
 obtain ⟨b1,b2⟩:=b
 have:(Value.agg #[.int .i64 a1,.int .i64 a2])=.agg #[.int .i64 b1,.int .i64 b2]:=h
 simp at this
 simp [this.1,this.2]
theorem row326:(326:TypeId)<Tryz.prog.types.size:=of_decide_eq_true (by kernel_rfl)
theorem cells326:Tryz.prog.cellsOf 326=2:=by kernel_rfl
theorem keyt326:Tryz.prog.keyType 326=true:=by kernel_rfl
theorem keyat326:Tryz.prog.keyTypeAt 2 326=true:=by kernel_rfl
theorem kt326:KT Tryz.prog 326 (Int×Int) where
 kd:=Maps.Keyed.of_law (by refine deep_law_laid laid_out (m:=2) (by omega) row326 keyat326 ?_; rw [Tryz.underlying326])
 of:=by
  rintro ⟨a,b⟩ h
  have h':(Lit.int .i64 a).wf=true∧(Lit.int .i64 b).wf=true:=by simpa [Key.ok] using h
  obtain ⟨ha,hb⟩:=h'
  have hv:fv ((a,b):Int×Int)=.agg #[.int .i64 a,.int .i64 b]:=rfl
  have hp:0<462:=by decide
  refine ⟨.string (keyBytes [.int .i64 a,.int .i64 b]),?_⟩
  rw [hv,keyOf,Tryz.underlying326]
  simp only [keyt326,Value.formed,Tryz.underlying326,cells326]
  unfold Program.keyLits
  rw [Tryz.underlying326]
  simp [Value.cells,cells326,cells3,lit_of3 hp ha,lit_of3 hp hb]
 inj:=fun _ _=>inj2
theorem row206:(206:TypeId)<Tryz.prog.types.size:=of_decide_eq_true (by kernel_rfl)
theorem cells206:Tryz.prog.cellsOf 206=2:=by kernel_rfl
theorem keyt206:Tryz.prog.keyType 206=true:=by kernel_rfl
theorem keyat206:Tryz.prog.keyTypeAt 2 206=true:=by kernel_rfl
theorem kt206:KT Tryz.prog 206 (Int×Int) where
 kd:=Maps.Keyed.of_law (by refine deep_law_laid laid_out (m:=2) (by omega) row206 keyat206 ?_; rw [Tryz.underlying206])
 of:=by
  rintro ⟨a,b⟩ h
  have h':(Lit.int .i64 a).wf=true∧(Lit.int .i64 b).wf=true:=by simpa [Key.ok] using h
  obtain ⟨ha,hb⟩:=h'
  have hv:fv ((a,b):Int×Int)=.agg #[.int .i64 a,.int .i64 b]:=rfl
  have hp:0<462:=by decide
  refine ⟨.string (keyBytes [.int .i64 a,.int .i64 b]),?_⟩
  rw [hv,keyOf,Tryz.underlying206]
  simp only [keyt206,Value.formed,Tryz.underlying206,cells206]
  unfold Program.keyLits
  rw [Tryz.underlying206]
  simp [Value.cells,cells206,cells3,lit_of3 hp ha,lit_of3 hp hb]
 inj:=fun _ _=>inj2
theorem row426:(426:TypeId)<Tryz.prog.types.size:=of_decide_eq_true (by kernel_rfl)
theorem cells426:Tryz.prog.cellsOf 426=2:=by kernel_rfl
theorem keyt426:Tryz.prog.keyType 426=true:=by kernel_rfl
theorem keyat426:Tryz.prog.keyTypeAt 2 426=true:=by kernel_rfl
theorem kt426:KT Tryz.prog 426 (Int×Int) where
 kd:=Maps.Keyed.of_law (by refine deep_law_laid laid_out (m:=2) (by omega) row426 keyat426 ?_; rw [Tryz.underlying426])
 of:=by
  rintro ⟨a,b⟩ h
  have h':(Lit.int .i64 a).wf=true∧(Lit.int .i64 b).wf=true:=by simpa [Key.ok] using h
  obtain ⟨ha,hb⟩:=h'
  have hv:fv ((a,b):Int×Int)=.agg #[.int .i64 a,.int .i64 b]:=rfl
  have hp:0<462:=by decide
  refine ⟨.string (keyBytes [.int .i64 a,.int .i64 b]),?_⟩
  rw [hv,keyOf,Tryz.underlying426]
  simp only [keyt426,Value.formed,Tryz.underlying426,cells426]
  unfold Program.keyLits
  rw [Tryz.underlying426]
  simp [Value.cells,cells426,cells2,cells3,lit_of2 hp ha,lit_of3 hp hb]
 inj:=fun _ _=>inj2
end Go.Proofs.YtfmelbioccbdoaaGreat
end
section
namespace Go.Md
open Go Go.RowKit
section
variable {P:Program} {ops:Array Oper} {S:World→Prop} {T:List Nat} {m:Nat}
def opW (m:Nat) (P:Program) (ops:Array Oper) (S:World→Prop) (T:List Nat) (j:Nat) (K:Act→World→Prop) (a:Act) (w:World):Prop :=
 wpOpIn Fence.wide m P ops noQ j (fun a' w'=>(j ∉ T→S w→S w')∧K a' w') a w
theorem YldC.opW {any:Bool} {i:Nat} {o:Oper} {v:Value} {a:Act} {w:World} (hi:ops[i]?=some o) (hy:YldC P ops S any o v a) (hS:any=true∨S w)
  {K:Act→World→Prop} (h:K (a.put o.dst v) w):opW m P ops S T i K a w:=by
 unfold Md.opW Go.wpOpIn
 simp only [hi]
 rcases hy with ⟨hw,hv⟩ | ⟨hw,rfl⟩
 ·simp only [hw,if_true,Oper.wpIn,show Fence.wide.round=none from rfl,Oper.semAt_none,hv w hS,Oper.uponIn]; exact ⟨fun _ _=>trivial,fun _ h=>h,h⟩
 ·simp only [hw,Bool.false_eq_true,if_false]; exact ⟨fun _ _=>trivial,fun _ h=>h,h⟩
def wpAnyW (m:Nat) (P:Program) (ops:Array Oper) (S:World→Prop) (T:List Nat) (Q:Act→World→Prop):Nat→Array Bool→Act→World→Prop
 | 0,listed,a,w=>Region.ready .any ops listed=[]∧Q a w
 | fuel + 1,listed,a,w =>
  (Region.ready .any ops listed=[]→Q a w) ∧
  ∀ i∈Region.ready .any ops listed,opW m P ops S T i (wpAnyW m P ops S T Q fuel (listed.setIfInBounds i true)) a w
theorem wpOpIn_noQ {Q:Exit→Act→World→Prop} {i:Nat} {K K':Act→World→Prop} {a:Act} {w:World} (hk:∀ a w,K a w→K' a w) (h:wpOpIn Fence.wide m P ops noQ i K a w):wpOpIn Fence.wide m P ops Q i K' a w:=by
 unfold wpOpIn at *
 split
 ·exact hk _ _ (by simpa [*] using h)
 ·rename_i o ho
  simp only [ho] at h
  split
  ·rename_i hw
   simp only [hw,if_true] at h
   unfold Oper.wpIn at *
   refine ⟨h.1,?_⟩
   have h:=h.2
   generalize (o.semAt Fence.wide.round a.eval).run P w=r at *
   have hl:LetsOut noQ→False:=fun h=>by obtain ⟨_,_,h⟩:=h; exact h.elim
   cases r with
   | ok n w' =>
    cases n <;> simp only [Oper.uponIn] at h ⊢ <;>
     first
      | exact hk _ _ h
      | exact ⟨h.1,CallsIn.mono h.2 (fun e w'' he=>by cases e <;> first | exact hk _ _ he | exact he.elim | exact (hl he).elim)⟩
      | exact ⟨h.1,RowsIn.mono h.2 (fun _ _ he=>hk _ _ he)⟩
      | exact ⟨h.1,RoundIn.mono h.2 (fun e w'' he=>by cases e <;> first | exact hk _ _ he | exact he.elim | exact (hl he).elim)⟩
   | halt x w'=>cases x <;> simp only [Oper.uponIn] at h ⊢; exact h.elim
  ·rename_i hw; simp only [hw] at h; exact ⟨h.1,hk _ _ h.2⟩
theorem wpAny_of_W {Q:Exit→Act→World→Prop}:∀ (fuel:Nat) (listed:Array Bool) (a:Act) (w:World),wpAnyW m P ops S T (Q .normal) fuel listed a w→wpAnyIn Fence.wide m P .any ops Q fuel listed a w
 | 0,_,_,_,h=>h
 | fuel + 1,_,_,_,h=>⟨h.1,fun i hi=>wpOpIn_noQ (fun a' w' h'=>wpAny_of_W fuel _ a' w' h'.2) (h.2 i hi)⟩
theorem opW_put {any:Bool} {j:Nat} {oi oj:Oper} {v:Value} (hj:ops[j]?=some oj) (hap:oi.apart ops oj=true)
  (hsi:∀ cs b,oi.op≠.select cs b) (hsj:∀ cs b,oj.op≠.select cs b) {K:Act→World→Prop} {a:Act} {w:World}
  (hy:YldC P ops S any oi v a) (h:opW m P ops S T j K (a.put oi.dst v) w) :
  opW m P ops S T j (fun a' w'=>YldC P ops S any oi v a'∧K (a'.put oi.dst v) w') a w:=by
 obtain ⟨h1,h2,h3⟩:=Oper.apart_spec hap
 have keep:∀ (a:Act),YldC P ops S any oi v a→∀ u,YldC P ops S any oi v (a.put oj.dst u):=fun a hy u =>
  hy.of_same (execOp_put oi hsi a oj.dst u h3) (wanted_put oi a oj.dst u h3)
 have keepD:∀ d,YldC P ops S any oi v { a with defers:=d::a.defers }:=fun d=>hy.of_same rfl rfl
 have hl:LetsOut noQ→False:=fun h=>by obtain ⟨_,_,h⟩:=h; exact h.elim
 unfold opW wpOpIn at *
 simp only [hj] at *
 rw [wanted_put oj a oi.dst v h1] at h
 split
 ·rename_i hw
  simp only [hw,if_true] at h
  unfold Oper.wpIn at *
  refine ⟨fun _ _=>trivial,?_⟩
  have h:=h.2
  rw [show Fence.wide.round=none from rfl,Oper.semAt_none,execOp_put oj hsj a oi.dst v h1] at h
  rw [show Fence.wide.round=none from rfl,Oper.semAt_none]
  generalize (execOp a.eval oj).run P w=r at *
  cases r with
  | ok n w' =>
   cases n <;> simp only [Oper.uponIn] at h ⊢
   case value u=>exact ⟨h.1,keep a hy u,by rw [← Act.put_comm a v u h2]; exact h.2⟩
   case skip=>exact ⟨h.1,keep a hy _,by rw [← Act.put_comm a v undef h2]; exact h.2⟩
   case defer d =>
    refine ⟨h.1,keep _ (keepD d) _,?_⟩
    rw [← Act.put_comm _ v undef h2,← Act.put_defers]
    exact h.2
   case enter f args =>
    refine ⟨h.1,CallsIn.mono h.2 fun e w'' he=>?_⟩
    cases e with
    | returned u=>exact ⟨he.1,keep a hy u,by rw [← Act.put_comm a v u h2]; exact he.2⟩
    | panicked c=>exact he.elim
    | outgrown=>exact (hl he).elim
   case row row args=>exact ⟨h.1,RowsIn.mono h.2 fun u w'' he=>⟨he.1,keep a hy u,by rw [← Act.put_comm a v u h2]; exact he.2⟩⟩
   case round l f tmps assign body =>
    refine ⟨h.1,RoundIn.mono h.2 fun e w'' he=>?_⟩
    cases e with
    | returned u=>exact ⟨he.1,keep a hy u,by rw [← Act.put_comm a v u h2]; exact he.2⟩
    | panicked c=>exact he.elim
    | outgrown=>exact (hl he).elim
  | halt x w' =>
   cases x <;> simp only [Oper.uponIn] at h ⊢
   case panic u=>exact h.elim
 ·rename_i hw
  simp only [hw] at h
  exact ⟨fun _ _=>trivial,h.2.1,keep a hy _,by rw [← Act.put_comm a v undef h2]; exact h.2.2⟩
theorem opW_mono {j:Nat} {K K':Act→World→Prop} {a:Act} {w:World} (hk:∀ a' w',(j ∉ T→S w→S w')→K a' w'→K' a' w') (h:opW m P ops S T j K a w):opW m P ops S T j K' a w :=
 wpOpIn_mono (fun a' w' h'=>⟨h'.1,hk a' w' h'.1 h'.2⟩) h
theorem wpAnyW_first {any:Bool} {Q:Act→World→Prop} {i:Nat} {oi:Oper} {v:Value} (hi:ops[i]?=some oi) (hsel:∀ (j:Nat) (o:Oper) cs b,ops[j]?=some o→o.op≠.select cs b)
  (hT:any=true∨∀ j∈T,waitsT ops 12 i j=true) :
  ∀ (fuel:Nat) (listed:Array Bool) (a:Act) (w:World),ClosedL ops listed →
   (∀ j oj,ops[j]?=some oj→j≠i→listed.getD j true=false→(∀ e∈oj.after,Region.binds .any e=true→e.on≠i)→oi.apart ops oj=true) →
   i∈Region.ready .any ops listed→YldC P ops S any oi v a→(any=true∨S w) →
   wpAnyW m P ops S T Q fuel (listed.setIfInBounds i true) (a.put oi.dst v) w→wpAnyW m P ops S T Q (fuel + 1) listed a w:=by
 intro fuel
 induction fuel with
 | zero =>
  intro listed a w hcl _ hr hy hS H
  refine ⟨fun h=>(by rw [h] at hr; cases hr),fun j hj=>?_⟩
  by_cases hji:j=i
  ·subst hji; exact hy.opW hi hS H
  ·have:=ready_mono hj hji
   rw [H.1] at this
   cases this
 | succ fuel ih =>
  intro listed a w hcl hfree hr hy hS H
  refine ⟨fun h=>(by rw [h] at hr; cases hr),fun j hj=>?_⟩
  by_cases hji:j=i
  ·subst hji; exact hy.opW hi hS H
  ·have h1:=H.2 j (ready_mono hj hji)
   obtain ⟨hjun,oj,hoj,hall⟩:=mem_ready.1 hj
   have hnot:∀ e∈oj.after,Region.binds .any e=true→e.on≠i:=fun e he hb heq=>by
    have h1:=hall e he hb
    have h0:=(mem_ready.1 hr).1
    rw [heq] at h1
    rcases Nat.lt_or_ge i listed.size with h' | h'
    ·simp [h'] at h0 h1; rw [h0] at h1; cases h1
    ·simp [Array.getElem?_eq_none h'] at h1
   have hjT:any=true∨j ∉ T:=hT.imp id fun hT hmem=>by
    have hw:=hT j hmem
    have h0:=(mem_ready.1 hr).1
    rw [waitsT_not hcl (getD_tf h0) 12 j (fun o ho e he hb=>by rw [hoj] at ho; cases ho; exact hall e he hb)] at hw
    cases hw
   have h2:=opW_put hoj (hfree j oj hoj hji hjun hnot) (fun cs b=>hsel i oi cs b hi) (fun cs b=>hsel j oj cs b hoj) hy h1
   have hfree':∀ k ok,ops[k]?=some ok→k≠i→(listed.setIfInBounds j true).getD k true=false →
     (∀ e∈ok.after,Region.binds .any e=true→e.on≠i)→oi.apart ops ok=true:=fun k ok hk hki hun hno=>by
    refine hfree k ok hk hki ?_ hno
    by_cases hjk:j=k
    ·subst hjk; exact hjun
    ·rw [getD_set_ne true hjk] at hun; exact hun
   refine opW_mono (fun a' w' hSS h3=>ih (listed.setIfInBounds j true) a' w' (hcl.set hoj hall) hfree' (ready_mono hr (Ne.symm hji)) h3.1 ?_ ?_) h2
   ·rcases hS with h | h
    ·exact .inl h
    ·rcases hjT with h' | h'
     ·exact .inl h'
     ·exact .inr (hSS h' h)
   ·rw [Array.setIfInBounds_comm _ _ hji]
    exact h3.2
def Plan.okW (ops:Array Oper) (T:List Nat):Bool→Nat→Plan→Array Bool→Bool
 | true,_,.stop,_=>true
 | true,f + 1,.eff i p m,l=>p.okW ops T false f (l.setIfInBounds i true) && m.okW ops T true (f + 1) l
 | false,_,.fin,l=>(Region.ready .any ops l).isEmpty
 | false,f + 1,.pure any i p,l=>(Region.ready .any ops l).contains i && Region.free .any ops l i && (any || T.all (waitsT ops 12 i)) && p.okW ops T false f (l.setIfInBounds i true)
 | false,f + 1,.eff i p m,l=>!(Region.ready .any ops l).isEmpty && (Region.ready .any ops l).all (i::m.heads).contains && p.okW ops T false f (l.setIfInBounds i true) && m.okW ops T true (f + 1) l
 | _,_,_,_=>false
def Plan.wpW (m:Nat) (P:Program) (ops:Array Oper) (S:World→Prop) (T:List Nat) (Q:Act→World→Prop):Bool→Plan→Act→World→Prop
 | true,.eff i p q,a,w=>opW m P ops S T i (p.wpW m P ops S T Q false) a w∧q.wpW m P ops S T Q true a w
 | true,_,_,_=>True
 | false,.fin,a,w=>Q a w
 | false,.pure any i p,a,w=>∃ o v,ops[i]?=some o∧YldC P ops S any o v a∧(any=true∨S w)∧p.wpW m P ops S T Q false (a.put o.dst v) w
 | false,.eff i p q,a,w=>opW m P ops S T i (p.wpW m P ops S T Q false) a w∧q.wpW m P ops S T Q true a w
 | false,.stop,_,_=>False
theorem Plan.branchesW {Q:Act→World→Prop} {a:Act} {w:World} {f:Nat} {l:Array Bool} {K:Nat→Act→World→Prop} :
  ∀ (p:Plan),p.okW ops T true (f + 1) l=true→p.wpW m P ops S T Q true a w →
  (∀ (p':Plan) i a w,p'.okW ops T false f (l.setIfInBounds i true)=true→p'.wpW m P ops S T Q false a w→K i a w) →
  ∀ i∈p.heads,opW m P ops S T i (K i) a w
 | .eff i p q,hok,hw,hK,j,hj=>by
  simp only [Plan.okW,Bool.and_eq_true] at hok
  simp only [Plan.wpW] at hw
  rcases List.mem_cons.1 hj with rfl | hj
  ·exact opW_mono (fun a' w' _ h=>hK p _ a' w' hok.1 h) hw.1
  ·exact Plan.branchesW q hok.2 hw.2 hK j hj
 | .stop,_,_,_,j,hj=>by cases hj
 | .fin,_,_,_,j,hj=>by cases hj
 | .pure _ _ _,_,_,_,j,hj=>by cases hj
theorem Plan.soundW {Q:Act→World→Prop} (hs:Region.noSelect ops=true):∀ (f:Nat) (p:Plan) (l:Array Bool) (a:Act) (w:World),ClosedL ops l →
  p.okW ops T false f l=true→p.wpW m P ops S T Q false a w→wpAnyW m P ops S T Q f l a w
 | f,.stop,l,a,w,_,hok,hw=>by simp [Plan.wpW] at hw
 | 0,.fin,l,a,w,_,hok,hw=>⟨by simpa [Plan.okW] using hok,hw⟩
 | f + 1,.fin,l,a,w,_,hok,hw=>by
  have hr:Region.ready .any ops l=[]:=by simpa [Plan.okW] using hok
  exact ⟨fun _=>hw,fun i hi=>by rw [hr] at hi; cases hi⟩
 | 0,.pure _ _ _,_,_,_,_,hok,_=>by simp [Plan.okW] at hok
 | 0,.eff _ _ _,_,_,_,_,hok,_=>by simp [Plan.okW] at hok
 | f + 1,.pure any i p,l,a,w,hcl,hok,hw=>by
  simp only [Plan.okW,Bool.and_eq_true] at hok
  obtain ⟨⟨⟨hr,hf⟩,hT⟩,hp⟩:=hok
  simp only [Plan.wpW] at hw
  obtain ⟨o,v,ho,hy,hS,hw⟩:=hw
  exact wpAnyW_first ho (Region.noSelect_spec hs) (by simpa using hT) f l a w hcl (Region.free_spec ho hf) (by simpa using hr) hy hS (Plan.soundW hs f p _ _ _ (hcl.ready (by simpa using hr)) hp hw)
 | f + 1,.eff i p q,l,a,w,hcl,hok,hw=>by
  simp only [Plan.okW,Bool.and_eq_true] at hok
  obtain ⟨⟨⟨hne,hall⟩,hp⟩,hm⟩:=hok
  simp only [Plan.wpW] at hw
  refine ⟨fun h=>by simp [h] at hne,fun j hj=>?_⟩
  have hj':j∈i::q.heads:=by
   have:=List.all_eq_true.1 hall j hj
   simpa using this
  rcases List.mem_cons.1 hj' with rfl | hj'
  ·exact opW_mono (fun a' w' _ h=>Plan.soundW hs f p _ a' w' (hcl.ready hj) hp h) hw.1
  ·exact opW_mono (fun _ _ _ h=>h hj) (Plan.branchesW (K:=fun i a w=>i∈Region.ready .any ops l→wpAnyW m P ops S T Q f (l.setIfInBounds i true) a w) q hm hw.2 (fun p' i a w h1 h2 hi=>Plan.soundW hs f p' _ a w (hcl.ready hi) h1 h2) j hj')
end
section
variable {P:Program} {Q:Exit→Act→World→Prop} {m n:Nat} {L:Fr} {D:List Deferred} {w:World} {ops:Array Oper} {rest:List Oper}
variable {S:World→Prop} {T:List Nat} {QQ:Act→World→Prop}
theorem wplW {id:Nat} {l:List Oper} (S:World→World→Prop) (T:List Nat) (p:Plan) (hm:P.follows .mixedOrders=true)
  (hok:(Region.noSelect l.toArray && p.okW l.toArray T false l.length (Array.replicate l.length false))=true)
  (h:∀ wd,Ext w wd→p.wpW m P l.toArray (S wd) T (Q .normal) false (act n L D) wd):(Code.region id l.toArray true).wp P Q (act n L D) w:=by
 simp only [Bool.and_eq_true] at hok
 refine (wpIn_wide (n:=m)).1 (wpIn_region_any hm (wpAny_of_W (S:=S w.drew) (T:=T) _ _ _ _ ?_))
 have:=Plan.soundW (P:=P) (m:=m) (S:=S w.drew) (Q:=Q .normal) hok.1 l.length p _ _ w.drew ClosedL.none hok.2 (h w.drew (Ext.drew w))
 simpa using this
theorem pvw {any:Bool} {i:Nat} {p:Plan} {o:Oper} {d:Nat} {v:Value} (ho:ops[i]?=some o) (hg:o.guard=none) (hd:o.dst=some d)
  (h:∀ w',(any=true∨S w')→(execOp (ev n L) o).run P w'=.ok (.value v) w') (hS:any=true∨S w) (k:p.wpW m P ops S T QQ false (act n (upd L d v) D) w) :
  Plan.wpW m P ops S T QQ false (.pure any i p) (act n L D) w:=by
 refine ⟨o,v,ho,.inl ⟨by simp [Region.wanted,hg],fun w' hw'=>by rw [ev_act]; exact h w' hw'⟩,hS,?_⟩
 rw [hd,put_act]
 exact k
theorem pvtw {any:Bool} {i:Nat} {p:Plan} {o:Oper} {d j:Nat} {b:Bool} {oj:Oper} {t:Nat} {v u:Value} (ho:ops[i]?=some o) (hg:o.guard=some (j,b)) (hj:ops[j]?=some oj) (hdj:oj.dst=some t) (ht:Nat.blt t n=true)
  (hv:L t=u) (hb:u=.bool b) (hd:o.dst=some d)
  (h:∀ w',(any=true∨S w')→(execOp (ev n L) o).run P w'=.ok (.value v) w') (hS:any=true∨S w) (k:p.wpW m P ops S T QQ false (act n (upd L d v) D) w) :
  Plan.wpW m P ops S T QQ false (.pure any i p) (act n L D) w:=by
 refine ⟨o,v,ho,.inl ⟨?_,fun w' hw'=>by rw [ev_act]; exact h w' hw'⟩,hS,by rw [hd,put_act]; exact k⟩
 simp [Region.wanted,hg,yielded,hj,hdj,tmps_act n L D t ht,hv,hb]
theorem pvfw {any:Bool} {i:Nat} {p:Plan} {o:Oper} {d j:Nat} {b:Bool} {oj:Oper} {t:Nat} {u:Value} (ho:ops[i]?=some o) (hg:o.guard=some (j,b)) (hj:ops[j]?=some oj) (hdj:oj.dst=some t) (ht:Nat.blt t n=true)
  (hv:L t=u) (hb:u≠.bool b) (hd:o.dst=some d) (hS:any=true∨S w) (k:p.wpW m P ops S T QQ false (act n (upd L d undef) D) w) :
  Plan.wpW m P ops S T QQ false (.pure any i p) (act n L D) w:=by
 refine ⟨o,undef,ho,.inr ⟨?_,rfl⟩,hS,by rw [hd,put_act]; exact k⟩
 simp only [Region.wanted,hg,yielded,hj,hdj,Option.bind_some,tmps_act n L D t ht,hv]
 cases u <;> simp_all
theorem pe1w {i:Nat} {p:Plan} {o:Oper} (ho:ops[i]?=some o)
  (h:wpList P ops (fun e a' w'=>match e with | .normal=>(i ∉ T→S w→S w')∧p.wpW m P ops S T QQ false a' w' | _=>False) [o] (act n L D) w) :
  Plan.wpW m P ops S T QQ false (.eff i p .stop) (act n L D) w:=by
 refine ⟨?_,trivial⟩
 unfold opW wpOpIn
 simp only [ho]
 unfold wpList at h
 split
 ·rename_i hw
  rw [if_pos hw] at h
  rcases h with h | ⟨_,_,_,h⟩
  case inr=>exact h.elim
  unfold Oper.wp at h
  unfold Oper.wpIn
  refine ⟨fun _ _=>trivial,?_⟩
  rw [show Fence.wide.round=none from rfl,Oper.semAt_none]
  generalize (execOp (act n L D).eval o).run P w=r at *
  have fin:∀ a' w',wpList P ops (fun e a' w'=>match e with | .normal=>(i ∉ T→S w→S w')∧p.wpW m P ops S T QQ false a' w' | _=>False) [] a' w'→(i ∉ T→S w→S w')∧p.wpW m P ops S T QQ false a' w':=by
   intro a' w' hh
   unfold wpList at hh
   exact hh
  have hd:Fence.wide.depth.isSome=true→1≤m:=fun h=>by simp [Fence.wide] at h
  cases r with
  | ok q w' =>
   cases q <;> simp only [Oper.upon,Oper.uponIn] at h ⊢
   case value=>exact fin _ _ h
   case skip=>exact fin _ _ h
   case defer=>exact fin _ _ h
   case enter f args=>exact ⟨hd,(callsIn_wide.2 h).mono fun e w'' he=>by cases e <;> first | exact fin _ _ he | exact he.elim | (obtain ⟨_,_,he⟩:=he; exact he.elim)⟩
   case row row args=>exact ⟨hd,fun c cs _=>by
    obtain ⟨v,w'',hr,hs⟩:=h c cs
    exact ⟨v,w'',fin _ _ hr,stepsIn_wide.2 hs⟩⟩
  | halt x w'=>cases x <;> simp only [Oper.upon] at h
 ·rename_i hw
  rw [if_neg hw] at h
  unfold wpList at h
  exact ⟨fun _ _=>trivial,h⟩
theorem pexw {i:Nat} {p:Plan} {o:Oper} {d j:Nat} {b:Bool} {oj:Oper} {t:Nat} {u:Value} (ho:ops[i]?=some o) (hg:o.guard=some (j,b)) (hj:ops[j]?=some oj) (hdj:oj.dst=some t) (ht:Nat.blt t n=true)
  (hv:L t=u) (hb:u≠.bool b) (hd:o.dst=some d) (k:p.wpW m P ops S T QQ false (act n (upd L d undef) D) w):Plan.wpW m P ops S T QQ false (.eff i p .stop) (act n L D) w :=
 pe1w ho (gfk hg hj hdj ht hv hb hd (nl ⟨fun _ h=>h,k⟩))
theorem pyw {i:Nat} {p:Plan} {o:Oper} {d j l:Nat} {b:Bool} {oj:Oper} {t:Nat} {u:Value} {fn:FuncId} {tmps:Array Value} {assign body:Code} {R:Ending→World→Prop} (ho:ops[i]?=some o) (hg:o.guard=some (j,b)) (hj:ops[j]?=some oj) (hdj:oj.dst=some t) (ht:Nat.blt t n=true)
  (hv:L t=u) (hb:u=.bool b) (hd:o.dst=some d) (hT:i∈T)
  (h:(execOp (ev n L) { o with guard:=none }).run P w=.ok (.round l fn tmps assign body) w) (hr:RoundIn Fence.wide (m - 1) P l fn tmps assign body w R)
  (k:∀ e w',R e w'→∃ v,e=.returned v∧p.wpW m P ops S T QQ false (act n (upd L d v) D) w'):Plan.wpW m P ops S T QQ false (.eff i p .stop) (act n L D) w:=by
 refine ⟨?_,trivial⟩
 unfold opW wpOpIn
 simp only [ho]
 have hw:Region.wanted o (yielded ops (act n L D).tmps)=true:=by simp [Region.wanted,hg,yielded,hj,hdj,tmps_act n L D t ht,hv,hb]
 rw [if_pos hw]
 unfold Oper.wpIn
 refine ⟨fun _ _=>trivial,?_⟩
 rw [show Fence.wide.round=none from rfl,Oper.semAt_none,ev_act]
 have h':(execOp (ev n L) o).run P w=.ok (.round l fn tmps assign body) w:=h
 rw [h']
 simp only [Oper.uponIn]
 refine ⟨fun h=>by simp [Fence.wide] at h,hr.mono fun e w' he=>?_⟩
 obtain ⟨v,rfl,hk⟩:=k e w' he
 simp only [hd,put_act]
 exact ⟨fun h=>(h hT).elim,hk⟩
end
section
variable {B b N:Nat} {w w1 w2:World}
theorem KpOk.belx:KpOk B (BelX B b b):=⟨BelX.trans,fun h k=>BelX.of k h,fun h _ k=>BelX.refl.chg k h⟩
theorem Okb.belx {w0:World} {N b c:Nat} (h0:N≤w0.heap.size) (hN:N≤B):Okb B (fun w=>BelX N b c w0 w):=⟨fun h k=>h.ext k (Nat.le_trans h0 h.size),fun h hl _ _ k=>h.chg k (by omega)⟩
theorem Mp.belx {κ ν:Type} [DecidableEq κ] [Enc κ] [Flat κ] [Key κ] [Enc ν] [Flat ν] {q:Nat} {l:List (κ×ν)} {c:Nat} (h:Mp w q l) (k:BelX N b c w w1) (hq:q<N) (h1:q≠b) (h2:q≠c):Mp w1 q l:=h.same (k.block q hq h1 h2)
end
section
variable {w:World} {b o:Nat}
theorem Cs.fst {l1 l2:List Value} (h:Cs w b o (l1++l2)):Cs w b o l1:=fun j c hc=>h j c (by rw [List.getElem?_append_left (List.getElem?_eq_some_iff.1 hc).1]; exact hc)
theorem Cs.snd {l1 l2:List Value} (h:Cs w b o (l1++l2)):Cs w b (o + l1.length) l2:=fun j c hc=>by
 have:=h (l1.length + j) c (by rw [List.getElem?_append_right (by omega)]; simpa using hc)
 rwa [show o + (l1.length + j)=o + l1.length + j by omega] at this
theorem Cs.mid {α:Type} [Enc α] [Flat α] {m:Nat} {l1 l2:List Value} {X:Ar m α} (h:Cs w b o (l1++(X.l.flatMap Flat.enc++l2))):Cs w b (o + l1.length) (X.l.flatMap Flat.enc):=h.snd.fst
theorem Cs.end3 {α:Type} [Enc α] [Flat α] {m:Nat} {l1 l2:List Value} {X:Ar m α} (h:Cs w b o (l1++(X.l.flatMap Flat.enc++l2))):Cs w b (o + l1.length + m * Enc.n α) l2:=by
 have:=h.snd.snd
 rwa [arlen] at this
end
structure BelP (ok:Nat→Prop) (N:Nat) (w w':World):Prop where
 os:w'.os=w.os
 tape:w'.tape=w.tape
 output:w'.output=w.output
 size:w.heap.size≤w'.heap.size
 block:∀ k,k<N→ok k→w'.heap[k]?=w.heap[k]?
section
variable {ok ok':Nat→Prop} {N M B b:Nat} {w w1 w2:World}
theorem BelP.refl:BelP ok N w w:=⟨rfl,rfl,rfl,Nat.le_refl _,fun _ _ _=>rfl⟩
theorem BelP.trans (h:BelP ok N w w1) (k:BelP ok N w1 w2):BelP ok N w w2 :=
 ⟨k.os.trans h.os,k.tape.trans h.tape,k.output.trans h.output,Nat.le_trans h.size k.size,fun q hq h1=>(k.block q hq h1).trans (h.block q hq h1)⟩
theorem BelP.mono (h:BelP ok N w w1) (hM:M≤N):BelP ok M w w1:=⟨h.os,h.tape,h.output,h.size,fun q hq h1=>h.block q (by omega) h1⟩
theorem BelP.weak (h:BelP ok N w w1) (hk:∀ q,q<M→ok' q→q<N∧ok q):BelP ok' M w w1:=⟨h.os,h.tape,h.output,h.size,fun q hq h1=>h.block q (hk q hq h1).1 (hk q hq h1).2⟩
theorem BelP.ext (h:BelP ok N w w1) (k:Ext w1 w2) (hN:N≤w1.heap.size):BelP ok N w w2 :=
 ⟨k.os.trans h.os,k.tape.trans h.tape,k.output.trans h.output,Nat.le_trans h.size k.size,fun q hq h1=>(k.block q (by omega)).trans (h.block q hq h1)⟩
theorem BelP.of (k:Ext w w1) (hN:N≤w.heap.size):BelP ok N w w1:=BelP.refl.ext k hN
theorem BelP.chg (h:BelP ok N w w1) (k:Chg b w1 w2) (hb:N≤b∨¬ ok b):BelP ok N w w2 :=
 ⟨k.os.trans h.os,k.tape.trans h.tape,k.output.trans h.output,by rw [k.size]; exact h.size,fun q hq h1=>(k.other q fun e=>by subst e; rcases hb with hb | hb; omega; exact hb h1).trans (h.block q hq h1)⟩
theorem BelP.gr {row:Option Nat} (h:BelP ok N w w1) (k:w1.grownBy w2 row) (hN:N≤w1.heap.size) (hr:∀ q,row=some q→N≤q∨¬ ok q):BelP ok N w w2 :=
 ⟨k.os.trans h.os,k.tape.trans h.tape,k.output.trans h.output,Nat.le_trans h.size k.size,fun q hq h1=>(k.block q (by omega) fun e=>by rcases hr q e.symm with h2 | h2; omega; exact h2 h1).trans (h.block q hq h1)⟩
theorem BelP.below (h:BelP ok N w w1) (hB:B≤N) (hk:∀ q,q<B→ok q):Below B w w1:=⟨h.os,h.tape,h.output,h.size,fun q hq=>h.block q (by omega) (hk q hq)⟩
theorem BelP.tak (h:BelP ok N w w1) (k:Tak B w1 w2) (hB:N≤B):BelP ok N w w2:=⟨k.os.trans h.os,k.tape.trans h.tape,k.output.trans h.output,by rw [k.size]; exact h.size,fun q hq h1=>(k.low q (by omega)).trans (h.block q hq h1)⟩
theorem BelP.asg {w0:World} (h:BelP ok N w0 w) (k:Asg B w w1) (hN:N≤w.heap.size) (hB:N≤B):BelP ok N w0 w1:=by
 obtain ⟨W1,l,o,hl,h1,h2,h3,_,h4⟩:=k
 exact (h.ext h1 hN).chg h4 (.inl (by omega))
theorem KpOk.belp:KpOk B (BelP ok B):=⟨BelP.trans,fun h k=>BelP.of k h,fun h _ k=>BelP.refl.chg k (.inl h)⟩
theorem Okb.belp {w0:World} (h0:N≤w0.heap.size) (hN:N≤B):Okb B (fun w=>BelP ok N w0 w):=⟨fun h k=>h.ext k (Nat.le_trans h0 h.size),fun h hl _ _ k=>h.chg k (.inl (by omega))⟩
theorem Bx.belp {T:TypeId} {cs:List Value} (h:Bx w b T cs) (k:BelP ok N w w1) (hb:b<N) (h1:ok b):Bx w1 b T cs:=(k.block b hb h1).trans h
theorem Mp.belp {κ ν:Type} [DecidableEq κ] [Enc κ] [Flat κ] [Key κ] [Enc ν] [Flat ν] {l:List (κ×ν)} (h:Mp w b l) (k:BelP ok N w w1) (hb:b<N) (h1:ok b):Mp w1 b l:=h.same (k.block b hb h1)
theorem Row.belp {α:Type} [Enc α] [Flat α] {e:TypeId} {base:Nat} {v:Value} {l:List α} (h:Row e base w v l) (k:BelP ok N w w1) (hv:∀ q,v.ownBlock=some q→q<N∧ok q):Row e base w1 v l:=by
 refine ⟨h.1,?_⟩
 rcases h.2 with hn | ⟨g,cap,cur,e1,hb,hg,r⟩
 ·exact .inl hn
 ·refine .inr ⟨g,cap,cur,e1,hb,?_,r⟩
  have:=hv g (by rw [e1]; rfl)
  rw [k.block g this.1 this.2]
  exact hg
theorem BelP.kf (k:BelP ok w.heap.size w w1) (hk:∀ q,B≤q→ok q):KeepsFrom B w w1:=⟨k.size,fun q _ hB hq _=>(k.block q (Array.getElem?_eq_some_iff.1 hq).1 (hk q hB)).trans hq⟩
theorem Mks.belp {D:List Deferred} (h:Mks B D w) (k:BelP ok w.heap.size w w1) (hk:∀ q,B≤q→ok q):Mks B D w1:=by
 obtain ⟨rs,e,hn,h⟩:=h
 exact ⟨rs,e,hn,fun r hr=>⟨(h r hr).1,(k.block r (Array.getElem?_eq_some_iff.1 (h r hr).2).1 (hk r (h r hr).1)).trans (h r hr).2⟩⟩
end
section
variable {P:Program} {Q:Exit→Act→World→Prop} {l m n:Nat} {L:Fr} {D:List Deferred} {w:World}
theorem wplRS {id:Nat} {k:List Oper} (S:World→World→Prop) (T:List Nat) (p:Plan) (hm:P.follows .mixedOrders=true)
  (hok:(noDefer k && (Region.noSelect k.toArray && p.ok k.toArray T false k.length (Array.replicate k.length false)))=true)
  (h:∀ wd,Ext w wd→p.wp P k.toArray (S wd) T (Q .normal) false (act n L D) wd):(Code.region id k.toArray true).wpIn (RF l) m P Q (act n L D) w:=by
 simp only [Bool.and_eq_true] at hok
 refine wpIn_region_any hm (anyR (noDefer_spec hok.1) _ _ _ _ ?_)
 have:=Plan.sound (P:=P) (S:=S w.drew) (T:=T) (Q:=Q .normal) hok.2.1 k.length p _ (act n L D) w.drew ClosedL.none hok.2.2 (h w.drew (Ext.drew w))
 have:=wpAny_of_C (Q:=onlyN (Q .normal)) (S:=S w.drew) (T:=T) k.length (Array.replicate k.length false) (act n L D) w.drew this
 simpa using this
end
end Go.Md
end
section
namespace Go.Proofs.YtfmelbioccbdoaaGreat
open Go Go.Md Go.RowKit
attribute [local irreducible] Go.wpList Go.Code.wp Go.Calls Go.Md.Rnd Go.Md.Mt Go.Md.MtM Go.Md.RndM Go.Code.wpIn
abbrev TEnd:=(Int×Int)×Int
abbrev TPiece:=(TEnd×TEnd)×Bool
abbrev TCyl:=List TPiece×Int×(Int×Int)
abbrev TStep:=Int×Bool
abbrev TFits:=Ar 16 (Ar 16 Int)
abbrev TTable:=TCyl×List TStep×TFits×Opq×Opq
abbrev TState:=Int×Int
def tcells (a1:Option Addr) (c1:Nat) (c:TCyl) (sv:Value) (X:TFits) (ma mu:Nat):List Value :=
 [.slice a1 c.1.length c1,.int .i64 c.2.1,.int .i64 c.2.2.1,.int .i64 c.2.2.2,sv]++(X.l.flatMap Flat.enc++[.map (some ma),.map (some mu)])
theorem tcells_len {a1:Option Addr} {c1:Nat} {c:TCyl} {sv:Value} {X:TFits} {ma mu:Nat}:(tcells a1 c1 c sv X ma mu).length=263:=by
 unfold tcells
 rw [List.length_append,List.length_append,arlen]
 rfl
theorem tcells_rep {ok:Nat→Prop} {w:World} {a1:Option Addr} {c1:Nat} {c:TCyl} {sv:Value} {X:TFits} {ma mu:Nat} {st:List TStep} (h1:RVo ok w (.slice a1 c.1.length c1) c.1) (h2:RVo ok w sv st) :
  Enc.rep ok w (tcells a1 c1 c sv X ma mu) ((c,st,X,.mk,.mk):TTable):=by
 obtain ⟨a,cc,rfl,h3,h4,h5⟩:=RVo.sl.1 h2
 obtain ⟨a',cc',e,h6,h7,h8⟩:=RVo.sl.1 h1
 cases e
 exact ⟨[.slice a1 c.1.length c1,.int .i64 c.2.1,.int .i64 c.2.2.1,.int .i64 c.2.2.2],[.slice a st.length cc]++(X.l.flatMap Flat.enc++([.map (some ma)]++[.map (some mu)])),rfl,
  ⟨[.slice a1 c.1.length c1],[.int .i64 c.2.1]++([.int .i64 c.2.2.1]++[.int .i64 c.2.2.2]),rfl,⟨a1,c1,rfl,h6,h7,h8⟩,⟨[.int .i64 c.2.1],[.int .i64 c.2.2.1]++[.int .i64 c.2.2.2],rfl,rfl,⟨[.int .i64 c.2.2.1],[.int .i64 c.2.2.2],rfl,rfl,rfl⟩⟩⟩,
  ⟨[.slice a st.length cc],X.l.flatMap Flat.enc++([.map (some ma)]++[.map (some mu)]),rfl,⟨a,cc,rfl,h3,h4,h5⟩,⟨X.l.flatMap Flat.enc,[.map (some ma)]++[.map (some mu)],rfl,rfl,⟨[.map (some ma)],[.map (some mu)],rfl,⟨_,rfl,rfl⟩,⟨_,rfl,rfl⟩⟩⟩⟩⟩
def TbP (N:Nat) (w:World) (v:Value) (x:TTable) (b ma mu:Nat):Prop :=
 v=.pointer (some ⟨b,0,none⟩)∧RVo (fun q=>q≠ma∧q≠mu) w v (⟨some x⟩:Ob TTable)∧w.cell? ⟨b,261,none⟩=some (.map (some ma))∧w.cell? ⟨b,262,none⟩=some (.map (some mu)) ∧
 Mp (κ:=TState) (ν:=Int) w ma []∧Mp (κ:=TState) (ν:=Int) w mu []∧ma≠mu∧N≤ma∧N≤mu
def TbN (N:Nat) (w:World) (v:Value) (x:Ob TTable):Prop:=∃ y b ma mu,x=⟨some y⟩∧TbP N w v y b ma mu
theorem cell_ext {w w':World} {b o:Nat} {c:Value} (h:w.cell? ⟨b,o,none⟩=some c) (k:Ext w w'):w'.cell? ⟨b,o,none⟩=some c:=by
 have hlt:=World.block_lt_of_cell? w _ h
 exact (World.cell?_of_block (a:=⟨b,o,none⟩) (k.block b hlt)).trans h
theorem TbN.ext {N:Nat} {w w':World} {v:Value} {x:Ob TTable} (h:TbN N w v x) (k:Ext w w'):TbN N w' v x:=by
 obtain ⟨y,b,ma,mu,rfl,h1,h2,h3,h4,h5,h6,h7⟩:=h
 exact ⟨y,b,ma,mu,rfl,h1,h2.ext k,cell_ext h3 k,cell_ext h4 k,h5.ext k,h6.ext k,h7⟩
theorem TbN.mono {N M:Nat} {w:World} {v:Value} {x:Ob TTable} (h:TbN N w v x) (hM:M≤N):TbN M w v x:=by
 obtain ⟨y,b,ma,mu,rfl,h1,h2,h3,h4,h5,h6,h7,h8,h9⟩:=h
 exact ⟨y,b,ma,mu,rfl,h1,h2,h3,h4,h5,h6,h7,Nat.le_trans hM h8,Nat.le_trans hM h9⟩
theorem TbN.rv {N:Nat} {w:World} {v:Value} {x:Ob TTable} (h:TbN N w v x):RV w v x:=by
 obtain ⟨y,b,ma,mu,rfl,h1,h2,h3⟩:=h
 exact h2.rv
def nt_l1 (P:List TPiece):Nat→Int→List TStep→Option (List TStep)
 | 0,_,_=>none
 | m + 1,i,st =>
  if decide (i<(P.length:Int))=true then
   (ix P i) >>= fun p =>
   (app 16 st ([(i,false)]:List TStep)) >>= fun s1 =>
   if p.2=true then (app 16 s1 ([(i,true)]:List TStep)) >>= fun s2=>nt_l1 P m (w64 (i + 1)) s2
   else nt_l1 P m (w64 (i + 1)) s1
  else some st
def nt_fit (x:TTable) (p q:TStep):Option Bool :=
 if (!decide (p.1=q.1))=true then (join_table_end x p 1) >>= fun e=>(join_table_end x q 0) >>= fun d=>join_table_meets x e d
 else some false
def nt_l3 (c:TCyl) (st:List TStep) (i:Int) (p:TStep):Nat→Int→TFits→Option TFits
 | 0,_,_=>none
 | m + 1,k,X =>
  if decide (k<(st.length:Int))=true then
   (ix st k) >>= fun q =>
   (nt_fit (c,st,X,.mk,.mk) p q) >>= fun f =>
   if f=true then (ix X.l i) >>= fun r=>(ix r.l k) >>= fun _=>nt_l3 c st i p m (w64 (k + 1)) (aset X i (aset r k 1))
   else nt_l3 c st i p m (w64 (k + 1)) X
  else some X
def nt_l2 (F:Nat) (c:TCyl) (st:List TStep):Nat→Int→TFits→Option TFits
 | 0,_,_=>none
 | m + 1,i,X =>
  if decide (i<(st.length:Int))=true then
   (ix st i) >>= fun p=>(nt_l3 c st i p F 0 X) >>= fun Y=>nt_l2 F c st m (w64 (i + 1)) Y
  else some X
def join_newTable (F:Nat) (c:TCyl):Option (Ob TTable) :=
 (nt_l1 c.1 F 0 []) >>= fun st=>(nt_l2 F c st F 0 (Ar.fill 16 (Ar.fill 16 0))) >>= fun X=>some ⟨some (c,st,X,.mk,.mk)⟩
theorem splice_mid (l1 l2 l3:List Value) (o:Nat) (vs:List Value) (h:o + vs.length≤l2.length):Md.splice (l1++(l2++l3)) (l1.length + o) vs=l1++(Md.splice l2 o vs++l3):=by
 have hl:(Md.splice l2 o vs).length=l2.length:=by simp only [Md.splice,List.length_append,List.length_take,List.length_drop]; omega
 apply List.ext_getElem?
 intro j
 rw [splice_get (by simp only [List.length_append]; omega)]
 by_cases h1:j<l1.length
 ·rw [if_neg (by omega),List.getElem?_append_left h1,List.getElem?_append_left h1]
 ·rw [List.getElem?_append_right (l₁:=l1) (l₂:=l2++l3) (by omega),List.getElem?_append_right (l₁:=l1) (l₂:=Md.splice l2 o vs++l3) (by omega)]
  by_cases h2:j - l1.length<l2.length
  ·rw [List.getElem?_append_left h2,List.getElem?_append_left (by omega),splice_get h]
   by_cases h3:o≤j - l1.length∧j - l1.length<o + vs.length
   ·rw [if_pos h3,if_pos (by omega),show j - (l1.length + o)=j - l1.length - o by omega]
   ·rw [if_neg h3,if_neg (by omega)]
  ·rw [if_neg (by omega),List.getElem?_append_right (l₁:=l2) (by omega),List.getElem?_append_right (l₁:=Md.splice l2 o vs) (by omega),hl]
theorem splice_fits {X:TFits} {i k:Int} {r:Ar 16 Int} {v:Int} (hi:ix X.l i=some r) (hk:0≤k) (hk2:k<16) :
  Md.splice (X.l.flatMap Flat.enc) (i.toNat * 16 + k.toNat) [.int .i64 v]=(aset X i (aset r k v)).l.flatMap Flat.enc:=by
 obtain ⟨i0,i1,i2⟩:=ix_spec hi
 have hX:X.l.length=16:=X.h
 have hr:r.l.length=16:=r.h
 have hfX:(X.l.flatMap Flat.enc).length=16 * 16:=by rw [arlen]; rfl
 have hfr:(r.l.flatMap Flat.enc).length=16:=by rw [arlen]; rfl
 have e1:(aset X i (aset r k v)).l.flatMap Flat.enc=Md.splice (X.l.flatMap Flat.enc) (i.toNat * Enc.n (Ar 16 Int)) (Flat.enc (aset r k v)):=(splice_set X.l i.toNat (aset r k v) (by omega)).symm
 have e2:Flat.enc (aset r k v)=Md.splice (r.l.flatMap Flat.enc) (k.toNat * Enc.n Int) (Flat.enc v):=(splice_set r.l k.toNat v (by omega)).symm
 have n1:Enc.n (Ar 16 Int)=16:=rfl
 have n2:Enc.n Int=1:=rfl
 have hl2:(Flat.enc (aset r k v)).length=16:=by rw [Flat.len]; rfl
 rw [e1,n1]
 apply List.ext_getElem?
 intro j
 rw [splice_get (by simp only [List.length_singleton]; omega),splice_get (by omega),hl2]
 by_cases h:i.toNat * 16≤j∧j<i.toNat * 16 + 16
 ·rw [if_pos h,e2,n2,Nat.mul_one]
  have h3:(Flat.enc v:List Value)=[.int .i64 v]:=rfl
  rw [h3,splice_get (by simp only [List.length_singleton]; omega)]
  simp only [List.length_singleton]
  by_cases h2:j=i.toNat * 16 + k.toNat
  ·rw [if_pos (by omega),if_pos (by omega),h2]
   simp
  ·rw [if_neg (by omega),if_neg (by omega)]
   have hj:j - i.toNat * 16<(Flat.enc r:List Value).length:=by rw [Flat.len,n1]; omega
   have:=flat_at X.l i.toNat r (j - i.toNat * 16) _ i2 (List.getElem?_eq_getElem hj)
   rw [n1,show i.toNat * 16 + (j - i.toNat * 16)=j by omega] at this
   rw [this]
   exact (List.getElem?_eq_getElem hj).symm
 ·rw [if_neg h,if_neg (by simp only [List.length_singleton]; omega)]
theorem tcells_set {a1:Option Addr} {c1:Nat} {c:TCyl} {sv:Value} {X:TFits} {ma mu:Nat} {i k:Int} {r:Ar 16 Int} {v:Int} (hi:ix X.l i=some r) (hk:0≤k) (hk2:k<16) :
  Md.splice (tcells a1 c1 c sv X ma mu) (5 + (i.toNat * 16 + k.toNat)) [.int .i64 v]=tcells a1 c1 c sv (aset X i (aset r k v)) ma mu:=by
 unfold tcells
 have:=splice_mid [.slice a1 c.1.length c1,.int .i64 c.2.1,.int .i64 c.2.2.1,.int .i64 c.2.2.2,sv] (X.l.flatMap Flat.enc) [.map (some ma),.map (some mu)] (i.toNat * 16 + k.toNat) [.int .i64 v] (by
  obtain ⟨i0,i1,i2⟩:=ix_spec hi
  have hX:X.l.length=16:=X.h
  rw [arlen,show Enc.n (Ar 16 Int)=16 from rfl,List.length_singleton]
  omega)
 rw [splice_fits hi hk hk2] at this
 exact this
end Go.Proofs.YtfmelbioccbdoaaGreat
end
