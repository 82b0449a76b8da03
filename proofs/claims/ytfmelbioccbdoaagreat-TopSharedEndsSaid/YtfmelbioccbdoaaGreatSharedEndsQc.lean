/-
  Part 3 of 7 of what the last text stands on: lemmas about the model, pure functions, walks, laws in plain Lean; each part's own head says its condition. Merged by a program of our own.
-/
import Derived.Test.YtfmelbioccbdoaaGreatSharedEndsQb
import Derived.Shelf.Small.Bits
import Derived.Shelf.Small.Wraps
import Derived.Shelf.Strconv.Itoa0
import Derived.Shelf.Sort.Plain
import Derived.Shelf.Slices.Turned
import Derived.Shelf.Slices.Reverse
import Derived.Ground.Names2Prog
import Derived.Shelf.Slices.Clone
import Derived.Shelf.Slices.SearchI
import Derived.Shelf.Slices.Cells
import Derived.Shelf.Slices.In.SortNone
import Derived.Ground.SlgnProg
import Derived.Shelf.SlicesG.Reverse
import Derived.Shelf.SlicesG.CompactI
import Derived.Shelf.SlicesG.Cells
import Derived.Shelf.SlicesE.Reverse
import Derived.Shelf.SlicesE.Clone
import Derived.Test.YtfmelbioccbdoaaGreatProg
import Derived.Sort.OwnSortedInts
set_option maxHeartbeats 0
set_option linter.all false
section
namespace Go.Proofs.YtfmelbioccbdoaaGreat
open Go Go.Md Go.RowKit
attribute [local irreducible] Go.wpList Go.Code.wp Go.Calls Go.Md.Rnd Go.Md.Mt
theorem c60b {base:Nat} {w0:World} (hb:base≤w0.heap.size) {v0:Value} {x0:List Int} (o0:Row 3 base w0 v0 x0) {F:Nat} {r:List Int} (hF:slices_Reverse F x0=some r) :
  Calls Tryz.prog 131 [v0].toArray w0 (Ret fun v w'=>v=.tuple #[]∧Row 3 base w' v0 r∧Below base w0 w'):=by
 let wb:World:={ w0 with heap:=w0.heap.extract 0 base }
 have hs:wb.heap.size=base:=by simp [wb]; omega
 have hg:∀ k,k<base→wb.heap[k]?=w0.heap[k]?:=fun k hk=>by simp [wb,Array.getElem?_extract,hk]; intro h; omega
 have hk:Ext wb w0:=⟨rfl,rfl,rfl,by rw [hs]; exact hb,fun k hk=>(hg k (by rw [← hs]; exact hk)).symm⟩
 have o1:Row 3 wb.heap.size w0 v0 x0:=by rw [hs]; exact o0
 refine (c131 (wb:=wb) hk o1 hF).mono ?_
 rintro e w' ⟨v,rfl,rfl,ho,hw,hsz⟩
 rw [hs] at ho
 exact ⟨_,rfl,rfl,ho,hw.os.trans rfl,hw.tape.trans rfl,hw.output.trans rfl,hsz,fun k hk=>(hw.block k (by rw [hs]; exact hk)).trans (hg k hk)⟩
def speed_Way_l1 (all:List TRule) (from_:Int):Nat→List Int→Int→List (Int×Int)→Option (List Int)
 | 0,_,_,_=>none
 | m + 1,way,at_,by_ =>
  if (!decide (at_=from_))=true then
   (speed_from all by_ at_) >>= fun p=>(app 8 way [p.1]) >>= fun way'=>speed_Way_l1 all from_ m way' p.2 (mdel by_ at_)
  else some way
def speed_Way (F:Nat) (x0:TSheet) (x1 x2:Int):Option (List Int×Int×Int) :=
 (speed_CheckSheet F (x0.1,x0.2)) >>= fun x4 =>
 if (!decide (x4=0))=true then some ([],0,x4) else
 (speed_turns F 0 x0.1 ([x1,x2]:List Int)) >>= fun x5 =>
 if (!x5)=true then some ([],0,2) else
 (speed_open F (x0.1,x0.2)) >>= fun x6 =>
 if (!decide (x6.2=0))=true then some ([],0,x6.2) else
 (x6.1.v) >>= fun x7 =>
 (speed_net_find F ((x7.1.1,x7.1.2),x7.2) x1) >>= fun x8 =>
 (speed_Way_l1 x7.2 x1 F [] x2 x8.2) >>= fun z1 =>
 (slices_Reverse F z1) >>= fun z2 =>
 (ix x8.1.l x2) >>= fun d =>
 some (z2,d,0)
theorem c51 {w0:World} {v0:Value} {x0:TSheet} (r0:RV w0 v0 x0) {x1 x2:Int} {F:Nat} {r:List Int×Int×Int} (hF:speed_Way F x0 x1 x2=some r) :
  Calls Tryz.prog 51 [v0,.int .i64 x1,.int .i64 x2].toArray w0 (Ret fun v w'=>∃ u0:Value,v=.tuple #[u0,.int .i64 r.2.1,.int .i64 r.2.2]∧RV w' u0 r.1∧Ext w0 w'):=by
 unfold speed_Way at hF
 have hz:=id r0; obtain ⟨_,rfl,⟨_,_,rfl,rfl,⟨a1,c1,rfl,p1,q4,e1⟩⟩⟩:=hz
 have r4:=RV.of1 p1 q4 e1
 refine entr (n:=71) Tryz.func51 rfl rfl rfl<|Zr<|sbx rfl rfl fun b4 w1 hx1 hg1 hb1=>?_
 have r5:=r4.ext hx1
 have r6:=r0.ext hx1
 refine Za<|Za<|Za<|nl<|Zr<|Zv (xlda rfl ti24 rfl (Bx.cs hb1))<|?_
 have hz:=bs hF; obtain ⟨x4,Ex4,hF⟩:=hz
 refine Zc (xc cb90 (mc rfl mn)) (c90 (show RV (α:=(Int×(List (Int×Int×Int)))) _ (.agg [.int .i64 x0.1,.slice a1 x0.2.length c1].toArray) (x0.1,x0.2) from ⟨_,rfl,⟨[.int .i64 x0.1],[.slice a1 x0.2.length c1],rfl,rfl,r5.rep1⟩⟩) Ex4) ?_
 rintro _ w2 ⟨rfl,hx2⟩
 have k1:=hx1.tr hx2
 have hb2:=hb1.ext hx2
 have r7:=r5.ext hx2
 refine Za<|nl<|wp_seq<|wp_block<|Zr<|Zm<|Zv (xneq rfl rfl)<|Za<|nl<|cnd rfl (fun h4=>?_) (fun h4=>?_)
 ·
  have hF:=ifp hF h4
  refine Zr<|Zm<|Za<|Za<|Za<|nl<|?_
  cases hF
  exact wp_ret<|rt rfl (.tmp rfl rfl (.tmp rfl rfl (.tmp rfl rfl .nil))) ⟨_,rfl,(RVo.nil (Nat.zero_le _)),k1⟩
 ·
  have hF:=ifn hF h4
  refine Zr<|Zv (xfa rfl fa24_0)<|Zv (xld rfl ti3 ((Bx.cs hb2).at 0 rfl))<|Zm<|Zm<|sbsv (cs:=[.int .i64 x1,.int .i64 x2]) Tryz.underlying41 ti3 rfl (pc rfl (pc rfl pn)) rfl rfl rfl rfl rfl fun b5 w3 hx3 hg2 hb3=>?_
  have k2:=k1.tr hx3
  have hb4:=hb2.ext hx3
  have r8:=r7.ext hx3
  have o1:Row (α:=Int) 3 w2.heap.size w3 (.slice (some ⟨b5,0,none⟩) 2 2) [x1,x2]:=Row.lit hg2 hb3 rfl (ble rfl)
  have hz:=bs hF; obtain ⟨x5,Ex5,hF⟩:=hz
  refine Zc (xc cb93 (mc rfl (mc rfl (mc rfl mn)))) (c93 o1.rv Ex5) ?_
  rintro _ w4 ⟨rfl,hx4⟩
  have k3:=k2.tr hx4
  have k4:=hx3.tr hx4
  have hb5:=hb4.ext hx4
  have r10:=r8.ext hx4
  refine Zv (xnot rfl)<|Za<|nl<|cnd rfl (fun h5=>?_) (fun h5=>?_)
  ·
   have hF:=ifp hF h5
   refine Zr<|Za<|Za<|Za<|nl<|?_
   cases hF
   exact wp_ret<|rt rfl (.tmp rfl rfl (.tmp rfl rfl (.tmp rfl rfl .nil))) ⟨_,rfl,(RVo.nil (Nat.zero_le _)),k3⟩
  ·
   have hF:=ifn hF h5
   refine wp_skip<|Zr<|Zv (xlda rfl ti24 rfl (Bx.cs hb5))<|?_
   have hz:=bs hF; obtain ⟨x6,Ex6,hF⟩:=hz
   refine Zc (xc cb104 (mc rfl mn)) (c104 (show RV (α:=(Int×(List (Int×Int×Int)))) _ (.agg [.int .i64 x0.1,.slice a1 x0.2.length c1].toArray) (x0.1,x0.2) from ⟨_,rfl,⟨[.int .i64 x0.1],[.slice a1 x0.2.length c1],rfl,rfl,r10.rep1⟩⟩) Ex6) ?_
   rintro _ w5 ⟨u1,rfl,r11,hx5⟩
   have k5:=k3.tr hx5
   have k6:=k4.tr hx5
   have hz:=obPtr r11; obtain ⟨a2,rfl⟩:=hz
   refine Zm<|Zv (xext rfl rfl)<|Zv (xext rfl rfl)<|Za<|Za<|nl<|wp_seq<|Zr<|Zm<|Zv (xneq rfl rfl)<|nl<|cnd rfl (fun h6=>?_) (fun h6=>?_)
   ·
    have hF:=ifp hF h6
    refine Zr<|Zm<|Za<|Za<|Za<|nl<|?_
    cases hF
    exact wp_ret<|rt rfl (.tmp rfl rfl (.tmp rfl rfl (.tmp rfl rfl .nil))) ⟨_,rfl,(RVo.nil (Nat.zero_le _)),k5⟩
   ·
    have hF:=ifn hF h6
    refine wp_skip<|Zr<|Zm<|Zm<|?_
    have hz:=bs hF; obtain ⟨x7,Ex7,hF⟩:=hz
    have hz:=obGet r11 Ex7; obtain ⟨b6,cs4,e2,q5,hc1⟩:=hz
    cases e2
    obtain ⟨_,_,rfl,⟨_,_,rfl,rfl,⟨a3,c2,rfl,p2,q6,e3⟩⟩,⟨a4,c3,rfl,p3,q7,e4⟩⟩:=q5
    have r12:=RV.of1 p2 q6 e3
    have r13:=RV.of1 p3 q7 e4
    have hz:=bs hF; obtain ⟨x8,Ex8,hF⟩:=hz
    refine Zc (xc cb105 (mc rfl (mc rfl mn))) (c105 hc1 ⟨[.int .i64 x7.1.1]++[.slice a3 x7.1.2.length c2],[.slice a4 x7.2.length c3],rfl,⟨[.int .i64 x7.1.1],[.slice a3 x7.1.2.length c2],rfl,rfl,r12.rep1⟩,r13.rep1⟩ Ex8) ?_
    rintro _ w6 ⟨u2,u3,rfl,r14,r15,hx6⟩
    have k7:=k5.tr hx6
    have k8:=k6.tr hx6
    have r16:=r12.ext hx6
    have r17:=r13.ext hx6
    have hc2:=hc1.ext hx6
    have hz:=id r14; obtain ⟨_,rfl,rfl⟩:=hz
    refine Zm<|Zv (xext rfl rfl)<|Zv (xext rfl rfl)<|sal ti159 fun b7 w7 hx7 hg3 hb6=>?_
    have k9:=k7.tr hx7
    have k10:=k8.tr hx7
    have r18:=r16.ext hx7
    have r19:=r17.ext hx7
    have hc3:=hc2.ext hx7
    have r20:=r14.ext hx7
    have hb7:Bx w7 b7 159 (List.flatMap Flat.enc ((Ar.fill 21 0:(Ar 21 Int))).l):=hb6
    refine sstw rfl rfl ti159 hb7 (arlen _) (arlen _) (flat_one _) fun w8 hch1 hb8=>?_
    have k11:=Ext.chg k9 hch1 (Nat.le_trans k7.size hg3)
    have k12:=Ext.chg k10 hch1 (Nat.le_trans k8.size hg3)
    have k13:=Ext.chg hx7 hch1 (Nat.le_trans (Nat.le_refl _) hg3)
    have r21:=r16.ext k13
    have r22:=r17.ext k13
    have hc4:=hc2.ext k13
    have hb9:Bx w8 b7 159 (List.flatMap Flat.enc x8.1.l):=hb8
    refine Za<|nl<|Zr<|Za<|nl<|wp_seq<|Zr<|Zm<|Za<|nl<|?_
    have o2:Row (α:=Int) 3 w8.heap.size w8 (.slice none 0 0) []:=Row.nil
    obtain ⟨bm,rfl,hgm,hm6⟩:=r15
    have hm8:=hm6.ext k13
    have hs6:=hm6.lt
    have hs8:=k13.size
    have hs5:=hx6.size
    have hl7:=hb9.lt
    have hne:b7≠bm:=by have:=hb6.lt; omega
    have hz:=bs hF; obtain ⟨z1,hB1,hF⟩:=hz
    have hz:=bs hF; obtain ⟨z2,hR,hF⟩:=hz
    have hz:=bs hF; obtain ⟨d,Ed,hF⟩:=hz
    cases hF
    have k56:Ext w5 w8:=hx6.tr k13
    refine ct (fun L w=>∃ v5:Value,L 13=v5∧Row 3 w8.heap.size w v5 z1∧L 2=.int .i64 x2∧L 11=.pointer (some ⟨b7,0,none⟩)∧Bx w b7 159 (x8.1.l.flatMap Flat.enc)∧Ext w5 w∧w8.heap.size≤w.heap.size) ?_ ?_
    ·refine wp_block<|lp (I:=fun m L w=>∃ way at_ by_ v4,speed_Way_l1 x7.2 x1 m way at_ by_=some z1∧L 13=v4∧Row 3 w8.heap.size w v4 way∧L 14=.int .i64 at_∧L 1=.int .i64 x1∧L 2=.int .i64 x2∧L 10=.pointer (some ⟨b6,0,none⟩)∧L 11=.pointer (some ⟨b7,0,none⟩)∧L 12=.map (some bm)∧Mp w bm by_∧Bx w b7 159 (x8.1.l.flatMap Flat.enc)∧Ext w5 w∧w8.heap.size≤w.heap.size) F
      ⟨_,_,_,_,hB1,rfl,o2,rfl,rfl,rfl,rfl,rfl,rfl,hm8,hb9,k56,Nat.le_refl _⟩ ?_
     rintro m L w9 ⟨way,at_,by_,v4,hB,l13,o9,l14,l1,l2,l10,l11,l12,m9,bf9,k9',hs9⟩
     rcases m with _ | m
     ·rw [speed_Way_l1] at hB; cases hB
     rw [speed_Way_l1] at hB
     refine wp_seq<|Zr<|Zv (xmva l14)<|Zv (xmva l1)<|Zv (xneq rfl rfl)<|nl<|cnd rfl (fun h=>?_) (fun h=>?_)
     ·have hB:=ifp hB h
      have hz:=bs hB; obtain ⟨p,Ep,hB⟩:=hz
      have hz:=bs hB; obtain ⟨o',Eo,hB⟩:=hz
      have hz:=from_spec Ep; obtain ⟨hk,hp1,rr,Er,hp2⟩:=hz
      refine wp_skip<|wp_block<|Zr<|Zv (xmva l12)<|Zv (xmva l14)<|Zv (xlku (d:=(0:Int)) Tryz.underlying183 kt3 (zero3 _) m9 hk rfl rfl)<|Za<|nl<|?_
      rw [← hp1]
      refine Zr<|Zv (xmva l12)<|Zv (xmva l14)<|smdn (k:=at_) rfl rfl Tryz.underlying183 kt3 m9 hk fun w10 hch10 m10=>?_
      have bf10:=bf9.chg hch10 hne
      have o10:=o9.chg hch10 (by omega)
      have k10':=k9'.chg hch10 hgm
      have hs10:w8.heap.size≤w10.heap.size:=by rw [hch10.size]; exact hs9
      refine nl<|Zr<|Zv (xmva l13)<|Zm<|sbsv (cs:=[.int .i64 p.1]) Tryz.underlying41 ti3 rfl (pc rfl pn) rfl rfl rfl rfl rfl fun b5 w16 hx16 hg16 hb16=>?_
      have o1':Row (α:=Int) 3 w10.heap.size w16 (.slice (some ⟨b5,0,none⟩) 1 1) [p.1]:=Row.lit hg16 hb16 rfl (ble rfl)
      have o16:=o10.ext hx16
      refine sapx (l:=way) (k:=[p.1]) rfl rfl Tryz.underlying41 ti3 rfl rfl o16 (RV.els o1'.rv) Eo (Nat.le_trans hs10 hx16.size) fun v2 w17 o17 hB17 _ _=>?_
      have m17:=(m10.ext hx16).below hB17 (by omega)
      have bf17:=(bf10.ext hx16).below hB17 hl7
      have k17:Ext w5 w17:=(k10'.tr hx16).grow k56.size hB17
      have r17':=r13.ext k17
      have h17:=hc1.ext k17
      have hz:=r17'.els.ix Er; obtain ⟨b6',f5,cs5,rfl,i3,i4,q5,hc5⟩:=hz
      obtain ⟨_,_,rfl,rfl,⟨_,_,rfl,rfl,rfl⟩⟩:=q5
      refine Za<|nl<|rg<|Zv (xmva l10)<|Zv (xnil rfl)<|Zv (xfa rfl fa229_1)<|Zv (xld rfl ti22 (h17.at 2 rfl))<|Zm<|Zv (xixs rfl rfl Tryz.underlying22 ti58 i3 i4)<|Zv (xfa rfl fa58_0)<|Zv (xld rfl ti3 (hc5.at 0 rfl))<|Za<|nl<|?_
      exact lq m (Nat.lt_succ_self _) ⟨_,_,_,_,hB,rfl,o17,by rw [hp2]; rfl,l1,l2,l10,l11,l12,m17,bf17,k17,Nat.le_trans hs10 (Nat.le_trans hx16.size hB17.size)⟩
     ·have hB:=ifn hB h
      cases hB
      exact wp_exit<|lf ⟨_,l13,o9,l2,l11,bf9,k9',hs9⟩
    rintro L w18 ⟨v,l13,ro,l2,l11,bf18,k18,hs18⟩
    refine Zr<|Zv (xmva l13)<|Zc (xc cb131 (mc rfl mn)) (c60b hs18 ro hR) fun v2 w19 hv=>?_
    obtain ⟨_,ro19,hB19⟩:=hv
    have bf19:=bf18.below hB19 hl7
    have k19:Ext w5 w19:=k18.grow k56.size hB19
    refine nl<|wp_seq<|wpl [] (.pure true 0 (.pure true 1 (.pure true 2 (.pure false 3 (.pure true 4 (.pure true 5 (.pure true 6 .fin))))))) mixed (by kernel_rfl) (fun wd hxd=>?_)
    have hz:=ixar (Bx.cs (bf19.ext hxd)) Ed; obtain ⟨i1,i2,hcd⟩:=hz
    refine Zp rfl (fun _=>xmva l13)<|Zp rfl (fun _=>xmva l2)<|Zp rfl (fun _=>xixa l11 rfl Tryz.underlying159 ti2 i1 i2)<|Zq rfl (fun _ hS=>xld rfl ti2 ((hcd.ext (hS.resolve_left nofun)).at 0 rfl)) (Ext.refl _)<|Zp rfl (fun _=>xas)<|Zp rfl (fun _=>xas)<|Zp rfl (fun _=>xas)<|?_
    exact wp_ret<|rt rfl (.tmp rfl rfl (.tmp rfl rfl (.tmp rfl rfl .nil))) ⟨_,rfl,(ro19.ext hxd).rv,(k5.tr k19).tr hxd⟩
end Go.Proofs.YtfmelbioccbdoaaGreat
end
section
namespace Go.Proofs.YtfmelbioccbdoaaGreat
open Go Go.Md Go.RowKit
def law01_Works (F:Nat) :Option Bool :=
 (law01_Sheet) >>= fun x1 =>
 (speed_CheckSpeeds F (x1.1,x1.2) ([16200,16000,15900]:List Int)) >>= fun x2 =>
 (speed_Span F (x1.1,x1.2) 3) >>= fun x3 =>
 (speed_Way F (x1.1,x1.2) 3 1) >>= fun x4 =>
 (speed_Circle F (x1.1,x1.2)) >>= fun x5 =>
 (law01_slow) >>= fun x6 =>
 (speed_Circle F x6) >>= fun x7 =>
 (law01_rg 42000 44000) >>= fun x8 =>
 (speed_Pipe F 1 43500 x8) >>= fun x9 =>
 (speed_Spring F 1 3 300) >>= fun x10 =>
 (speed_Sung F (x1.1,x1.2) 3 40000) >>= fun x11 =>
 (speed_Ends F (x1.1,x1.2) true) >>= fun x12 =>
 ((if (decide (x2=0))=true then
  if (decide (x3.2=0))=true then
   if (decide (x4.2.2=0))=true then
    if (decide (x5.2=5))=true then
     if (decide (x7.2=0))=true then
      if (decide (x9.2=0))=true then
       if (decide (x10.2=0))=true then
        if (decide (x11.2=0))=true then
         if (decide (x12.2=0))=true then
          (law01_rg 15400 16500) >>= fun x13 =>
          if (decide ((x3.1.1,x3.1.2)=x13))=true then
           if (decide (x4.2.1=600))=true then
            (law01_ints F x4.1 ([5,3]:List Int)) >>= fun x14 =>
            if x14=true then
             (law01_slow) >>= fun x15 =>
             (ref01_CheckCircle F x15 x7.1) >>= fun x16 =>
             if (decide (x16=0))=true then
              (law01_Rule 0 1 16571) >>= fun x17 =>
              (law01_Rule 1 0 (-15819)) >>= fun x18 =>
              (law01_rules F x9.1 ([x17,x18]:List (Int×Int×Int))) >>= fun x19 =>
              if x19=true then
               (sdrop x1.2 2) >>= fun x20 =>
               (law01_rules F x10.1 x20) >>= fun x21 =>
               if x21=true then
                (law01_rg 38500 41250) >>= fun x22 =>
                if (decide ((x11.1.1,x11.1.2)=x22))=true then
                 (law01_longs F x12.1 ([16500,16500,16500]:List Int)) >>= fun x23 =>
                 some x23
                else
                 none
               else
                none
              else
               none
             else
              none
            else
             none
           else
            none
          else
           none
         else
          none
        else
         none
       else
        none
      else
       none
     else
      none
    else
     none
   else
    none
  else
   none
 else
  none:Option (Bool)) >>= fun y1 =>
 some y1)
end Go.Proofs.YtfmelbioccbdoaaGreat
end
section
namespace Go.Proofs.YtfmelbioccbdoaaGreat
open Go Go.Md Go.RowKit
attribute [local irreducible] Go.wpList Go.Code.wp Go.Calls Go.Md.Rnd Go.Md.Mt Go.Md.MtM Go.Md.RndM Go.Code.wpIn
theorem c86 {w0:World}  {F:Nat} {r:Bool} (hF:law01_Works F=some r) :
  Calls Tryz.prog 86 [].toArray w0 (Ret fun v w'=>v=.bool r∧Ext w0 w'):=by
 unfold law01_Works at hF
 refine entr (n:=142) Tryz.func86 rfl rfl rfl<|Zr<|Za<|nl<|Zr<|?_
 have hz:=bs hF; obtain ⟨x1,Ex1,hF⟩:=hz
 refine Zc (xc cb174 mn) (c174 Ex1) ?_
 rintro _ w1 ⟨u1,rfl,r1,hx1⟩
 have hz:=RV.sl r1.rv; obtain ⟨a1,cq1,rfl,-,-,-⟩:=hz
 refine sal ti24 fun b1 w2 hx2 hg1 hb1=>?_
 have k1:=hx1.tr hx2
 refine sst rfl rfl rfl ti24 hb1 rfl rfl (ble rfl) fun w3 hch1 hb2=>?_
 have k2:=Ext.chg k1 hch1 (Nat.le_trans hx1.size hg1)
 have k3:=Ext.chg hx2 hch1 (Nat.le_trans (Nat.le_refl _) hg1)
 have r3:=r1.ext k3
 have hb3:Bx w3 b1 24 [.int .i64 x1.1,.slice a1 x1.2.length cq1]:=hb2
 refine nl<|Zr<|Zv (xlda rfl ti24 rfl (Bx.cs hb3))<|sbsv (cs:=[.int .i64 16200,.int .i64 16000,.int .i64 15900]) Tryz.underlying28 ti2 rfl (pc rfl (pc rfl (pc rfl pn))) rfl rfl rfl rfl rfl fun b2 w4 hx3 hg2 hb4=>?_
 have k4:=k2.tr hx3
 have hb5:=hb3.ext hx3
 have r4:=r3.ext hx3
 have o1:Row (α:=Int) 2 w3.heap.size w4 (.slice (some ⟨b2,0,none⟩) 3 3) [16200,16000,15900]:=Row.lit hg2 hb4 rfl (ble rfl)
 have hz:=bs hF; obtain ⟨x2,Ex2,hF⟩:=hz
 refine Zc (xc cb17 (mc rfl (mc rfl mn))) (c17 (show RV (α:=(Int×(List (Int×Int×Int)))) _ (.agg [.int .i64 x1.1,.slice a1 x1.2.length cq1].toArray) (x1.1,x1.2) from ⟨_,rfl,⟨[.int .i64 x1.1],[.slice a1 x1.2.length cq1],rfl,rfl,r4.rv.rep1⟩⟩) o1.rv Ex2) ?_
 rintro _ w5 ⟨rfl,hx4⟩
 have k6:=k4.tr hx4
 have hb6:=hb5.ext hx4
 have r6:=r4.ext hx4
 refine Za<|nl<|Zr<|Zv (xlda rfl ti24 rfl (Bx.cs hb6))<|?_
 have hz:=bs hF; obtain ⟨x3,Ex3,hF⟩:=hz
 refine Zc (xc cb50 (mc rfl (mc rfl mn))) (c50 (show RV (α:=(Int×(List (Int×Int×Int)))) _ (.agg [.int .i64 x1.1,.slice a1 x1.2.length cq1].toArray) (x1.1,x1.2) from ⟨_,rfl,⟨[.int .i64 x1.1],[.slice a1 x1.2.length cq1],rfl,rfl,r6.rv.rep1⟩⟩) Ex3) ?_
 rintro _ w6 ⟨u2,rfl,r7,hx5⟩
 have k9:=k6.tr hx5
 have hb7:=hb6.ext hx5
 have r8:=r6.ext hx5
 have hz:=id r7; obtain ⟨_,rfl,⟨_,_,rfl,rfl,rfl⟩⟩:=hz
 refine Zm<|Zv (xext rfl rfl)<|Zv (xext rfl rfl)<|sal ti35 fun b3 w7 hx6 hg3 hb8=>?_
 have k12:=k9.tr hx6
 refine sst rfl rfl rfl ti35 hb8 rfl rfl (ble rfl) fun w8 hch2 hb10=>?_
 have k15:=Ext.chg k12 hch2 (Nat.le_trans k9.size hg3)
 have k18:=Ext.chg hx6 hch2 (Nat.le_trans (Nat.le_refl _) hg3)
 have hb11:=hb7.ext k18
 have r11:=r8.ext k18
 have hb12:Bx w8 b3 35 [.int .i64 x3.1.1,.int .i64 x3.1.2]:=hb10
 refine Za<|nl<|Zr<|Zv (xlda rfl ti24 rfl (Bx.cs hb11))<|?_
 have hz:=bs hF; obtain ⟨x4,Ex4,hF⟩:=hz
 refine Zc (xc cb51 (mc rfl (mc rfl (mc rfl mn)))) (c51 (show RV (α:=(Int×(List (Int×Int×Int)))) _ (.agg [.int .i64 x1.1,.slice a1 x1.2.length cq1].toArray) (x1.1,x1.2) from ⟨_,rfl,⟨[.int .i64 x1.1],[.slice a1 x1.2.length cq1],rfl,rfl,r11.rv.rep1⟩⟩) Ex4) ?_
 rintro _ w9 ⟨u3,rfl,r12,hx7⟩
 have k19:=k15.tr hx7
 have hb13:=hb11.ext hx7
 have r13:=r11.ext hx7
 have hb14:=hb12.ext hx7
 have hz:=RV.sl r12; obtain ⟨a2,cq2,rfl,-,-,-⟩:=hz
 refine Zm<|Zv (xext rfl rfl)<|Zv (xext rfl rfl)<|Zv (xext rfl rfl)<|Za<|Za<|Za<|nl<|Zr<|Zv (xlda rfl ti24 rfl (Bx.cs hb13))<|?_
 have hz:=bs hF; obtain ⟨x5,Ex5,hF⟩:=hz
 refine Zc (xc cb30 (mc rfl mn)) (c30 (show RV (α:=(Int×(List (Int×Int×Int)))) _ (.agg [.int .i64 x1.1,.slice a1 x1.2.length cq1].toArray) (x1.1,x1.2) from ⟨_,rfl,⟨[.int .i64 x1.1],[.slice a1 x1.2.length cq1],rfl,rfl,r13.rv.rep1⟩⟩) Ex5) ?_
 rintro _ w10 ⟨u4,rfl,r14,hx8⟩
 have k23:=k19.tr hx8
 have hb15:=hb13.ext hx8
 have r15:=r13.ext hx8
 have hb16:=hb14.ext hx8
 have r16:=r12.ext hx8
 have hz:=RV.sl r14; obtain ⟨a3,cq3,rfl,-,-,-⟩:=hz
 refine Zm<|Zv (xext rfl rfl)<|Zv (xext rfl rfl)<|Za<|Za<|nl<|Zr<|?_
 have hz:=bs hF; obtain ⟨x6,Ex6,hF⟩:=hz
 refine Zc (xc cb175 mn) (c175 Ex6) ?_
 rintro _ w11 ⟨u5,rfl,r17,hx9⟩
 have k27:=k23.tr hx9
 have hb17:=hb15.ext hx9
 have r18:=r15.ext hx9
 have hb18:=hb16.ext hx9
 have r19:=r16.ext hx9
 have hz:=id r17; obtain ⟨_,rfl,⟨_,_,rfl,rfl,⟨a4,cq4,rfl,p1,q1,e1⟩⟩⟩:=hz
 have hz:=bs hF; obtain ⟨x7,Ex7,hF⟩:=hz
 refine Zc (xc cb30 (mc rfl mn)) (c30 r17 Ex7) ?_
 rintro _ w12 ⟨u6,rfl,r21,hx10⟩
 have k31:=k27.tr hx10
 have hb19:=hb17.ext hx10
 have r22:=r18.ext hx10
 have hb20:=hb18.ext hx10
 have r23:=r19.ext hx10
 have hz:=RV.sl r21; obtain ⟨a5,cq5,rfl,-,-,-⟩:=hz
 refine Zm<|Zv (xext rfl rfl)<|Zv (xext rfl rfl)<|Za<|Za<|nl<|Zr<|?_
 have hz:=bs hF; obtain ⟨x8,Ex8,hF⟩:=hz
 refine Zc (xc cb177 (mc rfl (mc rfl mn))) (c177 Ex8) ?_
 rintro _ w13 ⟨u7,rfl,r24,hx11⟩
 have k35:=k31.tr hx11
 have hb21:=hb19.ext hx11
 have r25:=r22.ext hx11
 have hb22:=hb20.ext hx11
 have r26:=r23.ext hx11
 have r27:=r21.ext hx11
 have hz:=id r24; obtain ⟨_,rfl,⟨_,_,rfl,rfl,rfl⟩⟩:=hz
 have hz:=bs hF; obtain ⟨x9,Ex9,hF⟩:=hz
 refine Zc (xc cb176 (mc rfl (mc rfl (mc rfl mn)))) (c176 r24 Ex9) ?_
 rintro _ w14 ⟨u8,rfl,r28,hx12⟩
 have k39:=k35.tr hx12
 have hb23:=hb21.ext hx12
 have r29:=r25.ext hx12
 have hb24:=hb22.ext hx12
 have r30:=r26.ext hx12
 have r31:=r27.ext hx12
 have hz:=RV.sl r28; obtain ⟨a6,cq6,rfl,-,-,-⟩:=hz
 refine Zm<|Zv (xext rfl rfl)<|Zv (xext rfl rfl)<|Za<|Za<|nl<|Zr<|?_
 have hz:=bs hF; obtain ⟨x10,Ex10,hF⟩:=hz
 refine Zc (xc cb178 (mc rfl (mc rfl (mc rfl mn)))) (c178 Ex10) ?_
 rintro _ w15 ⟨u9,rfl,r32,hx13⟩
 have k43:=k39.tr hx13
 have hb25:=hb23.ext hx13
 have r33:=r29.ext hx13
 have hb26:=hb24.ext hx13
 have r34:=r30.ext hx13
 have r35:=r31.ext hx13
 have r36:=r28.ext hx13
 have hz:=RV.sl r32; obtain ⟨a7,cq7,rfl,-,-,-⟩:=hz
 refine Zm<|Zv (xext rfl rfl)<|Zv (xext rfl rfl)<|Za<|Za<|nl<|Zr<|Zv (xlda rfl ti24 rfl (Bx.cs hb25))<|?_
 have hz:=bs hF; obtain ⟨x11,Ex11,hF⟩:=hz
 refine Zc (xc cb18 (mc rfl (mc rfl (mc rfl mn)))) (c18 (show RV (α:=(Int×(List (Int×Int×Int)))) _ (.agg [.int .i64 x1.1,.slice a1 x1.2.length cq1].toArray) (x1.1,x1.2) from ⟨_,rfl,⟨[.int .i64 x1.1],[.slice a1 x1.2.length cq1],rfl,rfl,r33.rv.rep1⟩⟩) Ex11) ?_
 rintro _ w16 ⟨u10,rfl,r37,hx14⟩
 have k47:=k43.tr hx14
 have hb27:=hb25.ext hx14
 have r38:=r33.ext hx14
 have hb28:=hb26.ext hx14
 have r39:=r34.ext hx14
 have r40:=r35.ext hx14
 have r41:=r36.ext hx14
 have r42:=r32.ext hx14
 have hz:=id r37; obtain ⟨_,rfl,⟨_,_,rfl,rfl,rfl⟩⟩:=hz
 refine Zm<|Zv (xext rfl rfl)<|Zv (xext rfl rfl)<|sal ti35 fun b4 w17 hx15 hg4 hb29=>?_
 have k51:=k47.tr hx15
 refine sst rfl rfl rfl ti35 hb29 rfl rfl (ble rfl) fun w18 hch3 hb32=>?_
 have k55:=Ext.chg k51 hch3 (Nat.le_trans k47.size hg4)
 have k59:=Ext.chg hx15 hch3 (Nat.le_trans (Nat.le_refl _) hg4)
 have hb33:=hb27.ext k59
 have r49:=r38.ext k59
 have hb34:=hb28.ext k59
 have r50:=r39.ext k59
 have r51:=r40.ext k59
 have r52:=r41.ext k59
 have r53:=r42.ext k59
 have hb35:Bx w18 b4 35 [.int .i64 x11.1.1,.int .i64 x11.1.2]:=hb32
 refine Za<|nl<|Zr<|Zv (xlda rfl ti24 rfl (Bx.cs hb33))<|?_
 have hz:=bs hF; obtain ⟨x12,Ex12,hF⟩:=hz
 refine Zc (xc cb29 (mc rfl (mc rfl mn))) (c29 (show RV (α:=(Int×(List (Int×Int×Int)))) _ (.agg [.int .i64 x1.1,.slice a1 x1.2.length cq1].toArray) (x1.1,x1.2) from ⟨_,rfl,⟨[.int .i64 x1.1],[.slice a1 x1.2.length cq1],rfl,rfl,r49.rv.rep1⟩⟩) Ex12) ?_
 rintro _ w19 ⟨u11,rfl,r54,hx16⟩
 have k60:=k55.tr hx16
 have hb36:=hb33.ext hx16
 have r55:=r49.ext hx16
 have hb37:=hb34.ext hx16
 have hb38:=hb35.ext hx16
 have r56:=r50.ext hx16
 have r57:=r51.ext hx16
 have r58:=r52.ext hx16
 have r59:=r53.ext hx16
 have hz:=RV.sl r54; obtain ⟨a8,cq8,rfl,-,-,-⟩:=hz
 refine Zm<|Zv (xext rfl rfl)<|Zv (xext rfl rfl)<|Za<|Za<|nl<|wp_seq<|?_
 have hz:=bs hF; obtain ⟨y1,hB1,hF⟩:=hz
 refine ct (fun L w=>L 0=.bool y1∧Ext w19 w) ?_ ?_
 ·
  refine wpl [] (.pure true 0 (.pure true 1 (.pure true 2 (.pure true 3 (.pure true 4 (.pure true 5 (.pure true 6 (.pure true 7 (.pure true 8 (.pure true 9 (.pure true 10 (.pure true 11 (.pure true 12 (.pure true 13 (.pure true 14 (.pure true 15 (.pure true 16 (.pure true 17 (.pure true 18 (.pure true 19 (.pure true 20 (.pure true 21 (.pure true 22 (.pure true 23 (.pure true 24 (.pure true 25 (.pure true 26 (.pure true 27 (.pure true 28 (.pure true 29 (.pure true 30 (.pure true 31 (.pure true 32 (.pure true 33 (.pure true 34 (.pure false 35 (.eff 36 (.pure true 37 (.pure true 38 (.pure true 39 (.pure true 40 (.pure true 41 (.pure true 42 (.pure true 43 (.pure true 44 (.eff 45 (.eff 46 (.pure true 47 (.pure true 48 (.pure true 50 (.eff 49 (.eff 51 (.pure true 52 (.pure true 53 (.pure true 54 (.pure true 55 (.eff 56 (.eff 57 (.eff 58 (.eff 59 (.pure true 60 (.pure true 61 (.pure true 62 (.pure true 63 (.pure false 64 (.pure true 65 (.eff 66 (.pure true 67 (.pure true 68 (.pure false 69 (.eff 70 (.pure true 71 (.pure true 72 (.pure true 73 (.pure true 74 (.eff 75 (.eff 76 (.pure true 77 (.pure true 78 .fin)) .stop) .stop))))) .stop)))) .stop))))))) .stop) .stop) .stop) .stop))))) .stop) .stop)))) .stop) .stop))))))))) .stop))))))))))))))))))))))))))))))))))))) mixed (by kernel_rfl) (fun w20 hx17=>?_)
  have hb39:=hb36.ext hx17
  have r60:=r55.ext hx17
  have hb40:=hb37.ext hx17
  have hb41:=hb38.ext hx17
  have r61:=r56.ext hx17
  have r62:=r57.ext hx17
  have r63:=r58.ext hx17
  have r64:=r59.ext hx17
  have r65:=r54.ext hx17
  refine Zn rfl<|Zp rfl (fun _=>xeql rfl rfl)<|Zn rfl<|?_
  have hz:=ifs hB1; obtain ⟨h1,hB1⟩:=hz
  refine Zt rfl rfl rfl rfl (bt h1) (fun _=>xmv)<|Zt rfl rfl rfl rfl (bt h1) (fun _=>xeql rfl rfl)<|Zp rfl (fun _=>xpt rfl h1 rfl)<|Zn rfl<|?_
  have hz:=ifs hB1; obtain ⟨h2,hB1⟩:=hz
  refine Zt rfl rfl rfl rfl (bt h2) (fun _=>xmv)<|Zt rfl rfl rfl rfl (bt h2) (fun _=>xeql rfl rfl)<|Zp rfl (fun _=>xpt rfl h2 rfl)<|Zn rfl<|?_
  have hz:=ifs hB1; obtain ⟨h3,hB1⟩:=hz
  refine Zt rfl rfl rfl rfl (bt h3) (fun _=>xmv)<|Zt rfl rfl rfl rfl (bt h3) (fun _=>xeql rfl rfl)<|Zp rfl (fun _=>xpt rfl h3 rfl)<|Zn rfl<|?_
  have hz:=ifs hB1; obtain ⟨h4,hB1⟩:=hz
  refine Zt rfl rfl rfl rfl (bt h4) (fun _=>xmv)<|Zt rfl rfl rfl rfl (bt h4) (fun _=>xeql rfl rfl)<|Zp rfl (fun _=>xpt rfl h4 rfl)<|Zn rfl<|?_
  have hz:=ifs hB1; obtain ⟨h5,hB1⟩:=hz
  refine Zt rfl rfl rfl rfl (bt h5) (fun _=>xmv)<|Zt rfl rfl rfl rfl (bt h5) (fun _=>xeql rfl rfl)<|Zp rfl (fun _=>xpt rfl h5 rfl)<|Zn rfl<|?_
  have hz:=ifs hB1; obtain ⟨h6,hB1⟩:=hz
  refine Zt rfl rfl rfl rfl (bt h6) (fun _=>xmv)<|Zt rfl rfl rfl rfl (bt h6) (fun _=>xeql rfl rfl)<|Zp rfl (fun _=>xpt rfl h6 rfl)<|Zn rfl<|?_
  have hz:=ifs hB1; obtain ⟨h7,hB1⟩:=hz
  refine Zt rfl rfl rfl rfl (bt h7) (fun _=>xmv)<|Zt rfl rfl rfl rfl (bt h7) (fun _=>xeql rfl rfl)<|Zp rfl (fun _=>xpt rfl h7 rfl)<|Zn rfl<|?_
  have hz:=ifs hB1; obtain ⟨h8,hB1⟩:=hz
  refine Zt rfl rfl rfl rfl (bt h8) (fun _=>xmv)<|Zt rfl rfl rfl rfl (bt h8) (fun _=>xeql rfl rfl)<|Zp rfl (fun _=>xpt rfl h8 rfl)<|Zn rfl<|?_
  have hz:=ifs hB1; obtain ⟨h9,hB1⟩:=hz
  refine pvt rfl rfl rfl rfl rfl rfl (bt h9) rfl (fun _ hS=>xlda rfl ti35 rfl (Bx.cs (hb40.ext (hS.resolve_left nofun)))) (.inr (Ext.refl _))<|?_
  have hz:=bs hB1; obtain ⟨x13,Ex13,hB1⟩:=hz
  refine pe1 rfl<|gtk rfl rfl rfl rfl rfl (bt h9)<|Zc (xc cb177 (mc rfl (mc rfl mn))) (c177 Ex13) ?_
  rintro _ w21 ⟨u12,rfl,r66,hx18⟩
  have k75:=hx17.tr hx18
  have r67:=r60.ext hx18
  have r68:=r61.ext hx18
  have r69:=r62.ext hx18
  have r70:=r63.ext hx18
  have r71:=r64.ext hx18
  have r72:=r65.ext hx18
  have hz:=id r66; obtain ⟨_,rfl,⟨_,_,rfl,rfl,rfl⟩⟩:=hz
  refine nl ⟨fun _ _=>hx18,?_⟩
  refine Zt rfl rfl rfl rfl (bt h9) (fun _=>xage (α:=(Int×Int)) (a:=(x3.1.1,x3.1.2)) (b:=x13) rfl eg35 eq35 rfl rfl rfl rfl rfl)<|Zp rfl (fun _=>xpt rfl h9 rfl)<|Zn rfl<|?_
  have hz:=ifs hB1; obtain ⟨h10,hB1⟩:=hz
  refine Zt rfl rfl rfl rfl (bt h10) (fun _=>xmv)<|Zt rfl rfl rfl rfl (bt h10) (fun _=>xeql rfl rfl)<|Zp rfl (fun _=>xpt rfl h10 rfl)<|Zn rfl<|?_
  have hz:=ifs hB1; obtain ⟨h11,hB1⟩:=hz
  refine Zt rfl rfl rfl rfl (bt h11) (fun _=>xmv)<|pe1 rfl<|gtk rfl rfl rfl rfl rfl (bt h11)<|sbsv (cs:=[.int .i64 5,.int .i64 3]) Tryz.underlying41 ti3 rfl (pc rfl (pc rfl pn)) rfl rfl rfl rfl rfl fun b5 w22 hx19 hg5 hb44=>?_
  have k81:=k75.tr hx19
  have k82:=hx18.tr hx19
  have r73:=r67.ext hx19
  have r74:=r69.ext hx19
  have r75:=r70.ext hx19
  have r76:=r71.ext hx19
  have r77:=r72.ext hx19
  have r78:=r68.ext hx19
  have o2:Row (α:=Int) 3 w21.heap.size w22 (.slice (some ⟨b5,0,none⟩) 2 2) [5,3]:=Row.lit hg5 hb44 rfl (ble rfl)
  refine nl ⟨fun _ _=>k82,?_⟩
  have hz:=bs hB1; obtain ⟨x14,Ex14,hB1⟩:=hz
  refine pe1 rfl<|gtk rfl rfl rfl rfl rfl (bt h11)<|Zc (xc cb179 (mc rfl (mc rfl mn))) (c179 r78 o2.rv Ex14) ?_
  rintro _ w23 ⟨rfl,hx20⟩
  have k88:=k81.tr hx20
  have k89:=k82.tr hx20
  have r80:=r73.ext hx20
  have r81:=r74.ext hx20
  have r82:=r75.ext hx20
  have r83:=r76.ext hx20
  have r84:=r77.ext hx20
  refine nl ⟨fun _ _=>k89,?_⟩
  refine Zp rfl (fun _=>xpt rfl h11 rfl)<|Zn rfl<|?_
  have hz:=ifs hB1; obtain ⟨h12,hB1⟩:=hz
  refine Zt rfl rfl rfl rfl (bt h12) (fun _=>xmv)<|?_
  have hz:=bs hB1; obtain ⟨x15,Ex15,hB1⟩:=hz
  refine pe1 rfl<|gtk rfl rfl rfl rfl rfl (bt h12)<|Zc (xc cb175 mn) (c175 Ex15) ?_
  rintro _ w24 ⟨u13,rfl,r85,hx21⟩
  have k96:=k88.tr hx21
  have k97:=k89.tr hx21
  have r86:=r80.ext hx21
  have r87:=r82.ext hx21
  have r88:=r83.ext hx21
  have r89:=r84.ext hx21
  have r90:=r81.ext hx21
  have hz:=id r85; obtain ⟨_,rfl,⟨_,_,rfl,rfl,⟨a9,cq9,rfl,p2,q2,e2⟩⟩⟩:=hz
  refine nl ⟨fun _ _=>k97,?_⟩
  have hz:=bs hB1; obtain ⟨x16,Ex16,hB1⟩:=hz
  refine pe1 rfl<|gtk rfl rfl rfl rfl rfl (bt h12)<|Zc (xc cb32 (mc rfl (mc rfl mn))) (c32 r85 r90 Ex16) ?_
  rintro _ w25 ⟨rfl,hx22⟩
  have k104:=k96.tr hx22
  have k105:=k97.tr hx22
  have r92:=r86.ext hx22
  have r93:=r87.ext hx22
  have r94:=r88.ext hx22
  have r95:=r89.ext hx22
  refine nl ⟨fun _ _=>k105,?_⟩
  refine Zt rfl rfl rfl rfl (bt h12) (fun _=>xeql rfl rfl)<|Zp rfl (fun _=>xpt rfl h12 rfl)<|Zn rfl<|?_
  have hz:=ifs hB1; obtain ⟨h13,hB1⟩:=hz
  refine Zt rfl rfl rfl rfl (bt h13) (fun _=>xmv)<|?_
  have hz:=bs hB1; obtain ⟨x17,Ex17,hB1⟩:=hz
  refine pe1 rfl<|gtk rfl rfl rfl rfl rfl (bt h13)<|Zc (xc cb27 (mc rfl (mc rfl (mc rfl mn)))) (c27 Ex17) ?_
  rintro _ w26 ⟨u14,rfl,r96,hx23⟩
  have k112:=k104.tr hx23
  have k113:=k105.tr hx23
  have r97:=r92.ext hx23
  have r98:=r94.ext hx23
  have r99:=r95.ext hx23
  have r100:=r93.ext hx23
  have hz:=id r96; obtain ⟨_,rfl,⟨_,_,rfl,rfl,⟨_,_,rfl,rfl,rfl⟩⟩⟩:=hz
  refine nl ⟨fun _ _=>k113,?_⟩
  have hz:=bs hB1; obtain ⟨x18,Ex18,hB1⟩:=hz
  refine pe1 rfl<|gtk rfl rfl rfl rfl rfl (bt h13)<|Zc (xc cb27 (mc rfl (mc rfl (mc rfl mn)))) (c27 Ex18) ?_
  rintro _ w27 ⟨u15,rfl,r101,hx24⟩
  have k120:=k112.tr hx24
  have k121:=k113.tr hx24
  have r102:=r97.ext hx24
  have r103:=r98.ext hx24
  have r104:=r99.ext hx24
  have r105:=r100.ext hx24
  have hz:=id r101; obtain ⟨_,rfl,⟨_,_,rfl,rfl,⟨_,_,rfl,rfl,rfl⟩⟩⟩:=hz
  refine nl ⟨fun _ _=>k121,?_⟩
  refine pe1 rfl<|gtk rfl rfl rfl rfl rfl (bt h13)<|sbsv (cs:=[.int .i64 x17.1,.int .i64 x17.2.1,.int .i64 x17.2.2,.int .i64 x18.1,.int .i64 x18.2.1,.int .i64 x18.2.2]) Tryz.underlying22 ti58 rfl (pc rfl (pc rfl pn)) rfl rfl rfl rfl rfl fun b6 w28 hx25 hg6 hb57=>?_
  have k128:=k120.tr hx25
  have k129:=k121.tr hx25
  have r107:=r102.ext hx25
  have r108:=r103.ext hx25
  have r109:=r104.ext hx25
  have r110:=r105.ext hx25
  have o3:Row (α:=(Int×Int×Int)) 58 w27.heap.size w28 (.slice (some ⟨b6,0,none⟩) 2 2) [x17,x18]:=Row.lit hg6 hb57 rfl (ble rfl)
  refine nl ⟨fun _ _=>k129,?_⟩
  have hz:=bs hB1; obtain ⟨x19,Ex19,hB1⟩:=hz
  refine pe1 rfl<|gtk rfl rfl rfl rfl rfl (bt h13)<|Zc (xc cb180 (mc rfl (mc rfl mn))) (c180 r110 o3.rv Ex19) ?_
  rintro _ w29 ⟨rfl,hx26⟩
  have k136:=k128.tr hx26
  have k137:=k129.tr hx26
  have r112:=r107.ext hx26
  have r113:=r108.ext hx26
  have r114:=r109.ext hx26
  refine nl ⟨fun _ _=>k137,?_⟩
  refine Zp rfl (fun _=>xpt rfl h13 rfl)<|Zn rfl<|?_
  have hz:=ifs hB1; obtain ⟨h14,hB1⟩:=hz
  refine Zt rfl rfl rfl rfl (bt h14) (fun _=>xmv)<|Zt rfl rfl rfl rfl (bt h14) (fun _=>xfa rfl fa24_1)<|pvt rfl rfl rfl rfl rfl rfl (bt h14) rfl (fun _ hS=>xld rfl ti22 ((Bx.cs (hb39.ext (hS.resolve_left nofun))).at 1 rfl)) (.inr k137)<|?_
  have hz:=bs hB1; obtain ⟨x20,Ex20,hB1⟩:=hz
  have hz:=slo r112.rv Ex20 Tryz.underlying22 ti58; obtain ⟨a10,cq10,r115,hr1⟩:=hz
  refine Zt rfl rfl rfl rfl (bt h14) (fun _=>hr1 _ _ _ _ _ _ _ _ _ _ rfl rfl)<|?_
  have hz:=bs hB1; obtain ⟨x21,Ex21,hB1⟩:=hz
  refine pe1 rfl<|gtk rfl rfl rfl rfl rfl (bt h14)<|Zc (xc cb180 (mc rfl (mc rfl mn))) (c180 r113 r115 Ex21) ?_
  rintro _ w30 ⟨rfl,hx27⟩
  have k145:=k136.tr hx27
  have k146:=k137.tr hx27
  have r116:=r114.ext hx27
  refine nl ⟨fun _ _=>k146,?_⟩
  refine Zp rfl (fun _=>xpt rfl h14 rfl)<|Zn rfl<|?_
  have hz:=ifs hB1; obtain ⟨h15,hB1⟩:=hz
  refine pvt rfl rfl rfl rfl rfl rfl (bt h15) rfl (fun _ hS=>xlda rfl ti35 rfl (Bx.cs (hb41.ext (hS.resolve_left nofun)))) (.inr k146)<|?_
  have hz:=bs hB1; obtain ⟨x22,Ex22,hB1⟩:=hz
  refine pe1 rfl<|gtk rfl rfl rfl rfl rfl (bt h15)<|Zc (xc cb177 (mc rfl (mc rfl mn))) (c177 Ex22) ?_
  rintro _ w31 ⟨u16,rfl,r117,hx28⟩
  have k154:=k145.tr hx28
  have k155:=k146.tr hx28
  have r118:=r116.ext hx28
  have hz:=id r117; obtain ⟨_,rfl,⟨_,_,rfl,rfl,rfl⟩⟩:=hz
  refine nl ⟨fun _ _=>k155,?_⟩
  refine Zt rfl rfl rfl rfl (bt h15) (fun _=>xage (α:=(Int×Int)) (a:=(x11.1.1,x11.1.2)) (b:=x22) rfl eg35 eq35 rfl rfl rfl rfl rfl)<|Zp rfl (fun _=>xpt rfl h15 rfl)<|Zn rfl<|?_
  have hz:=ifs hB1; obtain ⟨h16,hB1⟩:=hz
  refine Zt rfl rfl rfl rfl (bt h16) (fun _=>xmv)<|pe1 rfl<|gtk rfl rfl rfl rfl rfl (bt h16)<|sbsv (cs:=[.int .i64 16500,.int .i64 16500,.int .i64 16500]) Tryz.underlying28 ti2 rfl (pc rfl (pc rfl (pc rfl pn))) rfl rfl rfl rfl rfl fun b7 w32 hx29 hg7 hb63=>?_
  have k163:=k154.tr hx29
  have k164:=k155.tr hx29
  have r119:=r118.ext hx29
  have o4:Row (α:=Int) 2 w31.heap.size w32 (.slice (some ⟨b7,0,none⟩) 3 3) [16500,16500,16500]:=Row.lit hg7 hb63 rfl (ble rfl)
  refine nl ⟨fun _ _=>k164,?_⟩
  have hz:=bs hB1; obtain ⟨x23,Ex23,hB1⟩:=hz
  refine pe1 rfl<|gtk rfl rfl rfl rfl rfl (bt h16)<|Zc (xc cb181 (mc rfl (mc rfl mn))) (c181 r119 o4.rv Ex23) ?_
  rintro _ w33 ⟨rfl,hx30⟩
  have k172:=k163.tr hx30
  have k173:=k164.tr hx30
  refine nl ⟨fun _ _=>k173,?_⟩
  refine Zp rfl (fun _=>xpt rfl h16 rfl)<|Zp rfl (fun _=>xas)<|?_
  cases hB1
  refine lf<|?_
  exact ⟨rfl,k172⟩
 rintro L w34 ⟨l0_j1,K0_j1⟩
 have k177:=k60.tr K0_j1
 cases hF
 exact wp_ret<|rt rfl (.tmp l0_j1 rfl .nil) ⟨rfl,k177⟩
end Go.Proofs.YtfmelbioccbdoaaGreat
end
section
namespace Go.Proofs.YtfmelbioccbdoaaGreat
open Go Go.Md Go.RowKit
attribute [local irreducible] Go.wpList Go.Code.wp Go.Calls Go.Md.Rnd Go.Md.Mt
end Go.Proofs.YtfmelbioccbdoaaGreat
end
section
namespace Go.Proofs.YtfmelbioccbdoaaGreat
open Go Go.Md Go.RowKit
end Go.Proofs.YtfmelbioccbdoaaGreat
end
section
namespace Go.Proofs.YtfmelbioccbdoaaGreat
open Go Go.Md Go.RowKit
attribute [local irreducible] Go.wpList Go.Code.wp Go.Calls Go.Md.Rnd Go.Md.Mt Go.wpListIn Go.Code.wpIn
abbrev TTone:=(Int×Int)×Int
abbrev TSong:=Uno (List TTone)
def scale_song_tones (x0:TSong):Option (List TTone):=some x0.v
set_option maxHeartbeats 2000000 in
theorem seq282 {m:Nat} {w:World} {c1 b0 a t:Nat} {x0:TSong} (h1:Bx w c1 164 [.pointer (some ⟨b0,0,none⟩)]) (hc1:t≤c1) (hr:RVo (·<a) w (.pointer (some ⟨b0,0,none⟩)) (⟨some x0⟩:Ob TSong)) (ha:a≤w.heap.size) :
  SeqP Tryz.prog (BelI a t w.heap.size) m 282 #[.pointer (some ⟨c1,0,none⟩)] (x0.v.map fun x=>#[fv x]) w:=by
 intro l J Jx W kW hJ hJx hY h0
 have d1:=h1.ext kW
 have hrW:=hr.ext kW
 refine (callsIn_wide.2 ?_:CallsIn Fence.wide m Tryz.prog 282 ([.func (.yield l) #[] #[],.pointer (some ⟨c1,0,none⟩)].toArray) W _)
 refine Calls.mono (R:=Ret fun v W'=>J (x0.v.map fun x=>#[fv x]).length W'∨Jx W') ?_ ?_
 rotate_left
 ·rintro e W' ⟨v,rfl,h⟩
  exact ⟨⟨v,rfl⟩,h⟩
 have hz:=obGetO hrW rfl; obtain ⟨b0',ds,e,_,q0,hc0⟩:=hz
 cases e
 have hz:=q0; obtain ⟨a1,q1,rfl,p1,p2,e1⟩:=hz
 have hs4:RVo (·<a) W (.slice a1 x0.v.length q1) x0.v:=RVo.sl.2 ⟨a1,q1,rfl,p1,p2,e1⟩
 refine entr (n:=19) Tryz.func282 rfl rfl rfl<|Zr<|Zv (xld rfl ti164 ((Bx.cs d1).at 0 rfl))<|Zv (xnil rfl)<|Zv (xfa rfl fa300_0)<|Zv (xld rfl ti298 (hc0.at 0 rfl))<|Zv (xlen rfl Tryz.underlying298)<|Zm<|nl<|?_
 refine wp_block<|lp (I:=fun m' L w1=>∃ k:Nat,k + m'=x0.v.length∧L 10=.int .i64 (k:Int)∧L 9=.int .i64 (x0.v.length:Int)∧L 8=.slice a1 x0.v.length q1∧L 0=.func (.yield l) #[] #[]∧J k w1∧BelI a t w.heap.size W w1) x0.v.length
  ⟨0,by simp,rfl,rfl,rfl,rfl,h0,BelI.refl⟩ ?_
 rintro m' L w1 ⟨k,hk,l10,l9,l8,l0,hj,hx⟩
 refine Zr<|Zv (xlss l10 l9)<|nl<|wp_seq<|cnd rfl (fun hc=>?_) (fun hc=>?_)
 ·have hc:(k:Int)<(x0.v.length:Int):=by simpa using hc
  have hkl:k<x0.v.length:=by omega
  have hg:x0.v[k]?=some x0.v[k]:=List.getElem?_eq_getElem hkl
  have hix:ix x0.v (k:Int)=some x0.v[k]:=by simp [ix,hg]
  have hs1:=hs4.beli hx ha
  have hz:=(RVo.sl.1 hs1); obtain ⟨a2',c2',e3,_,_,els⟩:=hz
  cases e3
  have hz:=Els.ix els hix; obtain ⟨b5,off5,cs5,rfl,i1,i2,q5,hcE⟩:=hz
  obtain rfl:=Flat.iff.1 q5
  refine wp_skip<|wp_seq<|wp_block<|Zr<|Zv (xixs l8 l10 Tryz.underlying298 ti302 i1 i2)<|Zv (xlda rfl ti302 rfl hcE)<|sal ti302 fun b6 w2 hx2 hg2 hb2=>?_
  refine sst rfl rfl rfl ti302 hb2 rfl rfl (ble rfl) fun w3 hch3 hb3=>?_
  have kx3:Ext w1 w3:=hx2.chg hch3 hg2
  have hj3:J k w3:=hJ k _ _ hj kx3
  have hNW:w.heap.size≤W.heap.size:=kW.size
  have hx3:=hx.ext kx3 hNW
  have hz:=hY k #[fv x0.v[k]] w3 (by rw [List.getElem?_map,hg]; rfl) hj3; obtain ⟨fn,tmps,assign,body,hy,hR⟩:=hz
  refine nl<|wp_seq<|rgW (m:=m)<|vlW rfl rfl nofun (xmva l0)<|vlW rfl rfl nofun (xlda rfl ti302 rfl (Bx.cs hb3))<|ylW rfl rfl nofun (xyl rfl (mc rfl mn) hy) hR fun e w5 he=>?_
  rcases he with ⟨rfl,hj5,k5⟩ | ⟨rfl,hj5⟩
  ·refine ⟨_,rfl,vlW rfl rfl nofun (xnot rfl)<|nlW<|cnd rfl (fun h=>by cases h) (fun _=>wp_skip<|rg<|Zv (xadd l10 rfl)<|Zm<|nl ?_)⟩
   have hadd:w64 ((k:Int) + 1)=((k + 1:Nat):Int):=by
    have hmx:x0.v.length≤maxLen:=by omega
    rw [w64,IntWalk.i64_in _ (by unfold maxLen at hmx; omega)]
    rfl
   exact lq (m' - 1) (by omega) ⟨k + 1,by omega,congrArg _ hadd,l9,l8,l0,hj5,hx3.trans k5⟩
  ·refine ⟨_,rfl,vlW rfl rfl nofun (xnot rfl)<|nlW<|cnd rfl (fun _=>?_) (fun h=>by cases h)⟩
   exact wp_ret<|rt rfl .nil (.inr hj5)
 ·have hc:¬ (k:Int)<(x0.v.length:Int):=by simpa using hc
  refine wp_exit<|rtn rfl .nil (.inl ?_)
  rw [List.length_map,show x0.v.length=k by omega]
  exact hj
theorem c205 {w0:World} {a:Nat} {a0:Option Addr} {x0:TSong} (h0:RVo (·<a) w0 (.pointer a0) (⟨some x0⟩:Ob TSong)) (ha:a≤w0.heap.size) {r:List TTone} (hF:scale_song_tones x0=some r) :
  Calls Tryz.prog 205 [.pointer a0].toArray w0 (Ret fun v w'=>SeqV Tryz.prog a w0.heap.size w' v (r.map fun x=>#[fv x])∧Ext w0 w'):=by
 cases hF
 have hz:=obGetO h0 rfl; obtain ⟨b0,_,rfl,_,_,_⟩:=hz
 refine entr (n:=4) Tryz.func205 rfl rfl rfl<|Zr<|sbx rfl rfl fun b3 w1 hx1 hg1 hb1=>?_
 refine Za<|nl<|Zr<|Zv (xmf (l:=[]) (k:=[.pointer (some ⟨b3,0,none⟩)]) rfl rfl)<|Za<|nl<|wp_ret<|rt rfl (.tmp rfl rfl .nil) ⟨?_,hx1⟩
 refine ⟨282,_,rfl,cb282,fun m w' hm hk=>?_⟩
 exact seq282 (hb1.beli hk hg1 hb1.lt) hg1 ((h0.ext hx1).beli hk (Nat.le_trans ha hx1.size)) (Nat.le_trans ha (Nat.le_trans hx1.size hk.size))
end Go.Proofs.YtfmelbioccbdoaaGreat
end
section
namespace Go.Proofs.YtfmelbioccbdoaaGreat
open Go Go.Md Go.RowKit
def scale_tone_on (x0:((Int×Int)×Int)) (x1:Int):Option Bool :=
 some ((decide (x0.1.1≤x1)) && (decide (x1≤x0.1.2)))
def scale_song_high_l1 (F:Nat) (x1:(Int×Int)):List ((Int×Int)×Int)→(List Int)→(List Int)→Int→Option ((List Int)×(List Int)×Int)
 | [],y1,y2,y3=>some (y1,y2,y3)
 | x4::us,y1,y2,y3 =>
  if (decide (x4.1.1≤y3))=true then
   scale_song_high_l1 F x1 us y1 y2 y3
  else
   ((if ((decide (x1.1≤x4.1.2)) && (decide (x4.1.2≤x1.2)))=true then
    some (w64 (x1.1 - 1))
   else
    some x4.1.2:Option (Int)) >>= fun y4 =>
   (app 8 y1 ([y4]:List Int)) >>= fun x5 =>
   if (decide (y4<x4.1.1))=true then
    some (x5,y2,y3)
   else
    (app 8 y2 ([x4.2]:List Int)) >>= fun x6 =>
    scale_song_high_l1 F x1 us x5 x6 y4)
def scale_song_high (F:Nat) (x0:(Uno (List ((Int×Int)×Int)))) (x1:(Int×Int)):Option ((List Int)×(List Int)) :=
 (scale_song_tones (⟨x0.v⟩:(Uno (List ((Int×Int)×Int))))) >>= fun x3 =>
 ((scale_song_high_l1 F x1 x3 ([]) ([]) (-1)) >>= fun (z1,z2,z3) =>
 some (z1,z2))
def scale_song_met_l1 (F:Nat) (x1:(List Int)):List ((Int×Int)×Int)→(Ar 25 Int)→Option ((Ar 25 Int))
 | [],y1=>some y1
 | x4::us,y1 =>
  (slices_ContainsFunc_int64 F x1 (fun y=>scale_tone_on ((x4.1.1,x4.1.2),x4.2) y)) >>= fun x5 =>
  ((if x5=true then
   (ix y1.l x4.2) >>= fun x6 =>
   some (aset y1 x4.2 1)
  else
   some y1:Option ((Ar 25 Int))) >>= fun y2 =>
  scale_song_met_l1 F x1 us y2)
def scale_song_met (F:Nat) (x0:(Uno (List ((Int×Int)×Int)))) (x1:(List Int)):Option (Ar 25 Int) :=
 (scale_song_tones (⟨x0.v⟩:(Uno (List ((Int×Int)×Int))))) >>= fun x3 =>
 ((scale_song_met_l1 F x1 x3 (Ar.fill 25 0:(Ar 25 Int))) >>= fun z1 =>
 some z1)
end Go.Proofs.YtfmelbioccbdoaaGreat
end
section
namespace Go.Proofs.YtfmelbioccbdoaaGreat
open Go Go.Md Go.RowKit
def scale_newSong_1 (x0:((Int×Int)×Int)) (x1:((Int×Int)×Int)):Option Int :=
 some (w64 (x0.1.2 - x1.1.2))
def slices_insertionSortCmpFunc__scale_tone_l2 (F:Nat) (x1:Int):Nat→(List ((Int×Int)×Int))→Int→Option ((List ((Int×Int)×Int)))
 | 0,_,_=>none
 | m + 1,y3,y4 =>
  ((if (decide (x1<y4))=true then
   (ix y3 y4) >>= fun x5 =>
   (ix y3 (w64 (y4 - 1))) >>= fun x6 =>
   (scale_newSong_1 ((x5.1.1,x5.1.2),x5.2) ((x6.1.1,x6.1.2),x6.2)) >>= fun x7 =>
   some (decide (x7<0))
  else
   some false:Option (Bool)) >>= fun y5 =>
  if y5=true then
   (ix y3 (w64 (y4 - 1))) >>= fun x8 =>
   (ix y3 y4) >>= fun x9 =>
   (ix y3 y4) >>= fun x10 =>
   (ix (rset y3 y4 ((x8.1.1,x8.1.2),x8.2)) (w64 (y4 - 1))) >>= fun x11 =>
   slices_insertionSortCmpFunc__scale_tone_l2 F x1 m (rset (rset y3 y4 ((x8.1.1,x8.1.2),x8.2)) (w64 (y4 - 1)) ((x9.1.1,x9.1.2),x9.2)) (w64 (y4 - 1))
  else
   some y3)
def slices_insertionSortCmpFunc__scale_tone_l1 (F:Nat) (x1:Int) (x2:Int):Nat→(List ((Int×Int)×Int))→Int→Option ((List ((Int×Int)×Int)))
 | 0,_,_=>none
 | m + 1,y1,y2 =>
  if (decide (y2<x2))=true then
   ((slices_insertionSortCmpFunc__scale_tone_l2 F x1 F y1 y2) >>= fun z2 =>
   slices_insertionSortCmpFunc__scale_tone_l1 F x1 x2 m z2 (w64 (y2 + 1)))
  else
   some y1
def slices_insertionSortCmpFunc__scale_tone (F:Nat) (x0:(List ((Int×Int)×Int))) (x1:Int) (x2:Int):Option (List ((Int×Int)×Int)) :=
 ((slices_insertionSortCmpFunc__scale_tone_l1 F x1 x2 F x0 (w64 (x1 + 1))) >>= fun z1 =>
 z1)
def slices_swapRangeCmpFunc__scale_tone_l1 (F:Nat) (x1:Int) (x2:Int) (x3:Int):Nat→(List ((Int×Int)×Int))→Int→Option ((List ((Int×Int)×Int)))
 | 0,_,_=>none
 | m + 1,y1,y2 =>
  if (decide (y2<x3))=true then
   (ix y1 (w64 (x2 + y2))) >>= fun x6 =>
   (ix y1 (w64 (x1 + y2))) >>= fun x7 =>
   (ix y1 (w64 (x1 + y2))) >>= fun x8 =>
   (ix (rset y1 (w64 (x1 + y2)) ((x6.1.1,x6.1.2),x6.2)) (w64 (x2 + y2))) >>= fun x9 =>
   slices_swapRangeCmpFunc__scale_tone_l1 F x1 x2 x3 m (rset (rset y1 (w64 (x1 + y2)) ((x6.1.1,x6.1.2),x6.2)) (w64 (x2 + y2)) ((x7.1.1,x7.1.2),x7.2)) (w64 (y2 + 1))
  else
   some y1
def slices_swapRangeCmpFunc__scale_tone (F:Nat) (x0:(List ((Int×Int)×Int))) (x1:Int) (x2:Int) (x3:Int):Option (List ((Int×Int)×Int)) :=
 ((slices_swapRangeCmpFunc__scale_tone_l1 F x1 x2 x3 F x0 0) >>= fun z1 =>
 z1)
def slices_rotateCmpFunc__scale_tone_l1 (F:Nat) (x2:Int):Nat→(List ((Int×Int)×Int))→Int→Int→Option ((List ((Int×Int)×Int))×Int)
 | 0,_,_,_=>none
 | m + 1,y1,y2,y3 =>
  if (!decide (y2=y3))=true then
   ((((if (decide (y3<y2))=true then
    (slices_swapRangeCmpFunc__scale_tone F y1 (w64 (x2 - y2)) x2 y3) >>= fun x6 =>
    some (x6,w64 (y2 - y3),y3)
   else
    (slices_swapRangeCmpFunc__scale_tone F y1 (w64 (x2 - y2)) (w64 ((w64 (x2 + y3)) - y2)) y2) >>= fun x7 =>
    some (x7,y2,w64 (y3 - y2)):Option ((List ((Int×Int)×Int))×Int×Int)) >>= fun (y7,y8,y9) =>
   some (y7,y8,y9)):Option ((List ((Int×Int)×Int))×Int×Int)) >>= fun (y4,y5,y6) =>
   slices_rotateCmpFunc__scale_tone_l1 F x2 m y4 y5 y6)
  else
   some (y1,y2)
def slices_rotateCmpFunc__scale_tone (F:Nat) (x0:(List ((Int×Int)×Int))) (x1:Int) (x2:Int) (x3:Int):Option (List ((Int×Int)×Int)) :=
 ((slices_rotateCmpFunc__scale_tone_l1 F x2 F x0 (w64 (x2 - x1)) (w64 (x3 - x2))) >>= fun (z1,z2) =>
 (slices_swapRangeCmpFunc__scale_tone F z1 (w64 (x2 - z2)) x2 z2) >>= fun x8 =>
 x8)
def slices_symMergeCmpFunc__scale_tone_l1 (F:Nat) (x0:(List ((Int×Int)×Int))) (x1:Int):Nat→Int→Int→Option (Int)
 | 0,_,_=>none
 | m + 1,y1,y2 =>
  if (decide (y1<y2))=true then
   (((shr .u64 (IntKind.u64.wrap (w64 (y1 + y2))) 1) >>= fun x6 =>
   (ix x0 (w64 x6)) >>= fun x7 =>
   (ix x0 x1) >>= fun x8 =>
   (scale_newSong_1 ((x7.1.1,x7.1.2),x7.2) ((x8.1.1,x8.1.2),x8.2)) >>= fun x9 =>
   ((if (decide (x9<0))=true then
    some (w64 ((w64 x6) + 1),y2)
   else
    some (y1,w64 x6):Option (Int×Int)) >>= fun (y5,y6) =>
   some (y5,y6)):Option (Int×Int)) >>= fun (y3,y4) =>
   slices_symMergeCmpFunc__scale_tone_l1 F x0 x1 m y3 y4)
  else
   some y1
def slices_symMergeCmpFunc__scale_tone_l2 (F:Nat) (z1:Int):Nat→(List ((Int×Int)×Int))→Int→Option ((List ((Int×Int)×Int)))
 | 0,_,_=>none
 | m + 1,y7,y8 =>
  if (decide (y8<(w64 (z1 - 1))))=true then
   (ix y7 (w64 (y8 + 1))) >>= fun x10 =>
   (ix y7 y8) >>= fun x11 =>
   (ix y7 y8) >>= fun x12 =>
   (ix (rset y7 y8 ((x10.1.1,x10.1.2),x10.2)) (w64 (y8 + 1))) >>= fun x13 =>
   slices_symMergeCmpFunc__scale_tone_l2 F z1 m (rset (rset y7 y8 ((x10.1.1,x10.1.2),x10.2)) (w64 (y8 + 1)) ((x11.1.1,x11.1.2),x11.2)) (w64 (y8 + 1))
  else
   some y7
def slices_symMergeCmpFunc__scale_tone_l3 (F:Nat) (x0:(List ((Int×Int)×Int))) (x2:Int):Nat→Int→Int→Option (Int)
 | 0,_,_=>none
 | m + 1,y9,y10 =>
  if (decide (y9<y10))=true then
   (((shr .u64 (IntKind.u64.wrap (w64 (y9 + y10))) 1) >>= fun x14 =>
   (ix x0 x2) >>= fun x15 =>
   (ix x0 (w64 x14)) >>= fun x16 =>
   (scale_newSong_1 ((x15.1.1,x15.1.2),x15.2) ((x16.1.1,x16.1.2),x16.2)) >>= fun x17 =>
   ((if (!(decide (x17<0)))=true then
    some (w64 ((w64 x14) + 1),y10)
   else
    some (y9,w64 x14):Option (Int×Int)) >>= fun (y13,y14) =>
   some (y13,y14)):Option (Int×Int)) >>= fun (y11,y12) =>
   slices_symMergeCmpFunc__scale_tone_l3 F x0 x2 m y11 y12)
  else
   some y9
def slices_symMergeCmpFunc__scale_tone_l4 (F:Nat) (z3:Int):Nat→(List ((Int×Int)×Int))→Int→Option ((List ((Int×Int)×Int)))
 | 0,_,_=>none
 | m + 1,y15,y16 =>
  if (decide (z3<y16))=true then
   (ix y15 (w64 (y16 - 1))) >>= fun x18 =>
   (ix y15 y16) >>= fun x19 =>
   (ix y15 y16) >>= fun x20 =>
   (ix (rset y15 y16 ((x18.1.1,x18.1.2),x18.2)) (w64 (y16 - 1))) >>= fun x21 =>
   slices_symMergeCmpFunc__scale_tone_l4 F z3 m (rset (rset y15 y16 ((x18.1.1,x18.1.2),x18.2)) (w64 (y16 - 1)) ((x19.1.1,x19.1.2),x19.2)) (w64 (y16 - 1))
  else
   some y15
def slices_symMergeCmpFunc__scale_tone_l5 (F:Nat) (x0:(List ((Int×Int)×Int))) (x2:Int) (x22:Int):Nat→Int→Int→Option (Int)
 | 0,_,_=>none
 | m + 1,y19,y20 =>
  if (decide (y19<y20))=true then
   (((shr .u64 (IntKind.u64.wrap (w64 (y19 + y20))) 1) >>= fun x23 =>
   (ix x0 (w64 ((w64 ((w64 ((w64 x22) + x2)) - 1)) - (w64 x23)))) >>= fun x24 =>
   (ix x0 (w64 x23)) >>= fun x25 =>
   (scale_newSong_1 ((x24.1.1,x24.1.2),x24.2) ((x25.1.1,x25.1.2),x25.2)) >>= fun x26 =>
   ((if (!(decide (x26<0)))=true then
    some (w64 ((w64 x23) + 1),y20)
   else
    some (y19,w64 x23):Option (Int×Int)) >>= fun (y23,y24) =>
   some (y23,y24)):Option (Int×Int)) >>= fun (y21,y22) =>
   slices_symMergeCmpFunc__scale_tone_l5 F x0 x2 x22 m y21 y22)
  else
   some y19
def slices_symMergeCmpFunc__scale_tone_r (F:Nat):Nat→(List ((Int×Int)×Int))→Int→Int→Int→Option (List ((Int×Int)×Int))
 | 0,_,_,_,_=>none
 | m + 1,x0,x1,x2,x3 =>
  if (decide ((w64 (x2 - x1))=1))=true then
   ((slices_symMergeCmpFunc__scale_tone_l1 F x0 x1 F x2 x3) >>= fun z1 =>
   ((slices_symMergeCmpFunc__scale_tone_l2 F z1 F x0 x1) >>= fun z2 =>
   some z2))
  else
   if (decide ((w64 (x3 - x2))=1))=true then
    ((slices_symMergeCmpFunc__scale_tone_l3 F x0 x2 F x1 x2) >>= fun z3 =>
    ((slices_symMergeCmpFunc__scale_tone_l4 F z3 F x0 x2) >>= fun z4 =>
    some z4))
   else
    (shr .u64 (IntKind.u64.wrap (w64 (x1 + x3))) 1) >>= fun x22 =>
    ((if (decide ((w64 x22)<x2))=true then
     some (w64 ((w64 ((w64 x22) + x2)) - x3),w64 x22)
    else
     some (x1,x2):Option (Int×Int)) >>= fun (y17,y18) =>
    ((slices_symMergeCmpFunc__scale_tone_l5 F x0 x2 x22 F y17 y18) >>= fun z5 =>
    ((if ((decide (z5<x2)) && (decide (x2<(w64 ((w64 ((w64 x22) + x2)) - z5)))))=true then
     (slices_rotateCmpFunc__scale_tone F x0 z5 x2 (w64 ((w64 ((w64 x22) + x2)) - z5))) >>= fun x27 =>
     some x27
    else
     some x0:Option ((List ((Int×Int)×Int)))) >>= fun y25 =>
    ((if ((decide (x1<z5)) && (decide (z5<(w64 x22))))=true then
     (slices_symMergeCmpFunc__scale_tone_r F m y25 x1 z5 (w64 x22)) >>= fun x28 =>
     some x28
    else
     some y25:Option ((List ((Int×Int)×Int)))) >>= fun y26 =>
    ((if ((decide ((w64 x22)<(w64 ((w64 ((w64 x22) + x2)) - z5)))) && (decide ((w64 ((w64 ((w64 x22) + x2)) - z5))<x3)))=true then
     (slices_symMergeCmpFunc__scale_tone_r F m y26 (w64 x22) (w64 ((w64 ((w64 x22) + x2)) - z5)) x3) >>= fun x29 =>
     some x29
    else
     some y26:Option ((List ((Int×Int)×Int)))) >>= fun y27 =>
    y27)))))
def slices_symMergeCmpFunc__scale_tone (F:Nat) (x0:(List ((Int×Int)×Int))) (x1:Int) (x2:Int) (x3:Int):Option (List ((Int×Int)×Int)):=slices_symMergeCmpFunc__scale_tone_r F F x0 x1 x2 x3
def slices_stableCmpFunc__scale_tone_l1 (F:Nat) (x1:Int):Nat→(List ((Int×Int)×Int))→Int→Int→Option ((List ((Int×Int)×Int))×Int)
 | 0,_,_,_=>none
 | m + 1,y1,y2,y3 =>
  if (decide (y3≤x1))=true then
   (slices_insertionSortCmpFunc__scale_tone F y1 y2 y3) >>= fun x4 =>
   slices_stableCmpFunc__scale_tone_l1 F x1 m x4 y3 (w64 (y3 + 20))
  else
   some (y1,y2)
def slices_stableCmpFunc__scale_tone_l3 (F:Nat) (x1:Int) (y5:Int):Nat→(List ((Int×Int)×Int))→Int→Int→Option ((List ((Int×Int)×Int))×Int)
 | 0,_,_,_=>none
 | m + 1,y6,y7,y8 =>
  if (decide (y8≤x1))=true then
   (slices_symMergeCmpFunc__scale_tone F y6 y7 (w64 (y7 + y5)) y8) >>= fun x6 =>
   slices_stableCmpFunc__scale_tone_l3 F x1 y5 m x6 y8 (w64 (y8 + (w64 (2 * y5))))
  else
   some (y6,y7)
def slices_stableCmpFunc__scale_tone_l2 (F:Nat) (x1:Int):Nat→(List ((Int×Int)×Int))→Int→Option ((List ((Int×Int)×Int)))
 | 0,_,_=>none
 | m + 1,y4,y5 =>
  if (decide (y5<x1))=true then
   ((slices_stableCmpFunc__scale_tone_l3 F x1 y5 F y4 0 (w64 (2 * y5))) >>= fun (z4,z5) =>
   ((if (decide ((w64 (z5 + y5))<x1))=true then
    (slices_symMergeCmpFunc__scale_tone F z4 z5 (w64 (z5 + y5)) x1) >>= fun x7 =>
    some x7
   else
    some z4:Option ((List ((Int×Int)×Int)))) >>= fun y9 =>
   slices_stableCmpFunc__scale_tone_l2 F x1 m y9 (w64 (y5 * 2))))
  else
   some y4
def slices_stableCmpFunc__scale_tone (F:Nat) (x0:(List ((Int×Int)×Int))) (x1:Int):Option (List ((Int×Int)×Int)) :=
 ((slices_stableCmpFunc__scale_tone_l1 F x1 F x0 0 20) >>= fun (z1,z2) =>
 (slices_insertionSortCmpFunc__scale_tone F z1 z2 x1) >>= fun x5 =>
 ((slices_stableCmpFunc__scale_tone_l2 F x1 F x5 20) >>= fun z3 =>
 z3))
def slices_SortStableFunc_scale_tone (F:Nat) (x0:(List ((Int×Int)×Int))):Option (List ((Int×Int)×Int)) :=
 (slices_stableCmpFunc__scale_tone F x0 (x0.length:Int)) >>= fun x3 =>
 x3
end Go.Proofs.YtfmelbioccbdoaaGreat
end
section
namespace Go.Proofs
open Go.Shelf
def Tryz.lays189_ren:Go.Shelf.Ren:=⟨fun | 189=>98 | 125=>207 | 257=>206 | 128=>292 | 129=>293 | 294=>283 | 295=>284 | 296=>285 | 297=>286 | 298=>287 | 299=>288 | 216=>289 | 300=>290 | 301=>291 | 328=>332 | 329=>333 | 330=>334 | 331=>335 | 332=>336 | 215=>337 | 343=>346 | n=>n,fun | 28=>41 | 3=>3 | 46=>310 | 0=>0 | 51=>71 | 53=>394 | 4=>4 | 183=>385 | 182=>384 | 131=>390 | 5=>5 | 9=>9 | 218=>432 | 222=>436 | 228=>443 | 229=>444 | n=>n,fun | n=>n⟩
theorem Tryz.lays189:Go.Proofs.Lays.n189 Tryz.prog Tryz.lays189_ren:={
 mixed:=by kernel_rfl
 f125:=Tryz.func207.trans (congrArg some (by kernel_rfl))
 f128:=Tryz.func292.trans (congrArg some (by kernel_rfl))
 f129:=Tryz.func293.trans (congrArg some (by kernel_rfl))
 f189:=Tryz.func98.trans (congrArg some (by kernel_rfl))
 f215:=Tryz.func337.trans (congrArg some (by kernel_rfl))
 f216:=Tryz.func289.trans (congrArg some (by kernel_rfl))
 f257:=Tryz.func206.trans (congrArg some (by kernel_rfl))
 f294:=Tryz.func283.trans (congrArg some (by kernel_rfl))
 f295:=Tryz.func284.trans (congrArg some (by kernel_rfl))
 f296:=Tryz.func285.trans (congrArg some (by kernel_rfl))
 f297:=Tryz.func286.trans (congrArg some (by kernel_rfl))
 f298:=Tryz.func287.trans (congrArg some (by kernel_rfl))
 f299:=Tryz.func288.trans (congrArg some (by kernel_rfl))
 f300:=Tryz.func290.trans (congrArg some (by kernel_rfl))
 f301:=Tryz.func291.trans (congrArg some (by kernel_rfl))
 f328:=Tryz.func332.trans (congrArg some (by kernel_rfl))
 f329:=Tryz.func333.trans (congrArg some (by kernel_rfl))
 f330:=Tryz.func334.trans (congrArg some (by kernel_rfl))
 f331:=Tryz.func335.trans (congrArg some (by kernel_rfl))
 f332:=Tryz.func336.trans (congrArg some (by kernel_rfl))
 f343:=Tryz.func346.trans (congrArg some (by kernel_rfl))
 t0:=Tryz.underlying0
 a0:=Tryz.isAgg0
 z0:=Tryz.sizeOf0
 v0:=Tryz.zeroValue0
 t3:=Tryz.underlying3
 a3:=Tryz.isAgg3
 z3:=Tryz.sizeOf3
 v3:=Tryz.zeroValue3
 t4:=Tryz.underlying4
 a4:=Tryz.isAgg4
 z4:=Tryz.sizeOf4
 v4:=Tryz.zeroValue4
 t5:=Tryz.underlying5
 a5:=Tryz.isAgg5
 z5:=Tryz.sizeOf5
 v5:=Tryz.zeroValue5
 t9:=Tryz.underlying9
 a9:=Tryz.isAgg9
 z9:=Tryz.sizeOf9
 v9:=Tryz.zeroValue9
 t28:=Tryz.underlying41
 a28:=Tryz.isAgg41
 z28:=Tryz.sizeOf41
 v28:=Tryz.zeroValue41
 t46:=Tryz.underlying310
 a46:=Tryz.isAgg310
 z46:=Tryz.sizeOf310
 v46:=Tryz.zeroValue310
 t51:=Tryz.underlying71
 a51:=Tryz.isAgg71
 z51:=Tryz.sizeOf71
 v51:=Tryz.zeroValue71
 t53:=Tryz.underlying394
 a53:=Tryz.isAgg394
 z53:=Tryz.sizeOf394
 v53:=Tryz.zeroValue394
 t131:=Tryz.underlying390
 a131:=Tryz.isAgg390
 z131:=Tryz.sizeOf390
 v131:=Tryz.zeroValue390
 t182:=Tryz.underlying384
 a182:=Tryz.isAgg384
 z182:=Tryz.sizeOf384
 v182:=Tryz.zeroValue384
 t183:=Tryz.underlying385
 a183:=Tryz.isAgg385
 z183:=Tryz.sizeOf385
 v183:=Tryz.zeroValue385
 t218:=Tryz.underlying432
 a218:=Tryz.isAgg432
 z218:=Tryz.sizeOf432
 v218:=Tryz.zeroValue432
 t222:=Tryz.underlying436
 a222:=Tryz.isAgg436
 z222:=Tryz.sizeOf436
 v222:=Tryz.zeroValue436
 t228:=Tryz.underlying443
 a228:=Tryz.isAgg443
 z228:=Tryz.sizeOf443
 v228:=Tryz.zeroValue443
 t229:=Tryz.underlying444
 a229:=Tryz.isAgg444
 z229:=Tryz.sizeOf444
 v229:=Tryz.zeroValue444 }
open Go.Sort Go.RowKit in
theorem Tryz.slices_Sort_int (blk off cap:Nat) (zs:List Int) (w:World) (hH:Holds (Value.int .i64) w blk off zs.toArray) (hblk:blk<w.heap.size) (hsz:zs.length<4611686018427387904) :
  Calls Tryz.prog 98 #[.slice (some ⟨blk,off,none⟩) zs.length cap] w fun e w' =>
   e=.returned (.tuple #[])∧∃ n os,w'=grow (putRow (Value.int .i64) (Sort.ahead w n) blk off (zs.mergeSort fun x y=>decide (x≤y)).toArray) os:=Any.slices_Sort_int Tryz.lays189 blk off cap zs w hH hblk hsz
def Tryz.lays108_ren:Go.Shelf.Ren:=⟨fun | 108=>250 | n=>n,fun | 28=>41 | 3=>3 | 0=>0 | 4=>4 | n=>n,fun | n=>n⟩
theorem Tryz.lays108:Go.Proofs.Lays.n108 Tryz.prog Tryz.lays108_ren:={
 mixed:=by kernel_rfl
 f108:=Tryz.func250.trans (congrArg some (by kernel_rfl))
 t0:=Tryz.underlying0
 a0:=Tryz.isAgg0
 z0:=Tryz.sizeOf0
 v0:=Tryz.zeroValue0
 t3:=Tryz.underlying3
 a3:=Tryz.isAgg3
 z3:=Tryz.sizeOf3
 v3:=Tryz.zeroValue3
 t4:=Tryz.underlying4
 a4:=Tryz.isAgg4
 z4:=Tryz.sizeOf4
 v4:=Tryz.zeroValue4
 t28:=Tryz.underlying41
 a28:=Tryz.isAgg41
 z28:=Tryz.sizeOf41
 v28:=Tryz.zeroValue41 }
open Go.Lib in
theorem Tryz.slices_Index_int (b off n c:Nat) (zs:List Int) (x:Int) (w:World) (hz:n≤zs.length) (hbig:n≤9223372036854775807) (hc:∀ j,j<zs.length→w.cell? ⟨b,off + j,none⟩=some (.int .i64 (zs.getD j 0))) :
  Calls Tryz.prog 250 #[.slice (some ⟨b,off,none⟩) n c,.int .i64 x] w fun e w'=>e=.returned (.int .i64 (Lib.idxOf (zs.take n) x))∧w'=w:=Any.slices_Index_int Tryz.lays108 b off n c zs x w hz hbig hc
def Tryz.lays107_ren:Go.Shelf.Ren:=⟨fun | 107=>144 | 108=>250 | n=>n,fun | 28=>41 | 3=>3 | 4=>4 | 0=>0 | n=>n,fun | n=>n⟩
theorem Tryz.lays107:Go.Proofs.Lays.n107 Tryz.prog Tryz.lays107_ren:={
 mixed:=by kernel_rfl
 f107:=Tryz.func144.trans (congrArg some (by kernel_rfl))
 f108:=Tryz.func250.trans (congrArg some (by kernel_rfl))
 t0:=Tryz.underlying0
 a0:=Tryz.isAgg0
 z0:=Tryz.sizeOf0
 v0:=Tryz.zeroValue0
 t3:=Tryz.underlying3
 a3:=Tryz.isAgg3
 z3:=Tryz.sizeOf3
 v3:=Tryz.zeroValue3
 t4:=Tryz.underlying4
 a4:=Tryz.isAgg4
 z4:=Tryz.sizeOf4
 v4:=Tryz.zeroValue4
 t28:=Tryz.underlying41
 a28:=Tryz.isAgg41
 z28:=Tryz.sizeOf41
 v28:=Tryz.zeroValue41 }
open Go.Lib in
theorem Tryz.slices_Contains_int (b off n c:Nat) (zs:List Int) (x:Int) (w:World) (hz:n≤zs.length) (hbig:n≤9223372036854775807) (hc:∀ j,j<zs.length→w.cell? ⟨b,off + j,none⟩=some (.int .i64 (zs.getD j 0))) :
  Calls Tryz.prog 144 #[.slice (some ⟨b,off,none⟩) n c,.int .i64 x] w fun e w'=>e=.returned (.bool ((zs.take n).contains x))∧w'=w:=Any.slices_Contains_int Tryz.lays107 b off n c zs x w hz hbig hc
def Tryz.lays112_ren:Go.Shelf.Ren:=⟨fun | 112=>131 | n=>n,fun | 28=>41 | 3=>3 | 4=>4 | 0=>0 | n=>n,fun | n=>n⟩
theorem Tryz.lays112:Go.Proofs.Lays.n112 Tryz.prog Tryz.lays112_ren:={
 mixed:=by kernel_rfl
 f112:=Tryz.func131.trans (congrArg some (by kernel_rfl))
 t0:=Tryz.underlying0
 a0:=Tryz.isAgg0
 z0:=Tryz.sizeOf0
 v0:=Tryz.zeroValue0
 t3:=Tryz.underlying3
 a3:=Tryz.isAgg3
 z3:=Tryz.sizeOf3
 v3:=Tryz.zeroValue3
 t4:=Tryz.underlying4
 a4:=Tryz.isAgg4
 z4:=Tryz.sizeOf4
 v4:=Tryz.zeroValue4
 t28:=Tryz.underlying41
 a28:=Tryz.isAgg41
 z28:=Tryz.sizeOf41
 v28:=Tryz.zeroValue41 }
open Go.RowKit Go.Lib Go.Sort in
theorem Tryz.slices_Reverse_int (blk off cap:Nat) (zs:List Int) (w:World) (hH:Holds (Value.int .i64) w blk off zs.toArray) (hsz:zs.length≤9223372036854775807) :
  Calls Tryz.prog 131 #[.slice (some ⟨blk,off,none⟩) zs.length cap] w fun e w'=>e=.returned (.tuple #[])∧∃ n,w'=putRow (Value.int .i64) (Sort.ahead w n) blk off zs.reverse.toArray:=Any.slices_Reverse_int Tryz.lays112 blk off cap zs w hH hsz
open Go.RowKit Go.Lib Go.Sort in
theorem Tryz.slices_Reverse_int_empty (a:Option Addr) (cap:Nat) (w:World) :
  Calls Tryz.prog 131 #[.slice a 0 cap] w fun e w'=>e=.returned (.tuple #[])∧w'=w:=Any.slices_Reverse_int_empty Tryz.lays112 a cap w
open Go.RowKit Go.Sort in
theorem Tryz.slices_Sort_int_none (p:Option Addr) (cap:Nat) (w:World) :
  Calls Tryz.prog 98 #[.slice p 0 cap] w fun e w'=>e=.returned (.tuple #[])∧w'=w:=Any.slices_Sort_int_none Tryz.lays189 p cap w
def Tryz.laysSlN35_f275_ren:Go.Shelf.Ren:=⟨fun | 35=>275 | n=>n,fun | 22=>28 | 23=>2 | 3=>3 | 4=>4 | 0=>0 | n=>n,fun | n=>n⟩
theorem Tryz.laysSlN35_f275:Go.Proofs.SlLaysN.n35 Tryz.prog Tryz.laysSlN35_f275_ren:={
 mixed:=by kernel_rfl
 f35:=⟨Tryz.f275.name,by decide,Tryz.func275.trans (congrArg some (by kernel_rfl))⟩
 t0:=Tryz.underlying0
 a0:=Tryz.isAgg0
 z0:=Tryz.sizeOf0
 v0:=Tryz.zeroValue0
 t3:=Tryz.underlying3
 a3:=Tryz.isAgg3
 z3:=Tryz.sizeOf3
 v3:=Tryz.zeroValue3
 t4:=Tryz.underlying4
 a4:=Tryz.isAgg4
 z4:=Tryz.sizeOf4
 v4:=Tryz.zeroValue4
 t22:=Tryz.underlying28
 a22:=Tryz.isAgg28
 z22:=Tryz.sizeOf28
 v22:=Tryz.zeroValue28
 t23:=Tryz.underlying2
 a23:=Tryz.isAgg2
 z23:=Tryz.sizeOf2
 v23:=Tryz.zeroValue2 }
open Go.RowKit Go.Lib Go.Sort in
theorem Tryz.slices_Reverse_int_f275 (blk off cap:Nat) (zs:List Int) (w:World) (hH:Holds (Value.int .i64) w blk off zs.toArray) (hsz:zs.length≤9223372036854775807) :
  Calls Tryz.prog 275 #[.slice (some ⟨blk,off,none⟩) zs.length cap] w fun e w'=>e=.returned (.tuple #[])∧∃ n,w'=putRow (Value.int .i64) (Sort.ahead w n) blk off zs.reverse.toArray:=AnyG.slices_Reverse_int Tryz.laysSlN35_f275 blk off cap zs w hH hsz
open Go.RowKit Go.Lib Go.Sort in
theorem Tryz.slices_Reverse_int_empty_f275 (a:Option Addr) (cap:Nat) (w:World) :
  Calls Tryz.prog 275 #[.slice a 0 cap] w fun e w'=>e=.returned (.tuple #[])∧w'=w:=AnyG.slices_Reverse_int_empty Tryz.laysSlN35_f275 a cap w
def Tryz.laysSlN43_f326_ren:Go.Shelf.Ren:=⟨fun | 43=>326 | n=>n,fun | 22=>28 | 23=>2 | 3=>3 | 4=>4 | 0=>0 | n=>n,fun | n=>n⟩
theorem Tryz.laysSlN43_f326:Go.Proofs.SlLaysN.n43 Tryz.prog Tryz.laysSlN43_f326_ren:={
 mixed:=by kernel_rfl
 f43:=⟨Tryz.f326.name,by decide,Tryz.func326.trans (congrArg some (by kernel_rfl))⟩
 t0:=Tryz.underlying0
 a0:=Tryz.isAgg0
 z0:=Tryz.sizeOf0
 v0:=Tryz.zeroValue0
 t3:=Tryz.underlying3
 a3:=Tryz.isAgg3
 z3:=Tryz.sizeOf3
 v3:=Tryz.zeroValue3
 t4:=Tryz.underlying4
 a4:=Tryz.isAgg4
 z4:=Tryz.sizeOf4
 v4:=Tryz.zeroValue4
 t22:=Tryz.underlying28
 a22:=Tryz.isAgg28
 z22:=Tryz.sizeOf28
 v22:=Tryz.zeroValue28
 t23:=Tryz.underlying2
 a23:=Tryz.isAgg2
 z23:=Tryz.sizeOf2
 v23:=Tryz.zeroValue2
 i23:=by kernel_rfl }
open Go.RowKit Go.Lib Go.Sort in
theorem Tryz.slices_Compact_int (blk off cap:Nat) (zs:List Int) (w:World) (hH:Holds (Value.int .i64) w blk off zs.toArray) (hsz:zs.length≤9223372036854775807) (hcap:zs.length≤cap) :
  Calls Tryz.prog 326 #[.slice (some ⟨blk,off,none⟩) zs.length cap] w fun e w'=>e=.returned (.slice (some ⟨blk,off,none⟩) (Lib.compact zs).length cap)∧∃ q,w'=putRow (Value.int .i64) (Sort.ahead w q) blk off (Lib.compact zs++List.replicate (zs.length - (Lib.compact zs).length) 0).toArray:=AnyG.slices_Compact_int Tryz.laysSlN43_f326 blk off cap zs w hH hsz hcap
open Go.RowKit Go.Lib Go.Sort in
theorem Tryz.slices_Compact_int_empty (a:Option Addr) (cap:Nat) (w:World) :
  Calls Tryz.prog 326 #[.slice a 0 cap] w fun e w'=>e=.returned (.slice a 0 cap)∧w'=w:=AnyG.slices_Compact_int_empty Tryz.laysSlN43_f326 a cap w
end Go.Proofs
end
section
namespace Go.Proofs.YtfmelbioccbdoaaGreat
open Go Go.Md Go.RowKit
attribute [local irreducible] Go.wpList Go.Code.wp Go.Calls Go.Md.Rnd Go.Md.Mt
def insi (a:Int):List Int→List Int
 | []=>[a]
 | b::l=>if a≤b then a::b::l else b::insi a l
def isort:List Int→List Int
 | []=>[]
 | a::l=>insi a (isort l)
theorem insi_perm {a:Int}:∀ {l:List Int},(insi a l).Perm (a::l)
 | []=>List.Perm.refl _
 | b::l=>by
  unfold insi
  split
  ·exact List.Perm.refl _
  ·exact (List.Perm.cons b insi_perm).trans (List.Perm.swap a b l)
theorem isort_perm:∀ {l:List Int},(isort l).Perm l
 | []=>List.Perm.refl _
 | a::l=>insi_perm.trans (List.Perm.cons a isort_perm)
theorem insi_sorted {a:Int}:∀ {l:List Int},l.Pairwise (·≤·)→(insi a l).Pairwise (·≤·)
 | [],_=>by simp [insi]
 | b::l,h=>by
  unfold insi
  rw [List.pairwise_cons] at h
  split
  ·rename_i hab
   rw [List.pairwise_cons]
   refine ⟨fun x hx=>?_,by rw [List.pairwise_cons]; exact h⟩
   rcases List.mem_cons.1 hx with rfl | hx
   ·exact hab
   ·have:=h.1 x hx
    omega
  ·rename_i hab
   rw [List.pairwise_cons]
   refine ⟨fun x hx=>?_,insi_sorted h.2⟩
   rcases List.mem_cons.1 (insi_perm.mem_iff.1 hx) with rfl | hx
   ·omega
   ·exact h.1 x hx
theorem isort_sorted:∀ {l:List Int},(isort l).Pairwise (·≤·)
 | []=>List.Pairwise.nil
 | _::_=>insi_sorted isort_sorted
theorem sorted_eq:∀ {l m:List Int},l.Pairwise (·≤·)→m.Pairwise (·≤·)→l.Perm m→l=m
 | [],m,_,_,h=>(List.nil_perm.1 h).symm
 | a::l,[],_,_,h=>by have:=h.length_eq; simp at this
 | a::l,b::m,h1,h2,h=>by
  rw [List.pairwise_cons] at h1 h2
  have e1:b≤a:=by
   rcases List.mem_cons.1 (h.mem_iff.1 (List.mem_cons_self (a:=a) (l:=l))) with e | e
   ·omega
   ·exact h2.1 a e
  have e2:a≤b:=by
   rcases List.mem_cons.1 (h.mem_iff.2 (List.mem_cons_self (a:=b) (l:=m))) with e | e
   ·omega
   ·exact h1.1 b e
  have:a=b:=by omega
  subst this
  rw [sorted_eq h1.2 h2.2 (List.Perm.cons_inv h)]
theorem merge_isort (l:List Int):(l.mergeSort fun x y=>decide (x≤y))=isort l:=by
 refine sorted_eq ?_ isort_sorted ((List.mergeSort_perm l _).trans isort_perm.symm)
 have:=List.pairwise_mergeSort (le:=fun x y:Int=>decide (x≤y)) (fun a b c h1 h2=>by simp at *; omega) (fun a b=>by simp; omega) l
 exact this.imp fun h=>by simpa using h
theorem encI_map (l:List Int):l.flatMap Flat.enc=l.map (Value.int .i64):=by
 induction l with
 | nil=>rfl
 | cons a l ih=>rw [List.flatMap_cons,ih]; rfl
def slices_Sort_int (x0:List Int):Option (List Int):=if x0.length<4611686018427387904 then some (isort x0) else none
def slices_Compact_int64 (x0:List Int):Option (List Int):=if x0.length≤maxLen then some (Lib.compact x0) else none
theorem below_gr {base:Nat} {wi w':World} {v:Value} (ho:∀ g,v.ownBlock=some g→base≤g) (hbs:base≤wi.heap.size) (g:wi.grownBy w' v.ownBlock):Below base wi w' :=
 ⟨g.os,g.tape,g.output,g.size,fun q hq=>g.block q (by omega) fun e=>by
  have:=ho q e.symm
  omega⟩
theorem c98g {base:Nat} {wi:World} (hbs:base≤wi.heap.size) {v0:Value} {x0:List Int} (o0:Row 3 base wi v0 x0) {r:List Int} (hF:slices_Sort_int x0=some r) :
  Calls Tryz.prog 98 [v0].toArray wi (Ret fun v w'=>v=.tuple #[]∧Row 3 base w' v0 r∧Below base wi w'∧wi.grownBy w' v0.ownBlock):=by
 unfold slices_Sort_int at hF
 split at hF
 case isFalse=>cases hF
 rename_i hlen
 cases hF
 rcases o0.2 with ⟨e1,e2⟩ | ⟨g,cap,cur,e1,hb,hg,h1,h2,h3,h4⟩
 ·subst e1
  have hx:x0=[]:=List.length_eq_zero_iff.1 e2
  subst hx
  refine (Tryz.slices_Sort_int_none none 0 wi).mono ?_
  rintro e w' ⟨rfl,rfl⟩
  exact ⟨_,rfl,rfl,Row.nil,Below.refl _ _,Ext.gro (Ext.refl _)⟩
 ·subst e1
  have ht:cur.toList.take x0.length=x0.map (Value.int .i64):=by
   rw [← encI_map]
   have:Enc.n Int=1:=rfl
   rw [this,Nat.mul_one] at h4
   exact h4
  refine (Tryz.slices_Sort_int g 0 cap x0 wi (holds_of_blockI hg ht) (Array.getElem?_eq_some_iff.1 hg).1 hlen).mono ?_
  rintro e w' ⟨rfl,n,os,rfl⟩
  rw [merge_isort]
  have hl:(isort x0).length=x0.length:=isort_perm.length_eq
  have ho:=ownsRow_sortedI (n:=n) (os:=os) (ts:=isort x0) hl hb hg h1 h2 h3
  have hgr:=grownBy_sortedI (w:=wi) (g:=g) (n:=n) (os:=os) (isort x0).toArray
  refine ⟨_,rfl,rfl,?_,below_gr (v:=.slice (some ⟨g,0,none⟩) x0.length cap) (fun q e=>by cases e; exact hb) hbs hgr,hgr⟩
  unfold Row
  rw [hl,encI_map]
  exact ho
def slices_Reverse_g (x0:List Int):Option (List Int):=if x0.length≤maxLen then some x0.reverse else none
theorem c275g {base:Nat} {wi:World} (hbs:base≤wi.heap.size) {v0:Value} {x0:List Int} (o0:Row 2 base wi v0 x0) {r:List Int} (hF:slices_Reverse_g x0=some r) :
  Calls Tryz.prog 275 [v0].toArray wi (Ret fun v w'=>v=.tuple #[]∧Row 2 base w' v0 r∧Below base wi w'∧wi.grownBy w' v0.ownBlock):=by
 unfold slices_Reverse_g at hF
 split at hF
 case isFalse=>cases hF
 rename_i hlen
 cases hF
 rcases o0.2 with ⟨e1,e2⟩ | ⟨g,cap,cur,e1,hb,hg,h1,h2,h3,h4⟩
 ·subst e1
  have hx:x0=[]:=List.length_eq_zero_iff.1 e2
  subst hx
  refine (Tryz.slices_Reverse_int_empty_f275 none 0 wi).mono ?_
  rintro e w' ⟨rfl,rfl⟩
  exact ⟨_,rfl,rfl,Row.nil,Below.refl _ _,Ext.gro (Ext.refl _)⟩
 ·subst e1
  have ht:cur.toList.take x0.length=x0.map (Value.int .i64):=by
   rw [← encI_map]
   have:Enc.n Int=1:=rfl
   rw [this,Nat.mul_one] at h4
   exact h4
  refine (Tryz.slices_Reverse_int_f275 g 0 cap x0 wi (holds_of_blockI hg ht) (by unfold maxLen at hlen; omega)).mono ?_
  rintro e w' ⟨rfl,n,rfl⟩
  have hl:x0.reverse.length=x0.length:=by simp
  have ho:=ownsRow_sortedI (n:=n) (os:=#[]) (ts:=x0.reverse) hl hb hg h1 h2 h3
  have hgr:=grownBy_sortedI (w:=wi) (g:=g) (n:=n) (os:=#[]) x0.reverse.toArray
  rw [Go.Sort.grow_empty] at ho hgr
  refine ⟨_,rfl,rfl,?_,below_gr (v:=.slice (some ⟨g,0,none⟩) x0.length cap) (fun q e=>by cases e; exact hb) hbs hgr,hgr⟩
  unfold Row
  rw [hl,encI_map]
  exact ho
theorem c326g {base:Nat} {wi:World} (hbs:base≤wi.heap.size) {v0:Value} {x0:List Int} (o0:Row 2 base wi v0 x0) {r:List Int} (hF:slices_Compact_int64 x0=some r) :
  Calls Tryz.prog 326 [v0].toArray wi (Ret fun v w'=>Row 2 base w' v r∧Below base wi w'∧wi.grownBy w' v0.ownBlock∧v.ownBlock=v0.ownBlock):=by
 unfold slices_Compact_int64 at hF
 split at hF
 case isFalse=>cases hF
 rename_i hlen
 cases hF
 rcases o0.2 with ⟨e1,e2⟩ | ⟨g,cap,cur,e1,hb,hg,h1,h2,h3,h4⟩
 ·subst e1
  have hx:x0=[]:=List.length_eq_zero_iff.1 e2
  subst hx
  refine (Tryz.slices_Compact_int_empty none 0 wi).mono ?_
  rintro e w' ⟨rfl,rfl⟩
  exact ⟨_,rfl,Row.nil,Below.refl _ _,Ext.gro (Ext.refl _),rfl⟩
 ·subst e1
  have ht:cur.toList.take x0.length=x0.map (Value.int .i64):=by
   rw [← encI_map]
   have:Enc.n Int=1:=rfl
   rw [this,Nat.mul_one] at h4
   exact h4
  refine (Tryz.slices_Compact_int g 0 cap x0 wi (holds_of_blockI hg ht) (by unfold maxLen at hlen; omega) h1).mono ?_
  rintro e w' ⟨rfl,n,rfl⟩
  have hl:=Lib.compact_length_le x0
  generalize hts:Lib.compact x0++List.replicate (x0.length - (Lib.compact x0).length) 0=ts
  have hlt:ts.length=x0.length:=by rw [← hts]; simp; omega
  have ho:=ownsRow_sortedI (n:=n) (os:=#[]) (ts:=ts) hlt hb hg h1 h2 h3
  have hgr:=grownBy_sortedI (w:=wi) (g:=g) (n:=n) (os:=#[]) ts.toArray
  rw [Go.Sort.grow_empty] at ho hgr
  refine ⟨_,rfl,?_,below_gr (v:=.slice (some ⟨g,0,none⟩) x0.length cap) (fun q e=>by cases e; exact hb) hbs hgr,hgr,rfl⟩
  rcases ho.2 with ⟨e3,_⟩ | ⟨g',cap',cur',e3,hb',hg',h1',h2',h3',h4'⟩
  ·cases e3
  ·cases e3
   refine ⟨by rw [encI_map]; simp [show Enc.n Int=1 from rfl],.inr ⟨g,cap,cur',rfl,hb',hg',by omega,h2',h3',?_⟩⟩
   have h5:cur'.toList.take x0.length=ts.map (Value.int .i64):=by simpa using h4'
   have h6:(cur'.toList.take x0.length).take (Lib.compact x0).length=(Lib.compact x0).map (Value.int .i64):=by
    rw [h5,← hts,List.map_append,List.take_append_of_le_length (by simp),List.take_of_length_le (by simp)]
   rw [List.take_take,Nat.min_eq_left hl] at h6
   rw [encI_map,show Enc.n Int=1 from rfl,Nat.mul_one]
   exact h6
end Go.Proofs.YtfmelbioccbdoaaGreat
end
section
namespace Go.Proofs.YtfmelbioccbdoaaGreat
open Go Go.Md Go.RowKit
def scale_newSong_l1 (F:Nat) (x0:(List (Int×Int))):Nat→Int→(Uno (List ((Int×Int)×Int)))→Option ((Uno (List ((Int×Int)×Int))))
 | 0,_,_=>none
 | m + 1,y1,y2 =>
  if (decide (y1<(x0.length:Int)))=true then
   (ix x0 y1) >>= fun x2 =>
   (app 24 y2.v ([((x2.1,x2.2),y1)]:List ((Int×Int)×Int))) >>= fun x3 =>
   scale_newSong_l1 F x0 m (w64 (y1 + 1)) (⟨x3⟩:(Uno (List ((Int×Int)×Int))))
  else
   some (⟨y2.v⟩:(Uno (List ((Int×Int)×Int))))
def scale_newSong (F:Nat) (x0:(List (Int×Int))):Option (Ob (Uno (List ((Int×Int)×Int)))) :=
 ((scale_newSong_l1 F x0 F 0 (⟨[]⟩:(Uno (List ((Int×Int)×Int))))) >>= fun z1 =>
 (slices_SortStableFunc_scale_tone F z1.v) >>= fun x4 =>
 some (⟨some (⟨x4⟩:(Uno (List ((Int×Int)×Int))))⟩:(Ob (Uno (List ((Int×Int)×Int))))))
def slices_IndexFunc_api_Range_l1 (F:Nat) (x0:(List (Int×Int))) (x1:((Int×Int)→Option Bool)):Nat→Int→Option (Sum Int (Unit))
 | 0,_=>none
 | m + 1,y1 =>
  if (decide (y1<(x0.length:Int)))=true then
   (ix x0 y1) >>= fun x3 =>
   (x1 (x3.1,x3.2)) >>= fun x4 =>
   if x4=true then
    some (.inl y1)
   else
    slices_IndexFunc_api_Range_l1 F x0 x1 m (w64 (y1 + 1))
  else
   some (.inr ())
def slices_IndexFunc_api_Range (F:Nat) (x0:(List (Int×Int))) (x1:((Int×Int)→Option Bool)):Option Int :=
 ((slices_IndexFunc_api_Range_l1 F x0 x1 F 0) >>= fun o=>match o with
  | .inl r=>some r
  | .inr () =>
   some (-1))
def slices_ContainsFunc_api_Range (F:Nat) (x0:(List (Int×Int))) (x1:((Int×Int)→Option Bool)):Option Bool :=
 (slices_IndexFunc_api_Range F x0 x1) >>= fun x3 =>
 some (decide (0≤x3))
def scale_within_1 (x0:(Int×Int)):Option Bool :=
 some (((decide (x0.1<0)) || (decide (x0.2<x0.1))) || (decide (10000<x0.2)))
def scale_within (F:Nat) (x0:(List (Int×Int))):Option Bool :=
 (slices_ContainsFunc_api_Range F x0 (fun y=>scale_within_1 y)) >>= fun x2 =>
 some (!x2)
def scale_CheckSong (F:Nat) (x0:(List (Int×Int))):Option Int :=
 if ((decide ((x0.length:Int)=0)) || (decide (24<(x0.length:Int))))=true then
  some 6
 else
  (scale_within F x0) >>= fun x2 =>
  if (!x2)=true then
   some 2
  else
   some 0
def ref03_Meets_l1 (F:Nat) (x0:(Int×Int)) (x1:(List Int)):Nat→Int→Option (Sum Bool (Unit))
 | 0,_=>none
 | m + 1,y1 =>
  if (decide (y1<(x1.length:Int)))=true then
   (((ix x1 y1) >>= fun x4 =>
   if (decide (x0.1≤x4))=true then
    (ix x1 y1) >>= fun x5 =>
    some (decide (x5≤x0.2))
   else
    some false:Option (Bool)) >>= fun y2 =>
   if y2=true then
    some (.inl true)
   else
    ref03_Meets_l1 F x0 x1 m (w64 (y1 + 1)))
  else
   some (.inr ())
def ref03_Meets (F:Nat) (x0:(Int×Int)) (x1:(List Int)):Option Bool :=
 ((ref03_Meets_l1 F x0 x1 F 0) >>= fun o=>match o with
  | .inl r=>some r
  | .inr () =>
   some false)
def ref03_CheckSong_l1 (F:Nat) (x0:(List (Int×Int))):Nat→Int→Option (Sum Int (Unit))
 | 0,_=>none
 | m + 1,y1 =>
  if (decide (y1<(x0.length:Int)))=true then
   (((ix x0 y1) >>= fun x3 =>
   if (decide (x3.1<0))=true then
    if true=true then
     some true
    else
     (ix x0 y1) >>= fun x4 =>
     some (decide (10000<x4.2))
   else
    (ix x0 y1) >>= fun x5 =>
    (ix x0 y1) >>= fun x6 =>
    if (decide (x6.2<x5.1))=true then
     some true
    else
     (ix x0 y1) >>= fun x7 =>
     some (decide (10000<x7.2)):Option (Bool)) >>= fun y2 =>
   if y2=true then
    some (.inl 2)
   else
    ref03_CheckSong_l1 F x0 m (w64 (y1 + 1)))
  else
   some (.inr ())
def ref03_CheckSong (F:Nat) (x0:(List (Int×Int))):Option Int :=
 if ((decide ((x0.length:Int)<1)) || (decide (24<(x0.length:Int))))=true then
  some 6
 else
  ((ref03_CheckSong_l1 F x0 F 0) >>= fun o=>match o with
   | .inl r=>some r
   | .inr () =>
    some 0)
def ref03_IsScale_l1 (F:Nat) (x1:(List Int)):Nat→Int→Option (Sum Int (Unit))
 | 0,_=>none
 | m + 1,y1 =>
  if (decide (y1<(x1.length:Int)))=true then
   (((ix x1 y1) >>= fun x6 =>
   if (decide (x6<0))=true then
    some true
   else
    (ix x1 y1) >>= fun x7 =>
    some (decide (10000<x7)):Option (Bool)) >>= fun y2 =>
   if y2=true then
    some (.inl 3)
   else
    ref03_IsScale_l1 F x1 m (w64 (y1 + 1)))
  else
   some (.inr ())
def ref03_IsScale_l2 (F:Nat) (x1:(List Int)):Nat→Int→Option (Sum Int (Unit))
 | 0,_=>none
 | m + 1,y3 =>
  if (decide (y3<(x1.length:Int)))=true then
   (ix x1 y3) >>= fun x8 =>
   (ix x1 (w64 (y3 - 1))) >>= fun x9 =>
   if (decide (x8≤x9))=true then
    some (.inl 16)
   else
    ref03_IsScale_l2 F x1 m (w64 (y3 + 1))
  else
   some (.inr ())
def ref03_IsScale (F:Nat) (x0:(List (Int×Int))) (x1:(List Int)):Option Int :=
 (ref03_CheckSong F x0) >>= fun x3 =>
 if (!decide (x3=0))=true then
  (ref03_CheckSong F x0) >>= fun x4 =>
  some x4
 else
  if (decide (24<(x1.length:Int)))=true then
   some 6
  else
   ((ref03_IsScale_l1 F x1 F 0) >>= fun o=>match o with
    | .inl r=>some r
    | .inr () =>
     ((ref03_IsScale_l2 F x1 F 1) >>= fun o=>match o with
      | .inl r=>some r
      | .inr () =>
       some 0))
def ref03_CheckScale_l1 (F:Nat) (x0:(List (Int×Int))) (x1:(List Int)):Nat→Int→Option (Sum Int (Unit))
 | 0,_=>none
 | m + 1,y1 =>
  if (decide (y1<(x0.length:Int)))=true then
   (ix x0 y1) >>= fun x5 =>
   (ref03_Meets F (x5.1,x5.2) x1) >>= fun x6 =>
   if (!x6)=true then
    some (.inl 19)
   else
    ref03_CheckScale_l1 F x0 x1 m (w64 (y1 + 1))
  else
   some (.inr ())
def ref03_CheckScale (F:Nat) (x0:(List (Int×Int))) (x1:(List Int)):Option Int :=
 (ref03_IsScale F x0 x1) >>= fun x3 =>
 if (!decide (x3=0))=true then
  (ref03_IsScale F x0 x1) >>= fun x4 =>
  some x4
 else
  ((ref03_CheckScale_l1 F x0 x1 F 0) >>= fun o=>match o with
   | .inl r=>some r
   | .inr () =>
    some 0)
def ref03_CheckApart_l1 (F:Nat) (x0:(List (Int×Int))) (x1:(List Int)):Nat→Int→Option (Sum Int (Unit))
 | 0,_=>none
 | m + 1,y1 =>
  if (decide (y1<(x1.length:Int)))=true then
   (((ix x1 y1) >>= fun x6 =>
   if (decide (x6<0))=true then
    if true=true then
     some true
    else
     if (decide (0<y1))=true then
      (ix x1 y1) >>= fun x7 =>
      (ix x1 (w64 (y1 - 1))) >>= fun x8 =>
      some (decide (x7≤x8))
     else
      some false
   else
    (ix x1 y1) >>= fun x9 =>
    if (decide ((x0.length:Int)≤x9))=true then
     some true
    else
     if (decide (0<y1))=true then
      (ix x1 y1) >>= fun x10 =>
      (ix x1 (w64 (y1 - 1))) >>= fun x11 =>
      some (decide (x10≤x11))
     else
      some false:Option (Bool)) >>= fun y2 =>
   if y2=true then
    some (.inl 3)
   else
    ref03_CheckApart_l1 F x0 x1 m (w64 (y1 + 1)))
  else
   some (.inr ())
def ref03_CheckApart_l3 (F:Nat) (x0:(List (Int×Int))) (x1:(List Int)) (y3:Int):Nat→Int→Option (Sum Int (Unit))
 | 0,_=>none
 | m + 1,y4 =>
  if (decide (y4<y3))=true then
   (((ix x1 y3) >>= fun x12 =>
   (ix x0 x12) >>= fun x13 =>
   (ix x1 y4) >>= fun x14 =>
   (ix x0 x14) >>= fun x15 =>
   some ((x13.1,x13.2),(x15.1,x15.2)):Option ((Int×Int)×(Int×Int))) >>= fun (y5,y6) =>
   if (decide ((if y5.1<y6.1 then y6.1 else y5.1)≤(if y6.2<y5.2 then y6.2 else y5.2)))=true then
    some (.inl 14)
   else
    ref03_CheckApart_l3 F x0 x1 y3 m (w64 (y4 + 1)))
  else
   some (.inr ())
def ref03_CheckApart_l2 (F:Nat) (x0:(List (Int×Int))) (x1:(List Int)):Nat→Int→Option (Sum Int (Unit))
 | 0,_=>none
 | m + 1,y3 =>
  if (decide (y3<(x1.length:Int)))=true then
   ((ref03_CheckApart_l3 F x0 x1 y3 F 0) >>= fun o=>match o with
    | .inl r=>some (.inl r)
    | .inr () =>
     ref03_CheckApart_l2 F x0 x1 m (w64 (y3 + 1)))
  else
   some (.inr ())
def ref03_CheckApart (F:Nat) (x0:(List (Int×Int))) (x1:(List Int)):Option Int :=
 (ref03_CheckSong F x0) >>= fun x3 =>
 if (!decide (x3=0))=true then
  (ref03_CheckSong F x0) >>= fun x4 =>
  some x4
 else
  ((ref03_CheckApart_l1 F x0 x1 F 0) >>= fun o=>match o with
   | .inl r=>some r
   | .inr () =>
    ((ref03_CheckApart_l2 F x0 x1 F 0) >>= fun o=>match o with
     | .inl r=>some r
     | .inr () =>
      some 0))
def scale_one (x0:Int):Option (Int×Int) :=
 some (x0,x0)
def scale_check_1 (F:Nat) (x0:Int):Option Bool :=
 (scale_one x0) >>= fun x2 =>
 (scale_within F ([x2]:List (Int×Int))) >>= fun x3 =>
 some (!x3)
def scale_check_l1 (F:Nat) (x1:(List Int)):Nat→Int→Option (Sum Int (Unit))
 | 0,_=>none
 | m + 1,y1 =>
  if (decide (y1<(x1.length:Int)))=true then
   (ix x1 y1) >>= fun x5 =>
   (ix x1 (w64 (y1 - 1))) >>= fun x6 =>
   if (decide (x5≤x6))=true then
    some (.inl 16)
   else
    scale_check_l1 F x1 m (w64 (y1 + 1))
  else
   some (.inr ())
def scale_check (F:Nat) (x0:(List (Int×Int))) (x1:(List Int)):Option Int :=
 (scale_CheckSong F x0) >>= fun x3 =>
 if (!decide (x3=0))=true then
  some x3
 else
  if (decide (24<(x1.length:Int)))=true then
   some 6
  else
   (slices_ContainsFunc_int64 F x1 (fun y=>scale_check_1 F y)) >>= fun x4 =>
   if x4=true then
    some 3
   else
    ((scale_check_l1 F x1 F 1) >>= fun o=>match o with
     | .inl r=>some r
     | .inr () =>
      some 0)
def scale_both (x0:(Int×Int)) (x1:(Int×Int)):Option (Int×Int) :=
 some (if x0.1<x1.1 then x1.1 else x0.1,if x1.2<x0.2 then x1.2 else x0.2)
def law03_rg (x0:Int) (x1:Int):Option (Int×Int) :=
 some (x0,x1)
def law03_Song :Option (List (Int×Int)) :=
 (law03_rg 100 140) >>= fun x1 =>
 (law03_rg 120 200) >>= fun x2 =>
 (law03_rg 300 330) >>= fun x3 =>
 (law03_rg 190 310) >>= fun x4 =>
 (law03_rg 320 400) >>= fun x5 =>
 some ([x1,x2,x3,x4,x5]:List (Int×Int))
def law03_ranges_l1 (F:Nat) (x0:(List (Int×Int))) (x1:(List (Int×Int))):Nat→Int→Option (Sum Bool (Unit))
 | 0,_=>none
 | m + 1,y1 =>
  if (decide (y1<(x0.length:Int)))=true then
   (ix x0 y1) >>= fun x3 =>
   (ix x1 y1) >>= fun x4 =>
   if (!decide ((x3.1,x3.2)=(x4.1,x4.2)))=true then
    some (.inl false)
   else
    law03_ranges_l1 F x0 x1 m (w64 (y1 + 1))
  else
   some (.inr ())
def law03_ranges (F:Nat) (x0:(List (Int×Int))) (x1:(List (Int×Int))):Option Bool :=
 if (!decide ((x0.length:Int)=(x1.length:Int)))=true then
  some false
 else
  ((law03_ranges_l1 F x0 x1 F 0) >>= fun o=>match o with
   | .inl r=>some r
   | .inr () =>
    some true)
def law03_ints_l1 (F:Nat) (x0:(List Int)) (x1:(List Int)):Nat→Int→Option (Sum Bool (Unit))
 | 0,_=>none
 | m + 1,y1 =>
  if (decide (y1<(x0.length:Int)))=true then
   (ix x0 y1) >>= fun x3 =>
   (ix x1 y1) >>= fun x4 =>
   if (!decide (x3=x4))=true then
    some (.inl false)
   else
    law03_ints_l1 F x0 x1 m (w64 (y1 + 1))
  else
   some (.inr ())
def law03_ints (F:Nat) (x0:(List Int)) (x1:(List Int)):Option Bool :=
 if (!decide ((x0.length:Int)=(x1.length:Int)))=true then
  some false
 else
  ((law03_ints_l1 F x0 x1 F 0) >>= fun o=>match o with
   | .inl r=>some r
   | .inr () =>
    some true)
def scale_turned (x0:(Int×Int)):Option (Int×Int) :=
 some (w64 (10000 - x0.2),w64 (10000 - x0.1))
def scale_Fewest (F:Nat) (x0:(List (Int×Int))):Option ((List Int)×Int) :=
 (scale_CheckSong F x0) >>= fun x2 =>
 if (!decide (x2=0))=true then
  some ([],x2)
 else
  (scale_newSong F x0) >>= fun x3 =>
  (x3.v) >>= fun x4 =>
  (scale_song_high F (⟨x4.v⟩:(Uno (List ((Int×Int)×Int)))) (1,0)) >>= fun x5 =>
  some (x5.1,0)
def scale_CheckScale_l1 (F:Nat) (x0:(List (Int×Int))):Nat→Int→(Ar 25 Int)→Option ((Ar 25 Int))
 | 0,_,_=>none
 | m + 1,y1,y2 =>
  if (decide (y1<(x0.length:Int)))=true then
   (ix y2.l y1) >>= fun x4 =>
   scale_CheckScale_l1 F x0 m (w64 (y1 + 1)) (aset y2 y1 1)
  else
   some y2
def scale_CheckScale (F:Nat) (x0:(List (Int×Int))) (x1:(List Int)):Option Int :=
 (scale_check F x0 x1) >>= fun x3 =>
 if (!decide (x3=0))=true then
  some x3
 else
  ((scale_CheckScale_l1 F x0 F 0 (Ar.fill 25 0:(Ar 25 Int))) >>= fun z1 =>
  (scale_newSong F x0) >>= fun x5 =>
  (x5.v) >>= fun x6 =>
  (scale_song_met F (⟨x6.v⟩:(Uno (List ((Int×Int)×Int)))) x1) >>= fun x7 =>
  if (!decide (x7=z1))=true then
   some 19
  else
   some 0)
def scale_Met_l1 (F:Nat) (x0:(List (Int×Int))) (x6:(Ar 25 Int)):Nat→(List Int)→Int→Option ((List Int))
 | 0,_,_=>none
 | m + 1,y1,y2 =>
  if (decide (y2<(x0.length:Int)))=true then
   (((ix x6.l y2) >>= fun x7 =>
   ((if (decide (x7=1))=true then
    (app 8 y1 ([y2]:List Int)) >>= fun x8 =>
    some x8
   else
    some y1:Option ((List Int))) >>= fun y4 =>
   some y4):Option ((List Int))) >>= fun y3 =>
   scale_Met_l1 F x0 x6 m y3 (w64 (y2 + 1)))
  else
   some y1
def scale_Met (F:Nat) (x0:(List (Int×Int))) (x1:(List Int)):Option ((List Int)×Int) :=
 (scale_check F x0 x1) >>= fun x3 =>
 if (!decide (x3=0))=true then
  some ([],x3)
 else
  (scale_newSong F x0) >>= fun x4 =>
  (x4.v) >>= fun x5 =>
  (scale_song_met F (⟨x5.v⟩:(Uno (List ((Int×Int)×Int)))) x1) >>= fun x6 =>
  ((scale_Met_l1 F x0 x6 F ([]) 0) >>= fun z1 =>
  some (z1,0))
def scale_Share (F:Nat) (x0:(List (Int×Int))) (x1:Int) (x2:Int):Option ((Bool×Bool)×Int) :=
 (scale_CheckSong F x0) >>= fun x4 =>
 if (!decide (x4=0))=true then
  some ((false,false),x4)
 else
  if ((decide ((if x2<x1 then x2 else x1)<0)) || (decide ((x0.length:Int)≤(if x1<x2 then x2 else x1))))=true then
   some ((false,false),3)
  else
   (((ix x0 x1) >>= fun x5 =>
   (ix x0 x2) >>= fun x6 =>
   (scale_both (x5.1,x5.2) (x6.1,x6.2)) >>= fun x7 =>
   some (x7.1,x7.2):Option ((Int×Int))) >>= fun y1 =>
   if (decide (y1.2<y1.1))=true then
    some ((false,false),0)
   else
    (scale_newSong F x0) >>= fun x8 =>
    (x8.v) >>= fun x9 =>
    (scale_song_high F (⟨x9.v⟩:(Uno (List ((Int×Int)×Int)))) (1,0)) >>= fun x10 =>
    (app 16 x0 ([(y1.1,y1.2)]:List (Int×Int))) >>= fun x11 =>
    (scale_newSong F x11) >>= fun x12 =>
    (x12.v) >>= fun x13 =>
    (scale_song_high F (⟨x13.v⟩:(Uno (List ((Int×Int)×Int)))) (1,0)) >>= fun x14 =>
    (scale_song_high F (⟨x9.v⟩:(Uno (List ((Int×Int)×Int)))) (y1.1,y1.2)) >>= fun x15 =>
    some ((decide ((x14.1.length:Int)=(x10.1.length:Int)),(decide ((x15.2.length:Int)<(x15.1.length:Int))) || (decide ((x10.1.length:Int)<(x15.1.length:Int)))),0))
def scale_Spans_l1 (F:Nat) (x0:(List (Int×Int))):Nat→(List (Int×Int))→Int→Option ((List (Int×Int)))
 | 0,_,_=>none
 | m + 1,y1,y2 =>
  if (decide (y2<(x0.length:Int)))=true then
   (ix x0 y2) >>= fun x6 =>
   (scale_turned (x6.1,x6.2)) >>= fun x7 =>
   (app 16 y1 ([x7]:List (Int×Int))) >>= fun x8 =>
   scale_Spans_l1 F x0 m x8 (w64 (y2 + 1))
  else
   some y1
def scale_Spans_l2 (F:Nat) (x5:((List Int)×(List Int))) (x12:(List Int)) (x13:(List (Int×Int))):Nat→(List (Int×Int))→Int→Option ((List (Int×Int)))
 | 0,_,_=>none
 | m + 1,y3,y4 =>
  if (decide (y4<(x13.length:Int)))=true then
   (ix x12 y4) >>= fun x14 =>
   (ix x5.1 y4) >>= fun x15 =>
   (ix y3 y4) >>= fun x16 =>
   scale_Spans_l2 F x5 x12 x13 m (rset y3 y4 (w64 (10000 - x14),x15)) (w64 (y4 + 1))
  else
   some y3
def scale_Spans (F:Nat) (x0:(List (Int×Int))):Option ((List (Int×Int))×Int) :=
 (scale_CheckSong F x0) >>= fun x2 =>
 if (!decide (x2=0))=true then
  some ([],x2)
 else
  (scale_newSong F x0) >>= fun x3 =>
  (x3.v) >>= fun x4 =>
  (scale_song_high F (⟨x4.v⟩:(Uno (List ((Int×Int)×Int)))) (1,0)) >>= fun x5 =>
  ((scale_Spans_l1 F x0 F ([]) 0) >>= fun z1 =>
  (scale_newSong F z1) >>= fun x9 =>
  (x9.v) >>= fun x10 =>
  (scale_song_high F (⟨x10.v⟩:(Uno (List ((Int×Int)×Int)))) (1,0)) >>= fun x11 =>
  (slices_Reverse_g x11.1) >>= fun x12 =>
  (mks 16 (x5.1.length:Int) ((0,0))) >>= fun x13 =>
  ((scale_Spans_l2 F x5 x12 x13 F x13 0) >>= fun z2 =>
  some (z2,0)))
end Go.Proofs.YtfmelbioccbdoaaGreat
end
section
namespace Go.Proofs.YtfmelbioccbdoaaGreat
open Go Go.Md Go.RowKit
def ref02_valid (x0:(Int×Int)) (x1:Int) (x2:Int):Option Bool :=
 some (((decide (x1≤x0.1)) && (decide (x0.1≤x0.2))) && (decide (x0.2≤x2)))
def law02_Piece (x0:Int) (x1:Int) (x2:Bool):Option ((((Int×Int)×Int)×((Int×Int)×Int))×Bool) :=
 some ((((x0,x0),0),((x1,x1),0)),x2)
def law02_Cracked :Option ((List ((((Int×Int)×Int)×((Int×Int)×Int))×Bool))×Int×(Int×Int)) :=
 (law02_Piece 1 2 false) >>= fun x1 =>
 (law02_Piece 2 2 false) >>= fun x2 =>
 (law02_Piece 2 3 false) >>= fun x3 =>
 (law02_Piece 2 2 true) >>= fun x4 =>
 some (([x1,x2,x3,x4]:List ((((Int×Int)×Int)×((Int×Int)×Int))×Bool)),0,(0,0))
def join_CheckCylinder_1 (x0:Int):Option (Int×Int) :=
 some (x0,x0)
def join_within_1 (x0:(Int×Int)) (x1:Int) (x2:Int):Option Bool :=
 some (((decide (x0.1<x1)) || (decide (x0.2<x0.1))) || (decide (x2<x0.2)))
def join_within (F:Nat) (x0:Int) (x1:Int) (x2:(List (Int×Int))):Option Bool :=
 (slices_ContainsFunc_api_Range F x2 (fun y=>join_within_1 y x0 x1)) >>= fun x4 =>
 some (!x4)
def join_CheckCylinder_l1 (F:Nat) (x0:((List ((((Int×Int)×Int)×((Int×Int)×Int))×Bool))×Int×(Int×Int))):Nat→Bool→Int→Option (Bool)
 | 0,_,_=>none
 | m + 1,y1,y2 =>
  if (decide (y2<(x0.1.length:Int)))=true then
   (ix x0.1 y2) >>= fun x5 =>
   ((some (((x5.1.1.1.1,x5.1.1.1.2),x5.1.1.2),((x5.1.2.1.1,x5.1.2.1.2),x5.1.2.2)):Option (((Int×Int)×Int)×((Int×Int)×Int))) >>= fun (y3,y4) =>
   ((if y1=true then
    (join_within F 0 1000 ([(y3.1.1,y3.1.2),(y4.1.1,y4.1.2)]:List (Int×Int))) >>= fun x8 =>
    if x8=true then
     (join_CheckCylinder_1 y3.2) >>= fun x9 =>
     (join_CheckCylinder_1 y4.2) >>= fun x10 =>
     (join_within F 0 100000 ([x9,x10]:List (Int×Int))) >>= fun x11 =>
     some x11
    else
     some false
   else
    if false=true then
     (join_CheckCylinder_1 y3.2) >>= fun x12 =>
     (join_CheckCylinder_1 y4.2) >>= fun x13 =>
     (join_within F 0 100000 ([x12,x13]:List (Int×Int))) >>= fun x14 =>
     some x14
    else
     some false:Option (Bool)) >>= fun y5 =>
   join_CheckCylinder_l1 F x0 m y5 (w64 (y2 + 1))))
  else
   some y1
def join_CheckCylinder (F:Nat) (x0:((List ((((Int×Int)×Int)×((Int×Int)×Int))×Bool))×Int×(Int×Int))):Option Int :=
 if ((decide ((x0.1.length:Int)=0)) || (decide (8<(x0.1.length:Int))))=true then
  some 6
 else
  (join_CheckCylinder_1 x0.2.1) >>= fun x2 =>
  (join_within F 0 1000 ([x2]:List (Int×Int))) >>= fun x3 =>
  (gd x3 (join_within F (-100000) 100000 ([(x0.2.2.1,x0.2.2.2)]:List (Int×Int))) false) >>= fun x4 =>
  ((join_CheckCylinder_l1 F x0 F (x3 && x4) 0) >>= fun z1 =>
  if (!z1)=true then
   some 2
  else
   some 0)
def join_table_meets (x0:(((List ((((Int×Int)×Int)×((Int×Int)×Int))×Bool))×Int×(Int×Int))×(List (Int×Bool))×(Ar 16 (Ar 16 Int))×Opq×Opq)) (x1:((Int×Int)×Int)) (x2:((Int×Int)×Int)):Option Bool :=
 some (((decide ((if (w64 (x1.1.1 - x2.1.2))<(w64 (x2.1.1 - x1.1.2)) then (w64 (x2.1.1 - x1.1.2)) else (w64 (x1.1.1 - x2.1.2)))≤x0.1.2.1)) && (decide (x0.1.2.2.1≤(w64 (x2.2 - x1.2))))) && (decide ((w64 (x2.2 - x1.2))≤x0.1.2.2.2)))
def top_ends03 (x0:((List ((((Int×Int)×Int)×((Int×Int)×Int))×Bool))×Int×(Int×Int))) (x1:(Int×Bool)):Option ((Int×Int)×(Int×Int)) :=
 (ix x0.1 x1.1) >>= fun x3 =>
 if x1.2=true then
  some ((x3.1.2.1.1,x3.1.2.1.2),(x3.1.1.1.1,x3.1.1.1.2))
 else
  some ((x3.1.1.1.1,x3.1.1.1.2),(x3.1.2.1.1,x3.1.2.1.2))
def top_order03_l1 (F:Nat) (x0:((List ((((Int×Int)×Int)×((Int×Int)×Int))×Bool))×Int×(Int×Int))):Nat→(List Int)→Int→Option ((List Int))
 | 0,_,_=>none
 | m + 1,y1,y2 =>
  if (decide (y2<(x0.1.length:Int)))=true then
   (app 8 y1 ([y2]:List Int)) >>= fun x3 =>
   top_order03_l1 F x0 m x3 (w64 (y2 + 1))
  else
   some y1
def top_order03_l2 (F:Nat) (x0:((List ((((Int×Int)×Int)×((Int×Int)×Int))×Bool))×Int×(Int×Int))) (x1:(List (KI .u8))):Nat→(List Int)→(List (Int×Bool))→Int→Option ((List (Int×Bool)))
 | 0,_,_,_=>none
 | m + 1,y3,y4,y5 =>
  if (decide (0<(y3.length:Int)))=true then
   ((if (decide (0<(x1.length:Int)))=true then
    (rem y5 (x1.length:Int)) >>= fun x4 =>
    (ix x1 x4) >>= fun x5 =>
    some (w64 x5.v)
   else
    some 0:Option (Int)) >>= fun y6 =>
   (rem y6 (y3.length:Int)) >>= fun x6 =>
   (ix y3 x6) >>= fun x7 =>
   (ix x0.1 x7) >>= fun x8 =>
   (app 16 y4 ([(x7,x8.2 && (decide (128≤y6)))]:List (Int×Bool))) >>= fun x9 =>
   (stake y3 x6) >>= fun x10 =>
   (sdrop y3 (w64 (x6 + 1))) >>= fun x11 =>
   (app 8 ([]:List Int) x10) >>= fun x12 =>
   (app 8 x12 x11) >>= fun x13 =>
   top_order03_l2 F x0 x1 m x13 x9 (w64 (y5 + 1)))
  else
   some y4
def top_order03 (F:Nat) (x0:((List ((((Int×Int)×Int)×((Int×Int)×Int))×Bool))×Int×(Int×Int))) (x1:(List (KI .u8))):Option (List (Int×Bool)) :=
 ((top_order03_l1 F x0 F ([]) 0) >>= fun z1 =>
 ((top_order03_l2 F x0 x1 F z1 ([]) 0) >>= fun z2 =>
 some z2))
def join_table_end (x0:(((List ((((Int×Int)×Int)×((Int×Int)×Int))×Bool))×Int×(Int×Int))×(List (Int×Bool))×(Ar 16 (Ar 16 Int))×Opq×Opq)) (x1:(Int×Bool)) (x2:Int):Option ((Int×Int)×Int) :=
 ((if x1.2=true then
  some (w64 (1 - x2))
 else
  some x2:Option (Int)) >>= fun y1 =>
 (ix x0.1.1 x1.1) >>= fun x4 =>
 (ix ([((x4.1.1.1.1,x4.1.1.1.2),x4.1.1.2),((x4.1.2.1.1,x4.1.2.1.2),x4.1.2.2)]:List ((Int×Int)×Int)) y1) >>= fun x5 =>
 some ((x5.1.1,x5.1.2),x5.2))
def ref02_CheckCylinder_l2 (F:Nat) (x0:((List ((((Int×Int)×Int)×((Int×Int)×Int))×Bool))×Int×(Int×Int))) (y1:Int):Nat→Int→Option (Sum Int (Unit))
 | 0,_=>none
 | m + 1,y2 =>
  if (decide (y2<2))=true then
   (ix x0.1 y1) >>= fun x2 =>
   (ix ([((x2.1.1.1.1,x2.1.1.1.2),x2.1.1.2),((x2.1.2.1.1,x2.1.2.1.2),x2.1.2.2)]:List ((Int×Int)×Int)) y2) >>= fun x3 =>
   (ref02_valid (x3.1.1,x3.1.2) 0 1000) >>= fun x4 =>
   if (((!x4) || (decide (x3.2<0))) || (decide (100000<x3.2)))=true then
    some (.inl 2)
   else
    ref02_CheckCylinder_l2 F x0 y1 m (w64 (y2 + 1))
  else
   some (.inr ())
def ref02_CheckCylinder_l1 (F:Nat) (x0:((List ((((Int×Int)×Int)×((Int×Int)×Int))×Bool))×Int×(Int×Int))):Nat→Int→Option (Sum Int (Unit))
 | 0,_=>none
 | m + 1,y1 =>
  if (decide (y1<(x0.1.length:Int)))=true then
   ((ref02_CheckCylinder_l2 F x0 y1 F 0) >>= fun o=>match o with
    | .inl r=>some (.inl r)
    | .inr () =>
     ref02_CheckCylinder_l1 F x0 m (w64 (y1 + 1)))
  else
   some (.inr ())
def ref02_CheckCylinder (F:Nat) (x0:((List ((((Int×Int)×Int)×((Int×Int)×Int))×Bool))×Int×(Int×Int))):Option Int :=
 if ((decide ((x0.1.length:Int)<1)) || (decide (8<(x0.1.length:Int))))=true then
  some 6
 else
  ((ref02_CheckCylinder_l1 F x0 F 0) >>= fun o=>match o with
   | .inl r=>some r
   | .inr () =>
    (gd (!((decide (x0.2.1<0)) || (decide (1000<x0.2.1)))) (ref02_valid (x0.2.2.1,x0.2.2.2) (-100000) 100000) false) >>= fun x5 =>
    if (((decide (x0.2.1<0)) || (decide (1000<x0.2.1))) || (!x5))=true then
     some 2
    else
     some 0)
def join_table_index_1 (x0:(Int×Bool)) (x1:(Int×Bool)):Option Bool :=
 some (decide ((x0.1,x0.2)=(x1.1,x1.2)))
def join_first__api_JoinStep_l1 (F:Nat) (x0:(List (Int×Bool))) (x1:((Int×Bool)→Option Bool)):Nat→Int→Option (Sum Int (Unit))
 | 0,_=>none
 | m + 1,y1 =>
  if (decide (y1<(x0.length:Int)))=true then
   (ix x0 y1) >>= fun x3 =>
   (x1 (x3.1,x3.2)) >>= fun x4 =>
   if x4=true then
    some (.inl y1)
   else
    join_first__api_JoinStep_l1 F x0 x1 m (w64 (y1 + 1))
  else
   some (.inr ())
def join_first__api_JoinStep (F:Nat) (x0:(List (Int×Bool))) (x1:((Int×Bool)→Option Bool)):Option Int :=
 ((join_first__api_JoinStep_l1 F x0 x1 F 0) >>= fun o=>match o with
  | .inl r=>some r
  | .inr () =>
   some (-1))
def join_table_index (F:Nat) (x0:(((List ((((Int×Int)×Int)×((Int×Int)×Int))×Bool))×Int×(Int×Int))×(List (Int×Bool))×(Ar 16 (Ar 16 Int))×Opq×Opq)) (x1:(Int×Bool)):Option Int :=
 (join_first__api_JoinStep F x0.2.1 (fun y=>join_table_index_1 y (x1.1,x1.2))) >>= fun x3 =>
 some x3
def law02_On_l1 (F:Nat) (x0:(List Int)):Nat→(List (Int×Bool))→Int→Option ((List (Int×Bool)))
 | 0,_,_=>none
 | m + 1,y1,y2 =>
  if (decide (y2<(x0.length:Int)))=true then
   (ix x0 y2) >>= fun x2 =>
   (app 16 y1 ([(x2,false)]:List (Int×Bool))) >>= fun x3 =>
   law02_On_l1 F x0 m x3 (w64 (y2 + 1))
  else
   some y1
def law02_On (F:Nat) (x0:(List Int)):Option (List (Int×Bool)) :=
 ((law02_On_l1 F x0 F ([]) 0) >>= fun z1 =>
 some z1)
def ref02_Same_l1 (F:Nat) (x0:(List (Int×Bool))) (x1:(List (Int×Bool))):Nat→Int→Option (Sum Bool (Unit))
 | 0,_=>none
 | m + 1,y1 =>
  if (decide (y1<(x0.length:Int)))=true then
   (ix x0 y1) >>= fun x3 =>
   (ix x1 y1) >>= fun x4 =>
   if (!decide ((x3.1,x3.2)=(x4.1,x4.2)))=true then
    some (.inl false)
   else
    ref02_Same_l1 F x0 x1 m (w64 (y1 + 1))
  else
   some (.inr ())
def ref02_Same (F:Nat) (x0:(List (Int×Bool))) (x1:(List (Int×Bool))):Option Bool :=
 if (!decide ((x0.length:Int)=(x1.length:Int)))=true then
  some false
 else
  ((ref02_Same_l1 F x0 x1 F 0) >>= fun o=>match o with
   | .inl r=>some r
   | .inr () =>
    some true)
def law02_pairs_l1 (F:Nat) (x0:(List ((Int×Bool)×(Int×Bool)))) (x1:(List ((Int×Bool)×(Int×Bool)))):Nat→Int→Option (Sum Bool (Unit))
 | 0,_=>none
 | m + 1,y1 =>
  if (decide (y1<(x0.length:Int)))=true then
   (ix x0 y1) >>= fun x3 =>
   (ix x1 y1) >>= fun x4 =>
   if (!decide (((x3.1.1,x3.1.2),(x3.2.1,x3.2.2))=((x4.1.1,x4.1.2),(x4.2.1,x4.2.2))))=true then
    some (.inl false)
   else
    law02_pairs_l1 F x0 x1 m (w64 (y1 + 1))
  else
   some (.inr ())
def law02_pairs (F:Nat) (x0:(List ((Int×Bool)×(Int×Bool)))) (x1:(List ((Int×Bool)×(Int×Bool)))):Option Bool :=
 if (!decide ((x0.length:Int)=(x1.length:Int)))=true then
  some false
 else
  ((law02_pairs_l1 F x0 x1 F 0) >>= fun o=>match o with
   | .inl r=>some r
   | .inr () =>
    some true)
def join_table_on (x0:(((List ((((Int×Int)×Int)×((Int×Int)×Int))×Bool))×Int×(Int×Int))×(List (Int×Bool))×(Ar 16 (Ar 16 Int))×Opq×Opq)) (x1:(Int×Int)) (x2:Int):Option (Int×Int) :=
 (ix x0.2.1 x2) >>= fun x4 =>
 (shl .i64 1 x4.1) >>= fun x5 =>
 some (bor .i64 x1.1 x5,x2)
def join_table_behind_1 (x0:Int) (x1:(Int×Int)) (x2:(Ob (((List ((((Int×Int)×Int)×((Int×Int)×Int))×Bool))×Int×(Int×Int))×(List (Int×Bool))×(Ar 16 (Ar 16 Int))×Opq×Opq))):Option Bool :=
 (x2.v) >>= fun x4 =>
 (ix x4.2.1 x0) >>= fun x5 =>
 (shr .i64 x1.1 x5.1) >>= fun x6 =>
 some (decide ((band .i64 x6 1)=0))
end Go.Proofs.YtfmelbioccbdoaaGreat
end
section
namespace Go.Proofs.YtfmelbioccbdoaaGreat
open Go Go.Md Go.RowKit
attribute [local irreducible] Go.wpList Go.Code.wp Go.Calls Go.Md.Rnd Go.Md.Mt Go.Md.MtM Go.Md.RndM Go.Code.wpIn
theorem c210 {w0:World} {v0:Value} {x0:((Int×Int)×Int)} (r0:RV w0 v0 x0) {x1:Int} {r:Bool} (hF:scale_tone_on x0 x1=some r) :
  Calls Tryz.prog 210 [v0,.int .i64 x1].toArray w0 (Ret fun v w'=>v=.bool r∧Ext w0 w'):=by
 unfold scale_tone_on at hF
 have hz:=id r0; obtain ⟨_,rfl,⟨_,_,rfl,⟨_,_,rfl,rfl,rfl⟩,rfl⟩⟩:=hz
 refine entr (n:=17) Tryz.func210 rfl rfl rfl<|Zr<|sbx rfl rfl fun b3 w1 hx1 hg1 hb1=>?_
 refine Za<|nl<|Zr<|Zv (xfa rfl fa302_0)<|Zv (xfa rfl fa35_0)<|Zv (xld rfl ti2 ((Bx.cs hb1).at 0 rfl))<|Zm<|Zv (xleq rfl rfl)<|Zm<|Zg rfl rfl (gw1 rfl) (fun hc=>xmva rfl)<|Zg rfl rfl (gw1 rfl) (fun hc=>xfa rfl fa302_0)<|Zg rfl rfl (gw1 rfl) (fun hc=>xfa (mv hc rfl) fa35_1)<|Zg rfl rfl (gw1 rfl) (fun hc=>xld (mv hc rfl) ti2 ((Bx.cs hb1).at 1 rfl))<|Zg rfl rfl (gw1 rfl) (fun hc=>xleq (mv hc rfl) (mv hc rfl))<|Zv (xpa rfl rfl rfl)<|Za<|nl<|?_
 cases hF
 exact wp_ret<|rt rfl (.tmp rfl rfl .nil) ⟨rfl,hx1⟩
theorem c97 {w0:World} {b0:Nat} {cs0:List Value} {x0:(Uno (List ((Int×Int)×Int)))} (h0:Cs w0 b0 0 cs0) (q0:Enc.rep (fun _=>True) w0 cs0 x0) {v1:Value} {x1:(Int×Int)} (r1:RV w0 v1 x1) {F:Nat} {r:((List Int)×(List Int))} (hF:scale_song_high F x0 x1=some r) :
  Calls Tryz.prog 97 [.pointer (some ⟨b0,0,none⟩),v1].toArray w0 (Ret fun v w'=>∃ u0 u1:Value,v=.tuple #[u0,u1]∧Row 2 w0.heap.size w' u0 r.1∧Row 3 w0.heap.size w' u1 r.2∧Ext w0 w'):=by
 unfold scale_song_high at hF
 obtain ⟨a1,cq1,rfl,p1,q3,e1⟩:=q0
 have r3:=RV.of1 p1 q3 e1
 have hz:=id r1; obtain ⟨_,rfl,⟨_,_,rfl,rfl,rfl⟩⟩:=hz
 have M1:Mks w0.heap.size [] w0:=Mks.nil
 refine entrM (m:=12) (n:=52) Tryz.func97 rfl rfl rfl<|Zr<|sbx rfl rfl fun b3 w1 hx1 hg1 hb1=>?_
 have M2:=M1.ext hx1
 refine Za<|Za<|nl<|wp_scope_straight<|Zr<|sal ti28 fun b4 w2 hx2 hg2 hb2=>?_
 have k1:=hx1.tr hx2
 have M3:=M2.ext hx2
 refine nl<|Zr<|sal ti41 fun b5 w3 hx3 hg3 hb4=>?_
 have k2:=k1.tr hx3
 have k3:=hx2.tr hx3
 have M4:=M3.ext hx3
 have hb6:=hb2.ext hx3
 refine nl<|Zr<|sal ti2 fun b6 w4 hx4 hg4 hb7=>?_
 have k4:=k2.tr hx4
 have k5:=k3.tr hx4
 have M5:=M4.ext hx4
 refine sst rfl rfl rfl ti2 hb7 rfl rfl (ble rfl) fun w5 hch1 hb11=>?_
 have k7:=Ext.chg k4 hch1 (Nat.le_trans k2.size hg4)
 have k8:=Ext.chg k5 hch1 (Nat.le_trans k3.size hg4)
 have k10:=Ext.chg hx4 hch1 (Nat.le_trans (Nat.le_refl _) hg4)
 have M6:=M5.chg hch1 hb7.nd
 have hb13:=hb6.ext k10
 have hb14:=hb4.ext k10
 have hb15:Bx w5 b6 2 [.int .i64 (-1)]:=hb11
 refine nl<|wp_seq<|wp_label<|wp_seq<|Zr<|Zm<|?_
 have q4:RVo (·<w0.heap.size) w5 (.pointer (some ⟨b0,0,none⟩)) (⟨some (⟨x0.v⟩:(Uno (List ((Int×Int)×Int))))⟩:Ob (Uno (List ((Int×Int)×Int)))):=RVo.ext (RV.old (w:=w0) (obNew h0 rfl r3.rep1)) k7
 have hz:=bs hF; obtain ⟨x3,Ex3,hF⟩:=hz
 refine Zc (xc cb205 (mc rfl mn)) (c205 (a:=w0.heap.size) q4 (Below.size k7) Ex3) ?_
 rintro v3 w6 ⟨sq1,hx5⟩
 have k11:=k7.tr hx5
 have k12:=k8.tr hx5
 have M7:=M6.ext hx5
 have hb17:=hb13.ext hx5
 have hb18:=hb14.ext hx5
 have hb19:=hb15.ext hx5
 refine nl<|?_
 have hin1:w0.heap.size≤b4∧b4<w5.heap.size:=⟨(Nat.le_trans hx1.size hg2),hb13.lt⟩
 have hin2:w0.heap.size≤b5∧b5<w5.heap.size:=⟨(Nat.le_trans k1.size hg3),hb14.lt⟩
 have hin3:w0.heap.size≤b6∧b6<w5.heap.size:=⟨(Nat.le_trans k2.size hg4),hb15.lt⟩
 have hz:=bs hF; obtain ⟨⟨z1,z2,z3⟩,hB1,hF⟩:=hz
 refine ctM w0.heap.size (fun L w=>∃ v6 v7:Value,Bx w b4 28 [v6]∧Row 2 w6.heap.size w v6 z1∧some b4≠Value.ownBlock v6∧Bx w b5 41 [v7]∧Row 3 w6.heap.size w v7 z2∧some b5≠Value.ownBlock v7∧Bx w b6 2 (Flat.enc z3)∧Apart (v6) (v7)∧w6.heap.size≤w.heap.size∧Ext w1 w∧L 6=.pointer (some ⟨b4,0,none⟩)∧L 7=.pointer (some ⟨b5,0,none⟩)) ?_ ?_
 ·
  refine wp_block<|rangeB (α:=((Int×Int)×Int)) (xs:=x3) (m:=12) (by decide) rfl KpOk.beli (SeqV.go (by decide) sq1) rfl rfl rfl ti302 rfl (fun k w=>∃ y1:(List Int),∃ y2:(List Int),∃ y3:Int,∃ v4 v5:Value,scale_song_high_l1 F x1 (List.drop k x3) y1 y2 y3=some (z1,z2,z3)∧Bx w b4 28 [v4]∧Row 2 w6.heap.size w v4 y1∧some b4≠Value.ownBlock v4∧Bx w b5 41 [v5]∧Row 3 w6.heap.size w v5 y2∧some b5≠Value.ownBlock v5∧Bx w b6 2 (Flat.enc y3)∧Apart (v4) (v5)∧w6.heap.size≤w.heap.size∧Ext w1 w∧Out w5.heap.size w6.heap.size v4∧Out w5.heap.size w6.heap.size v5∧Mks w0.heap.size [] w∧w6.heap.size≤w.heap.size) (fun c w=>∃ v6 v7:Value,c=.exit 0∧Bx w b4 28 [v6]∧Row 2 w6.heap.size w v6 z1∧some b4≠Value.ownBlock v6∧Bx w b5 41 [v7]∧Row 3 w6.heap.size w v7 z2∧some b5≠Value.ownBlock v7∧Bx w b6 2 (Flat.enc z3)∧Apart (v6) (v7)∧w6.heap.size≤w.heap.size∧Ext w1 w∧Mks w0.heap.size [] w) (fun k=>Okb.ex fun _=>Okb.ex fun _=>Okb.ex fun _=>Okb.ex fun _=>Okb.ex fun _=>(Okb.and Okb.pure (Okb.and Okb.bx (Okb.and Okb.row (Okb.and Okb.pure (Okb.and Okb.bx (Okb.and Okb.row (Okb.and Okb.pure (Okb.and Okb.bx (Okb.and Okb.pure (Okb.and Okb.size (Okb.and (Okb.extw k12.size) (Okb.and Okb.pure (Okb.and Okb.pure (Okb.and (Okb.mks M7 rfl) Okb.size))))))))))))))) (fun c=>Okb.ex fun _=>Okb.ex fun _=>(Okb.and Okb.pure (Okb.and Okb.bx (Okb.and Okb.row (Okb.and Okb.pure (Okb.and Okb.bx (Okb.and Okb.row (Okb.and Okb.pure (Okb.and Okb.bx (Okb.and Okb.pure (Okb.and Okb.size (Okb.and (Okb.extw k12.size) (Okb.mks M7 rfl))))))))))))) ⟨_,_,_,_,_,hB1,hb17,Row.nil,(fun e=>by cases e),hb18,Row.nil,(fun e=>by cases e),hb19,Apart.nil1,(Nat.le_refl _),k12,Out.nil,Out.nil,M7,(Nat.le_refl _)⟩ ?round (fun k A h=>by obtain ⟨_,_,_,_,_,_,_,_,_,_,_,_,_,_,_,_,_,_,_,_⟩:=h; assumption) ?done ?stop
  case round =>
   rintro _ k x4 w7 w8 b7 hx6 ⟨y1,y2,y3,v4,v5,hB1,B6_i1a,O6c1_i1a,N6c1_i1,B7_i1a,O7c1_i1a,N7c1_i1,B8_i1a,X0_i1,Z0_i1a,K0_i1a,U1,U2,M8a,sz1a⟩ ha1 hA1 hg5 hb20
   rw [drop_at hx6] at hB1
   rw [scale_song_high_l1] at hB1
   have B6_i1:=B6_i1a.asg ha1
   have O6c1_i1:=O6c1_i1a.asg ha1
   have B7_i1:=B7_i1a.asg ha1
   have O7c1_i1:=O7c1_i1a.asg ha1
   have B8_i1:=B8_i1a.asg ha1
   have Z0_i1:=Nat.le_trans Z0_i1a ha1.size
   have K0_i1:=Below.asg K0_i1a ha1 k12.size
   have M8:=M8a.asg ha1
   have sz1:=Nat.le_trans sz1a ha1.size
   have hb21:=hb1.ext K0_i1
   have hz:=RV.sl O6c1_i1.rv; obtain ⟨a2,cq2,rfl,-,-,-⟩:=hz
   have hz:=RV.sl O7c1_i1.rv; obtain ⟨a3,cq3,rfl,-,-,-⟩:=hz
   have kf1:KeepsFrom w6.heap.size w8 w8:=KeepsFrom.refl _ _
   have bi1:BelI w0.heap.size w5.heap.size w6.heap.size w8 w8:=BelI.refl
   refine wpIn_block<|wpIn_seq<|wpIn_seq<|rgR rfl<|Zv (xfa rfl fa302_0)<|Zv (xfa rfl fa35_0)<|Zv (xld rfl ti2 ((Bx.cs hb20).at 0 rfl))<|Zv (xld rfl ti2 ((Bx.cs B8_i1).at 0 rfl))<|Zv (xleq rfl rfl)<|nl<|cndR rfl (fun h8=>?_) (fun h8=>?_)
   ·
    have hB1:=ifp hB1 h8
    refine wpIn_exit<|?_
    exact ⟨kf1,bi1,⟨_,_,_,_,_,hB1,B6_i1,O6c1_i1,N6c1_i1,B7_i1,O7c1_i1,N7c1_i1,B8_i1,X0_i1,Z0_i1,K0_i1,U1,U2,M8,(Nat.le_trans sz1 kf1.size)⟩⟩
   ·
    have hB1:=ifn hB1 h8
    refine wpIn_skip<|wpIn_seq<|rgR rfl<|Zv (xfa rfl fa302_0)<|Zv (xfa rfl fa35_1)<|Zv (xld rfl ti2 ((Bx.cs hb20).at 1 rfl))<|Za<|nl<|wpIn_seq<|wpIn_seq<|rgR rfl<|Zv (xfa rfl fa35_0)<|Zv (xld rfl ti2 ((Bx.cs hb21).at 0 rfl))<|Zm<|Zv (xleq rfl rfl)<|Zm<|Zg rfl rfl (gw1 rfl) (fun hc=>xmva rfl)<|Zg rfl rfl (gw1 rfl) (fun hc=>xfa rfl fa35_1)<|Zg rfl rfl (gw1 rfl) (fun hc=>xld (mv hc rfl) ti2 ((Bx.cs hb21).at 1 rfl))<|Zg rfl rfl (gw1 rfl) (fun hc=>xleq (mv hc rfl) (mv hc rfl))<|Zv (xpa rfl rfl rfl)<|nl<|?_
    have hz:=bs hB1; obtain ⟨y4,hB4,hB1⟩:=hz
    refine ctR (fun L w=>L 10=.int .i64 y4∧L 3=.pointer (some ⟨b3,0,none⟩)∧L 6=.pointer (some ⟨b4,0,none⟩)∧L 7=.pointer (some ⟨b5,0,none⟩)∧L 8=.pointer (some ⟨b6,0,none⟩)∧L 9=.pointer (some ⟨b7,0,none⟩)∧w6.heap.size≤w.heap.size∧Ext w8 w∧KeepsFrom w6.heap.size w8 w∧BelI w0.heap.size w5.heap.size w6.heap.size w8 w∧Mks w0.heap.size [] w) ?_ ?_
    ·
     refine cndR rfl (fun h9=>?_) (fun h9=>?_)
     ·
      have hB4:=ifp hB4 h9
      refine rgR rfl<|Zv (xfa rfl fa35_0)<|Zv (xld rfl ti2 ((Bx.cs hb21).at 0 rfl))<|Zv (xsub rfl rfl)<|Za<|nl<|?_
      cases hB4
      refine lf<|?_
      exact ⟨rfl,rfl,rfl,rfl,rfl,rfl,Z0_i1,(Ext.refl _),kf1,bi1,M8⟩
     ·
      have hB4:=ifn hB4 h9
      refine wpIn_skip<|?_
      cases hB4
      refine lf<|?_
      exact ⟨rfl,rfl,rfl,rfl,rfl,rfl,Z0_i1,(Ext.refl _),kf1,bi1,M8⟩
    rintro L w9 ⟨l10_j1,l3_j1,l6_j1,l7_j1,l8_j1,l9_j1,Z0_j1,K0_j1,kf2,bi2,M9⟩
    have k17:=K0_i1.tr K0_j1
    have O1:=O6c1_i1.ext K0_j1
    have B1:=B6_i1.ext K0_j1
    have O2:=O7c1_i1.ext K0_j1
    have B2:=B7_i1.ext K0_j1
    have B3:=B8_i1.ext K0_j1
    have hb23:=hb20.ext K0_j1
    refine wpIn_seq<|rgR rfl<|Zv (xld l6_j1 ti28 ((Bx.cs B1).at 0 rfl))<|Zm<|sbsv (cs:=[.int .i64 y4]) Tryz.underlying28 ti2 rfl (pc l10_j1 pn) rfl rfl rfl rfl rfl fun b8 w10 hx7 hg6 hb24=>?_
    have k19:=k17.tr hx7
    have zs1:=Nat.le_trans Z0_j1 hx7.size
    have M10:=M9.ext hx7
    have kf3:=kf2.ext hx7
    have bi3:=bi2.ext hx7 sz1
    have B4:=B1.ext hx7
    have O3:=O1.ext hx7
    have B5:=B2.ext hx7
    have O4:=O2.ext hx7
    have B6:=B3.ext hx7
    have hb26:=hb23.ext hx7
    have o2:Row (α:=Int) 2 w9.heap.size w10 (.slice (some ⟨b8,0,none⟩) 1 1) [y4]:=Row.lit hg6 hb24 rfl (ble rfl)
    have hz:=bs hB1; obtain ⟨x5,Ex5,hB1⟩:=hz
    refine sapx (l:=y1) (k:=([y4]:List Int)) rfl rfl Tryz.underlying28 ti2 rfl rfl O3 (RV.els o2.rv) Ex5 zs1 fun v8 w11 o3 hB7 hgr1 how1=>?_
    have k22:=Ext.grow k19 k12.size hB7
    have X1:=Apart.app how1 X0_i1 O4.own_lt
    have U3:=Out.app U1 how1 (Nat.le_trans sz1 kf3.size)
    have zs2:=Nat.le_trans zs1 hgr1.size
    have M11:=M10.gr hgr1 (Row.nd O3)
    have kf4:=kf3.grc hgr1 (fun q e=>Row.cells O3 e)
    have bi4:=bi3.gr hgr1 sz1 (Out.bi U1 O3 k11.size)
    have ne1:=ne_app how1 N6c1_i1 B4.lt
    have hb28:=Bx.gr B4 hgr1 N6c1_i1
    have ne2:=ne_app how1 (O3.ne_old hb18.lt) B5.lt
    have hb29:=Bx.gr B5 hgr1 (O3.ne_old hb18.lt)
    have o4:=Row.gra O4 hgr1 X0_i1
    have ne3:=ne_app how1 (O3.ne_old hb19.lt) B6.lt
    have hb30:=Bx.gr B6 hgr1 (O3.ne_old hb19.lt)
    have hb31:=Bx.gr hb26 hgr1 (Row.ne_new O6c1_i1a hA1)
    have hz:=RV.sl o3.rv; obtain ⟨a4,cq4,rfl,-,-,-⟩:=hz
    refine sst l6_j1 rfl rfl ti28 hb28 rfl rfl (ble rfl) fun w12 hch2 hb32=>?_
    have k24:=Ext.chg k22 hch2 (Nat.le_trans (Nat.le_refl _) hg2)
    have zs3:=Nat.le_trans zs2 (Nat.le_of_eq hch2.size.symm)
    have M12:=M11.chg hch2 hb28.nd
    have kf5:=kf4.chgc hch2 (.inr hb28.isc)
    have bi5:=bi4.chg hch2 (.inl hin1)
    have hb34:=Bx.chg hb29 hch2 (Ne.symm (Nat.ne_of_lt (Nat.lt_of_lt_of_le hb2.lt hg3)))
    have o5:=Row.chg o4 hch2 hb17.lt
    have hb35:=Bx.chg hb30 hch2 (Ne.symm (Nat.ne_of_lt (Nat.lt_of_lt_of_le hb6.lt hg4)))
    have hb36:=Bx.chg hb31 hch2 (Ne.symm (Nat.ne_of_lt (Nat.lt_of_lt_of_le B6_i1a.lt hA1)))
    have o6:=Row.chgn o3 hch2 ne1
    have hb37:Bx w12 b4 28 [.slice a4 x5.length cq4]:=hb32
    refine nl<|wpIn_seq<|wpIn_seq<|rgR rfl<|Zm<|Zv (xfa l9_j1 fa302_0)<|Zv (xfa rfl fa35_0)<|Zv (xld rfl ti2 ((Bx.cs hb36).at 0 rfl))<|Zv (xlss l10_j1 rfl)<|nl<|cndR rfl (fun h10=>?_) (fun h10=>?_)
    ·
     have hB1:=ifp hB1 h10
     refine wpIn_exit<|?_
     cases hB1
     exact ⟨kf5,⟨_,_,rfl,hb37,o6,ne1,hb34,o5,N7c1_i1,hb35,X1,zs3,k24,M12⟩⟩
    ·
     have hB1:=ifn hB1 h10
     refine wpIn_skip<|wpIn_seq<|rgR rfl<|Zv (xld l7_j1 ti41 ((Bx.cs hb34).at 0 rfl))<|Zv (xfa l9_j1 fa302_1)<|Zv (xld rfl ti3 ((Bx.cs hb36).at 2 rfl))<|sbsv (cs:=[.int .i64 x4.2]) Tryz.underlying41 ti3 rfl (pc rfl pn) rfl rfl rfl rfl rfl fun b9 w13 hx8 hg7 hb38=>?_
     have k26:=k24.tr hx8
     have zs4:=Nat.le_trans zs3 hx8.size
     have M13:=M12.ext hx8
     have kf6:=kf5.ext hx8
     have bi6:=bi5.ext hx8 sz1
     have hb40:=hb37.ext hx8
     have o7:=o6.ext hx8
     have B7:=hb34.ext hx8
     have O5:=o5.ext hx8
     have B8:=hb35.ext hx8
     have o8:Row (α:=Int) 3 w12.heap.size w13 (.slice (some ⟨b9,0,none⟩) 1 1) [x4.2]:=Row.lit hg7 hb38 rfl (ble rfl)
     have hz:=bs hB1; obtain ⟨x6,Ex6,hB1⟩:=hz
     refine sapx (l:=y2) (k:=([x4.2]:List Int)) rfl rfl Tryz.underlying41 ti3 rfl rfl O5 (RV.els o8.rv) Ex6 zs4 fun v9 w14 o9 hB10 hgr2 how2=>?_
     have k28:=Ext.grow k26 k12.size hB10
     have X2:=Apart.app how2 (Apart.symm X1) o7.own_lt
     have U4:=Out.app U2 how2 (Nat.le_trans sz1 kf6.size)
     have zs5:=Nat.le_trans zs4 hgr2.size
     have M14:=M13.gr hgr2 (Row.nd O5)
     have kf7:=kf6.grc hgr2 (fun q e=>Row.cells O5 e)
     have bi7:=bi6.gr hgr2 sz1 (Out.bi U2 O5 k11.size)
     have hb42:=Bx.gr hb40 hgr2 (O5.ne_old hb17.lt)
     have o10:=Row.gra o7 hgr2 (Apart.symm X1)
     have ne6:=ne_app how2 N7c1_i1 B7.lt
     have hb43:=Bx.gr B7 hgr2 N7c1_i1
     have ne7:=ne_app how2 (O5.ne_old hb19.lt) B8.lt
     have hb44:=Bx.gr B8 hgr2 (O5.ne_old hb19.lt)
     have hz:=RV.sl o9.rv; obtain ⟨a5,cq5,rfl,-,-,-⟩:=hz
     refine sst l7_j1 rfl rfl ti41 hb43 rfl rfl (ble rfl) fun w15 hch3 hb45=>?_
     have k30:=Ext.chg k28 hch3 (Nat.le_trans (Nat.le_refl _) (Nat.le_trans hx2.size hg3))
     have zs6:=Nat.le_trans zs5 (Nat.le_of_eq hch3.size.symm)
     have M15:=M14.chg hch3 hb43.nd
     have kf8:=kf7.chgc hch3 (.inr hb43.isc)
     have bi8:=bi7.chg hch3 (.inl hin2)
     have hb47:=Bx.chg hb42 hch3 (Nat.ne_of_lt (Nat.lt_of_lt_of_le hb2.lt hg3))
     have o11:=Row.chgn o10 hch3 ne2
     have hb48:=Bx.chg hb44 hch3 (Ne.symm (Nat.ne_of_lt (Nat.lt_of_lt_of_le hb4.lt hg4)))
     have o12:=Row.chgn o9 hch3 ne6
     have hb49:Bx w15 b5 41 [.slice a5 x6.length cq5]:=hb45
     refine nl<|rgR rfl<|Zm<|sst l8_j1 l10_j1 rfl ti2 hb48 rfl rfl (ble rfl) fun w16 hch4 hb50=>?_
     have k32:=Ext.chg k30 hch4 (Nat.le_trans (Nat.le_refl _) (Nat.le_trans k3.size hg4))
     have zs7:=Nat.le_trans zs6 (Nat.le_of_eq hch4.size.symm)
     have M16:=M15.chg hch4 hb48.nd
     have kf9:=kf8.chgc hch4 (.inr hb48.isc)
     have bi9:=bi8.chg hch4 (.inl hin3)
     have hb52:=Bx.chg hb47 hch4 (Nat.ne_of_lt (Nat.lt_of_lt_of_le hb6.lt hg4))
     have o13:=Row.chgn o11 hch4 ne3
     have hb53:=Bx.chg hb49 hch4 (Nat.ne_of_lt (Nat.lt_of_lt_of_le hb4.lt hg4))
     have o14:=Row.chgn o12 hch4 ne7
     have hb54:Bx w16 b6 2 [.int .i64 y4]:=hb50
     refine nl<|?_
     exact ⟨kf9,bi9,⟨_,_,_,_,_,hB1,hb52,o13,ne1,hb53,o14,ne6,hb54,(Apart.symm X2),zs7,k32,U3,U4,M16,(Nat.le_trans sz1 kf9.size)⟩⟩
  case done =>
   rintro D1 w17 hD1 ⟨y1,y2,y3,v4,v5,hB1,B6_j2,O6c1_j2,N6c1_j2,B7_j2,O7c1_j2,N7c1_j2,B8_j2,X0_j2,Z0_j2,K0_j2,_,_,M8,_⟩ hk1
   rw [List.drop_length,scale_song_high_l1] at hB1
   cases hB1
   exact lfM (Mks.cons M7 M8 (Below.size k11) hD1 hk1) ⟨_,_,B6_j2,O6c1_j2,N6c1_j2,B7_j2,O7c1_j2,N7c1_j2,B8_j2,X0_j2,Z0_j2,K0_j2,rfl,rfl⟩
  case stop =>
   rintro D2 c w18 hD2 ⟨v6,v7,rfl,B6_j3,O6c1_j3,N6c1_j3,B7_j3,O7c1_j3,N7c1_j3,B8_j3,X0_j3,Z0_j3,K0_j3,M17⟩ hk2
   exact wp_exit<|lfM (Mks.cons M7 M17 (Below.size k11) hD2 hk2) ⟨_,_,B6_j3,O6c1_j3,N6c1_j3,B7_j3,O7c1_j3,N7c1_j3,B8_j3,X0_j3,Z0_j3,K0_j3,rfl,rfl⟩
 rintro L D3 w19 M18 ⟨v6,v7,B6_j4,O6c1_j4,N6c1_j4,B7_j4,O7c1_j4,N7c1_j4,B8_j4,X0_j4,Z0_j4,K0_j4,l6_j4,l7_j4⟩
 have k33:=hx1.tr K0_j4
 have hz:=RV.sl O6c1_j4.rv; obtain ⟨a6,cq6,rfl,-,-,-⟩:=hz
 have hz:=RV.sl O7c1_j4.rv; obtain ⟨a7,cq7,rfl,-,-,-⟩:=hz
 refine wp_seq<|wpl [] (.pure false 0 (.pure false 1 (.pure true 2 (.pure true 3 .fin)))) mixed (by kernel_rfl) (fun w20 hx9=>?_)
 have k34:=k33.tr hx9
 have M19:=M18.ext hx9
 have B9:=B6_j4.ext hx9
 have O6:=O6c1_j4.ext hx9
 have B10:=B7_j4.ext hx9
 have O7:=O7c1_j4.ext hx9
 refine Zq rfl (fun _ hS=>xld l6_j4 ti28 ((Bx.cs (B9.ext (hS.resolve_left nofun))).at 0 rfl)) (Ext.refl _)<|Zq rfl (fun _ hS=>xld l7_j4 ti41 ((Bx.cs (B10.ext (hS.resolve_left nofun))).at 0 rfl)) (Ext.refl _)<|Zp rfl (fun _=>xas)<|Zp rfl (fun _=>xas)<|wp_ret<|rtMs rfl M19 fun w21 hT1=>?_
 have k36:Ext w0 w21:=Below.tak k34 hT1 (Nat.le_refl _)
 have O8:=O6.tak hT1
 have O9:=O7.tak hT1
 cases hF
 exact ⟨_,(.tmp rfl rfl (.tmp rfl rfl .nil)),⟨_,_,rfl,(O8.bnd k11.size),(O9.bnd k11.size),k36⟩⟩
theorem c100 {w0:World} {b0:Nat} {cs0:List Value} {x0:(Uno (List ((Int×Int)×Int)))} (h0:Cs w0 b0 0 cs0) (q0:Enc.rep (fun _=>True) w0 cs0 x0) {v1:Value} {x1:(List Int)} (r1:RV w0 v1 x1) {F:Nat} {r:(Ar 25 Int)} (hF:scale_song_met F x0 x1=some r) :
  Calls Tryz.prog 100 [.pointer (some ⟨b0,0,none⟩),v1].toArray w0 (Ret fun v w'=>∃ u0:Value,v=u0∧RV w' u0 r∧Ext w0 w'):=by
 unfold scale_song_met at hF
 obtain ⟨a1,cq1,rfl,p1,q3,e1⟩:=q0
 have r3:=RV.of1 p1 q3 e1
 have hz:=r1.sl; obtain ⟨a2,cq2,rfl,-,-,-⟩:=hz
 have M1:Mks w0.heap.size [] w0:=Mks.nil
 refine entrM (m:=12) (n:=21) Tryz.func100 rfl rfl rfl<|Zr<|sbx rfl rfl fun b3 w1 hx1 hg1 hb1=>?_
 have M2:=M1.ext hx1
 have r5:=r1.ext hx1
 refine sal ti169 fun b4 w2 hx2 hg2 hb2=>?_
 have k1:=hx1.tr hx2
 have M3:=M2.ext hx2
 have hb3:=hb1.ext hx2
 have r6:=r5.ext hx2
 have hb4:Bx w2 b4 169 (List.flatMap Flat.enc ((Ar.fill 25 0:(Ar 25 Int))).l):=hb2
 refine nl<|Zr<|sal ti169 fun b5 w3 hx3 hg3 hb5=>?_
 have k2:=k1.tr hx3
 have M4:=M3.ext hx3
 have hb8:Bx w3 b5 169 (List.flatMap Flat.enc ((Ar.fill 25 0:(Ar 25 Int))).l):=hb5
 refine nl<|Zr<|?_
 refine Zv (xslw (X:=(Ar.fill 25 0:(Ar 25 Int))) rfl Tryz.underlying169 ti3 rfl)<|sclr (X:=(Ar.fill 25 0:(Ar 25 Int))) rfl Tryz.underlying41 ti3 hb8 rfl fun w4 hch1 hb9=>?_
 have k4:=Ext.chg k2 hch1 (Nat.le_trans k1.size hg3)
 have k6:=Ext.chg hx3 hch1 (Nat.le_trans (Nat.le_refl _) hg3)
 have M5:=M4.chg hch1 hb8.nd
 refine nl<|wp_seq<|Zr<|Zm<|?_
 have q4:RVo (·<w0.heap.size) w4 (.pointer (some ⟨b0,0,none⟩)) (⟨some (⟨x0.v⟩:(Uno (List ((Int×Int)×Int))))⟩:Ob (Uno (List ((Int×Int)×Int)))):=RVo.ext (RV.old (w:=w0) (obNew h0 rfl r3.rep1)) k4
 have hz:=bs hF; obtain ⟨x3,Ex3,hF⟩:=hz
 refine Zc (xc cb205 (mc rfl mn)) (c205 (a:=w0.heap.size) q4 (Below.size k4) Ex3) ?_
 rintro v3 w5 ⟨sq1,hx4⟩
 have k7:=k4.tr hx4
 have k9:=k6.tr hx4
 have M6:=M5.ext hx4
 have hb14:=hb9.ext hx4
 refine nl<|wp_block<|?_
 have hin1:w0.heap.size≤b5∧b5<w4.heap.size:=⟨(Nat.le_trans k1.size hg3),hb9.lt⟩
 have hz:=bs hF; obtain ⟨z1,hB1,hF⟩:=hz
 refine ctM w0.heap.size (fun L w=>Bx w b5 169 (List.flatMap Flat.enc z1.l)∧Ext w2 w∧L 4=.pointer (some ⟨b4,0,none⟩)∧L 5=.pointer (some ⟨b5,0,none⟩)) ?_ ?_
 ·
  refine rangeB (α:=((Int×Int)×Int)) (xs:=x3) (m:=12) (by decide) rfl KpOk.beli (SeqV.go (by decide) sq1) rfl rfl rfl ti302 rfl (fun k w=>∃ y1:(Ar 25 Int),scale_song_met_l1 F x1 (List.drop k x3) y1=some z1∧Bx w b5 169 (List.flatMap Flat.enc y1.l)∧Ext w2 w∧Mks w0.heap.size [] w∧w5.heap.size≤w.heap.size) (fun _ _=>False) (fun k=>Okb.ex fun _=>(Okb.and Okb.pure (Okb.and Okb.bx (Okb.and (Okb.extw k9.size) (Okb.and (Okb.mks M6 rfl) Okb.size))))) (fun _=>Okb.pure) ⟨_,hB1,hb14,k9,M6,(Nat.le_refl _)⟩ ?round (fun k A h=>by obtain ⟨_,_,_,_,_,_⟩:=h; assumption) ?done ?stop
  case round =>
   rintro _ k x4 w6 w7 b6 hx5 ⟨y1,hB1,B5_i1a,K0_i1a,M7a,sz1a⟩ ha1 hA1 hg4 hb15
   rw [drop_at hx5] at hB1
   rw [scale_song_met_l1] at hB1
   have B5_i1:=B5_i1a.asg ha1
   have K0_i1:=Below.asg K0_i1a ha1 k9.size
   have M7:=M7a.asg ha1
   have sz1:=Nat.le_trans sz1a ha1.size
   have r14:=r6.ext K0_i1
   have hb16:=hb3.ext K0_i1
   have kf1:KeepsFrom w5.heap.size w7 w7:=KeepsFrom.refl _ _
   have bi1:BelI w0.heap.size w4.heap.size w5.heap.size w7 w7:=BelI.refl
   refine wpIn_block<|wpIn_seq<|rgR rfl<|Zv (xlda rfl ti302 rfl (Bx.cs hb15))<|Zv (xmf (mc rfl mn) mn)<|Za<|nl<|wpIn_seq<|rgR rfl<|Zv (xld rfl ti28 ((Bx.cs hb16).at 0 rfl))<|Zm<|?_
   have hz:=bs hB1; obtain ⟨x5,Ex5,hB1⟩:=hz
   refine Zc (xc cb199 (mc rfl (mc rfl mn))) (c199 r14 ⟨210,[_],[],rfl,cb210,fun w' u x b hk hu hp=>by cases RVo.int.1 hu; exact c210 (show RV (α:=((Int×Int)×Int)) _ (.agg [.int .i64 x4.1.1,.int .i64 x4.1.2,.int .i64 x4.2].toArray) ((x4.1.1,x4.1.2),x4.2) from ⟨_,rfl,⟨[.int .i64 x4.1.1]++[.int .i64 x4.1.2],[.int .i64 x4.2],rfl,⟨[.int .i64 x4.1.1],[.int .i64 x4.1.2],rfl,rfl,rfl⟩,rfl⟩⟩)  hp⟩ Ex5) ?_
   rintro _ w8 ⟨rfl,hx6⟩
   have k14:=K0_i1.tr hx6
   have M8:=M7.ext hx6
   have kf2:=kf1.ext hx6
   have bi2:=bi1.ext hx6 sz1
   have B1:=B5_i1.ext hx6
   have hb20:=hb15.ext hx6
   refine nl<|?_
   have hz:=bs hB1; obtain ⟨y2,hB2,hB1⟩:=hz
   refine ctR (fun L w=>Bx w b5 169 (List.flatMap Flat.enc y2.l)∧L 3=.pointer (some ⟨b3,0,none⟩)∧L 4=.pointer (some ⟨b4,0,none⟩)∧L 5=.pointer (some ⟨b5,0,none⟩)∧Ext w2 w∧KeepsFrom w5.heap.size w7 w∧BelI w0.heap.size w4.heap.size w5.heap.size w7 w∧Mks w0.heap.size [] w) ?_ ?_
   ·
    refine cndR rfl (fun h7=>?_) (fun h7=>?_)
    ·
     have hB2:=ifp hB2 h7
     refine rgR rfl<|Zv (xfa rfl fa302_1)<|Zv (xld rfl ti3 ((Bx.cs hb20).at 2 rfl))<|?_
     have hz:=bs hB2; obtain ⟨x6,Ex6,hB2⟩:=hz
     have hz:=ixar (Bx.cs B1) Ex6; obtain ⟨i2,i3,hc1⟩:=hz
     refine Zv (xixa rfl rfl Tryz.underlying169 ti3 i2 i3)<|ssta (X:=y1) (v:=1) rfl rfl rfl ti3 B1 Ex6 fun w9 hch2 hb21=>?_
     have k17:=Ext.chg k14 hch2 (Nat.le_trans (Nat.le_refl _) hg3)
     have M9:=M8.chg hch2 B1.nd
     have kf3:=kf2.chgc hch2 (.inr B1.isc)
     have bi3:=bi2.chg hch2 (.inl hin1)
     refine nl<|?_
     cases hB2
     refine lf<|?_
     exact ⟨hb21,rfl,rfl,rfl,k17,kf3,bi3,M9⟩
    ·
     have hB2:=ifn hB2 h7
     refine wpIn_skip<|?_
     cases hB2
     refine lf<|?_
     exact ⟨B1,rfl,rfl,rfl,k14,kf2,bi2,M8⟩
   rintro L w10 ⟨B5_j1,l3_j1,l4_j1,l5_j1,K0_j1,kf4,bi4,M10⟩
   exact ⟨kf4,bi4,⟨_,hB1,B5_j1,K0_j1,M10,(Nat.le_trans sz1 kf4.size)⟩⟩
  case done =>
   rintro D1 w11 hD1 ⟨y1,hB1,B5_j2,K0_j2,M7,_⟩ hk1
   rw [List.drop_length,scale_song_met_l1] at hB1
   cases hB1
   exact lfM (Mks.cons M6 M7 (Below.size k7) hD1 hk1) ⟨B5_j2,K0_j2,rfl,rfl⟩
  case stop =>
   rintro _ _ _ _ h _
   exact h.elim
 rintro L D2 w12 M11 ⟨B5_j3,K0_j3,l4_j3,l5_j3⟩
 have k20:=k1.tr K0_j3
 have hb26:=hb4.ext K0_j3
 refine Zr<|Zv (xlda l5_j3 ti169 (arlen _) (Bx.cs B5_j3))<|sstw l4_j3 rfl ti169 hb26 (arlen _) (arlen _) (flat_one _) fun w13 hch3 hb27=>?_
 have k22:=Ext.chg k20 hch3 (Nat.le_trans hx1.size hg2)
 have M12:=M11.chg hch3 hb26.nd
 have hb28:Bx w13 b4 169 (List.flatMap Flat.enc z1.l):=hb27
 refine nl<|wp_ret<|rtMs rfl M12 fun w14 hT1=>?_
 have k24:Ext w0 w14:=Below.tak k22 hT1 (Nat.le_refl _)
 have hb29:=hb28.tak hT1
 have hF:=Option.some.inj hF; subst hF
 exact ⟨_,(.cell l4_j3 rfl ti169 (arlen _) (Bx.cs hb29) .nil),⟨_,rfl,(show RV (α:=(Ar 25 Int)) _ (.agg (List.flatMap Flat.enc z1.l).toArray) z1 from ⟨_,rfl,rfl⟩),k24⟩⟩
end Go.Proofs.YtfmelbioccbdoaaGreat
end
section
namespace Go.Proofs.YtfmelbioccbdoaaGreat
open Go Go.Md Go.RowKit
attribute [local irreducible] Go.wpList Go.Code.wp Go.Calls Go.Md.Rnd Go.Md.Mt Go.Md.MtM Go.Md.RndM Go.Code.wpIn
theorem c204 {w0:World} {v0:Value} {x0:((Int×Int)×Int)} (r0:RV w0 v0 x0) {v1:Value} {x1:((Int×Int)×Int)} (r1:RV w0 v1 x1) {r:Int} (hF:scale_newSong_1 x0 x1=some r) :
  Calls Tryz.prog 204 [v0,v1].toArray w0 (Ret fun v w'=>v=.int .i64 r∧Ext w0 w'):=by
 unfold scale_newSong_1 at hF
 have hz:=id r0; obtain ⟨_,rfl,⟨_,_,rfl,⟨_,_,rfl,rfl,rfl⟩,rfl⟩⟩:=hz
 have hz:=id r1; obtain ⟨_,rfl,⟨_,_,rfl,⟨_,_,rfl,rfl,rfl⟩,rfl⟩⟩:=hz
 refine entr (n:=12) Tryz.func204 rfl rfl rfl<|Zr<|sbx rfl rfl fun b3 w1 hx1 hg1 hb1=>?_
 refine sbx rfl rfl fun b4 w2 hx2 hg2 hb2=>?_
 have k1:=hx1.tr hx2
 have hb3:=hb1.ext hx2
 refine Za<|nl<|Zr<|Zv (xfa rfl fa302_0)<|Zv (xfa rfl fa35_1)<|Zv (xld rfl ti2 ((Bx.cs hb3).at 1 rfl))<|Zv (xfa rfl fa302_0)<|Zv (xfa rfl fa35_1)<|Zv (xld rfl ti2 ((Bx.cs hb2).at 1 rfl))<|Zv (xsub rfl rfl)<|Za<|nl<|?_
 cases hF
 exact wp_ret<|rt rfl (.tmp rfl rfl .nil) ⟨rfl,k1⟩
theorem c330 {w0 wi:World} (hk:Ext w0 wi) {v0:Value} {x0:(List ((Int×Int)×Int))} (o0:Row 302 w0.heap.size wi v0 x0) {x1:Int} {x2:Int} {F:Nat} {r:(List ((Int×Int)×Int))} (hF:slices_insertionSortCmpFunc__scale_tone F x0 x1 x2=some r) :
  Calls Tryz.prog 330 [v0,.int .i64 x1,.int .i64 x2,.func (.func 204) #[] #[]].toArray wi (Ret fun v w'=>v=.tuple #[]∧Row 302 w0.heap.size w' v0 r∧Ext w0 w'∧wi.heap.size≤w'.heap.size):=by
 unfold slices_insertionSortCmpFunc__scale_tone at hF
 have hz:=RV.sl o0.rv; obtain ⟨a1,cq1,rfl,-,-,-⟩:=hz
 have Z0:wi.heap.size≤wi.heap.size:=Nat.le_refl _
 refine entr (n:=53) Tryz.func330 rfl rfl rfl<|Zr<|Zm<|Zv (xadd rfl rfl)<|Za<|nl<|?_
 have hz:=bs hF; obtain ⟨z1,hB1,hF⟩:=hz
 refine ct (fun L w=>L 0=(.slice a1 x0.length cq1)∧Row 302 w0.heap.size w (.slice a1 x0.length cq1) z1∧wi.heap.size≤w.heap.size∧Ext w0 w) ?_ ?_
 ·
  refine wp_block<|lp (I:=fun m L w=>∃ y1:(List ((Int×Int)×Int)),∃ y2:Int,slices_insertionSortCmpFunc__scale_tone_l1 F x1 x2 m y1 y2 =some z1∧L 0=(.slice a1 x0.length cq1)∧Row 302 w0.heap.size w (.slice a1 x0.length cq1) y1∧L 8=.int .i64 y2∧L 1=.int .i64 x1∧L 2=.int .i64 x2∧L 3=.func (.func 204) [].toArray [].toArray∧wi.heap.size≤w.heap.size∧Ext w0 w) F ⟨_,_,hB1,rfl,o0,rfl,rfl,rfl,rfl,Z0,hk⟩ ?_
  rintro m L w1 ⟨y1,y2,hB1,l0_i1,O0_i1,l8_i1,l1_i1,l2_i1,l3_i1,Z0_i1,K0_i1⟩
  rcases m with _ | m
  ·rw [slices_insertionSortCmpFunc__scale_tone_l1] at hB1; cases hB1
  rw [slices_insertionSortCmpFunc__scale_tone_l1] at hB1
  refine wp_seq<|Zr<|Zm<|Zm<|Zv (xlss l8_i1 l2_i1)<|nl<|cnd rfl (fun h5=>?_) (fun h5=>?_)
  ·
   have hB1:=ifp hB1 h5
   refine wp_skip<|wp_seq<|wp_block<|Zr<|Zm<|Za<|nl<|?_
   have hz:=bs hB1; obtain ⟨z2,hB3,hB1⟩:=hz
   refine ct (fun L w=>L 0=(.slice a1 x0.length cq1)∧Row 302 w0.heap.size w (.slice a1 x0.length cq1) z2∧L 1=.int .i64 x1∧L 2=.int .i64 x2∧L 3=.func (.func 204) [].toArray [].toArray∧L 8=.int .i64 y2∧wi.heap.size≤w.heap.size∧Ext w0 w) ?_ ?_
   ·
    refine wp_block<|lp (I:=fun m L w=>∃ y3:(List ((Int×Int)×Int)),∃ y4:Int,slices_insertionSortCmpFunc__scale_tone_l2 F x1 m y3 y4 =some z2∧L 0=(.slice a1 x0.length cq1)∧Row 302 w0.heap.size w (.slice a1 x0.length cq1) y3∧L 9=.int .i64 y4∧L 1=.int .i64 x1∧L 2=.int .i64 x2∧L 3=.func (.func 204) [].toArray [].toArray∧L 8=.int .i64 y2∧wi.heap.size≤w.heap.size∧Ext w0 w) F ⟨_,_,hB3,l0_i1,O0_i1,l8_i1,l1_i1,l2_i1,l3_i1,l8_i1,Z0_i1,K0_i1⟩ ?_
    rintro m L w2 ⟨y3,y4,hB3,l0_i2,O0_i2,l9_i2,l1_i2,l2_i2,l3_i2,l8_i2,Z0_i2,K0_i2⟩
    rcases m with _ | m
    ·rw [slices_insertionSortCmpFunc__scale_tone_l2] at hB3; cases hB3
    rw [slices_insertionSortCmpFunc__scale_tone_l2] at hB3
    refine wp_seq<|wp_seq<|?_
    have hz:=bs hB3; obtain ⟨y5,hB4,hB3⟩:=hz
    refine ct (fun L w=>L 34=.bool y5∧L 0=.slice a1 x0.length cq1∧L 1=.int .i64 x1∧L 2=.int .i64 x2∧L 3=.func (.func 204) [].toArray [].toArray∧L 8=.int .i64 y2∧L 9=.int .i64 y4∧wi.heap.size≤w.heap.size∧Ext w2 w) ?_ ?_
    ·
     refine wpl [] (.pure true 0 (.pure true 1 (.pure true 2 (.pure true 3 (.pure true 4 (.pure true 5 (.pure true 6 (.pure true 7 (.pure false 8 (.pure true 9 (.pure true 10 (.pure true 11 (.pure true 12 (.pure false 13 (.eff 14 (.pure true 15 (.pure true 16 .fin)) .stop))))))))))))))) mixed (by kernel_rfl) (fun w4 hx2=>?_)
     have zs2:=Nat.le_trans Z0_i2 hx2.size
     have O2:=O0_i2.ext hx2
     refine Zn rfl<|Zn rfl<|Zp rfl (fun _=>xgtr l9_i2 l1_i2)<|Zn rfl<|?_
     refine Or.elim (Bool.eq_false_or_eq_true (decide (x1<y4))) (fun h6=>?_) (fun h6=>?_)
     ·
      have hB4:=ifp hB4 h6
      refine Zt rfl rfl rfl rfl (bt h6) (fun _=>xmv)<|Zt rfl rfl rfl rfl (bt h6) (fun _=>xmv)<|Zt rfl rfl rfl rfl (bt h6) (fun _=>xmv)<|?_
      have hz:=bs hB4; obtain ⟨x5,Ex5,hB4⟩:=hz
      have hz:=(RV.els O2.rv).ix Ex5; obtain ⟨b5,f1,cs5,e1,i3,i4,q5,hc1⟩:=hz
      cases e1
      obtain ⟨_,_,rfl,⟨_,_,rfl,rfl,rfl⟩,rfl⟩:=q5
      have i5:y4<(x0.length:Int):=by rw [(RV.cap O2.rv).1]; exact i4
      refine Zt rfl rfl rfl rfl (bt h6) (fun _=>xixs l0_i2 l9_i2 Tryz.underlying298 ti302 i3 i5)<|pvt rfl rfl rfl rfl rfl rfl (bt h6) rfl (fun _ hS=>xlda rfl ti302 rfl (hc1.ext (hS.resolve_left nofun))) (.inr (Ext.refl _))<|Zt rfl rfl rfl rfl (bt h6) (fun _=>xmv)<|Zt rfl rfl rfl rfl (bt h6) (fun _=>xmv)<|Zt rfl rfl rfl rfl (bt h6) (fun _=>xsub l9_i2 rfl)<|?_
      have hz:=bs hB4; obtain ⟨x6,Ex6,hB4⟩:=hz
      have hz:=ix2 O2.rv Ex6; obtain ⟨cs6,i6,i7,q6,hc2⟩:=hz
      obtain ⟨_,_,rfl,⟨_,_,rfl,rfl,rfl⟩,rfl⟩:=q6
      have i8:(w64 (y4 - 1))<(x0.length:Int):=by rw [(RV.cap O2.rv).1]; exact i7
      refine Zt rfl rfl rfl rfl (bt h6) (fun _=>xixs l0_i2 rfl Tryz.underlying298 ti302 i6 i8)<|pvt rfl rfl rfl rfl rfl rfl (bt h6) rfl (fun _ hS=>xlda rfl ti302 rfl (hc2.ext (hS.resolve_left nofun))) (.inr (Ext.refl _))<|?_
      have hz:=bs hB4; obtain ⟨x7,Ex7,hB4⟩:=hz
      refine pe1 rfl<|gtk rfl rfl rfl rfl rfl (bt h6)<|Zc (xcv l3_i2 cb204 (mc rfl (mc rfl mn)) rfl) (c204 (show RV (α:=((Int×Int)×Int)) _ (.agg [.int .i64 x5.1.1,.int .i64 x5.1.2,.int .i64 x5.2].toArray) ((x5.1.1,x5.1.2),x5.2) from ⟨_,rfl,⟨[.int .i64 x5.1.1]++[.int .i64 x5.1.2],[.int .i64 x5.2],rfl,⟨[.int .i64 x5.1.1],[.int .i64 x5.1.2],rfl,rfl,rfl⟩,rfl⟩⟩) (show RV (α:=((Int×Int)×Int)) _ (.agg [.int .i64 x6.1.1,.int .i64 x6.1.2,.int .i64 x6.2].toArray) ((x6.1.1,x6.1.2),x6.2) from ⟨_,rfl,⟨[.int .i64 x6.1.1]++[.int .i64 x6.1.2],[.int .i64 x6.2],rfl,⟨[.int .i64 x6.1.1],[.int .i64 x6.1.2],rfl,rfl,rfl⟩,rfl⟩⟩) Ex7) ?_
      rintro _ w5 ⟨rfl,hx3⟩
      have k4:=hx2.tr hx3
      have zs3:=Nat.le_trans zs2 hx3.size
      refine nl ⟨fun _ _=>hx3,?_⟩
      refine Zt rfl rfl rfl rfl (bt h6) (fun _=>xlss rfl rfl)<|Zp rfl (fun _=>xpt rfl h6 rfl)<|?_
      cases hB4
      refine lf<|?_
      exact ⟨rfl,l0_i2,l1_i2,l2_i2,l3_i2,l8_i2,l9_i2,zs3,k4⟩
     ·
      have hB4:=ifn hB4 h6
      refine Zf rfl rfl rfl rfl (bft h6)<|Zf rfl rfl rfl rfl (bft h6)<|Zf rfl rfl rfl rfl (bft h6)<|Zf rfl rfl rfl rfl (bft h6)<|pvf rfl rfl rfl rfl rfl rfl (bft h6) rfl (.inr (Ext.refl _))<|Zf rfl rfl rfl rfl (bft h6)<|Zf rfl rfl rfl rfl (bft h6)<|Zf rfl rfl rfl rfl (bft h6)<|Zf rfl rfl rfl rfl (bft h6)<|pvf rfl rfl rfl rfl rfl rfl (bft h6) rfl (.inr (Ext.refl _))<|pe1 rfl<|gfk rfl rfl rfl rfl rfl (bft h6) rfl<|nl ⟨fun _ _=>(Ext.refl _),?_⟩
      refine Zf rfl rfl rfl rfl (bft h6)<|Zp rfl (fun _=>xpf rfl h6 rfl)<|?_
      cases hB4
      refine lf<|?_
      exact ⟨rfl,l0_i2,l1_i2,l2_i2,l3_i2,l8_i2,l9_i2,zs2,hx2⟩
    rintro L w6 ⟨l34_j1,l0_j1,l1_j1,l2_j1,l3_j1,l8_j1,l9_j1,Z0_j1,K0_j1⟩
    have k5:=K0_i2.tr K0_j1
    have O4:=O0_i2.ext K0_j1
    refine cnd l34_j1 (fun h7=>?_) (fun h7=>?_)
    ·
     have hB3:=ifp hB3 h7
     refine wp_skip<|wp_seq<|wp_block<|wpl [15,17] (.pure true 0 (.pure true 1 (.pure true 2 (.pure true 3 (.pure true 4 (.pure true 5 (.pure true 6 (.pure true 7 (.pure true 8 (.pure false 9 (.pure true 10 (.pure true 11 (.pure true 12 (.pure false 13 (.pure true 14 (.eff 15 (.pure true 16 (.eff 17 .fin .stop)) .stop)))))))))))))))) mixed (by kernel_rfl) (fun w7 hx4=>?_)
     have k6:=k5.tr hx4
     have zs4:=Nat.le_trans Z0_j1 hx4.size
     have O5:=O4.ext hx4
     refine Zn rfl<|Zn rfl<|Zn rfl<|Zn rfl<|Zp rfl (fun _=>xsub l9_j1 rfl)<|Zn rfl<|Zn rfl<|Zp rfl (fun _=>xsub l9_j1 rfl)<|?_
     have hz:=bs hB3; obtain ⟨x8,Ex8,hB3⟩:=hz
     have hz:=(RV.els O5.rv).ix Ex8; obtain ⟨b6,f2,cs7,e2,i9,i10,q7,hc3⟩:=hz
     cases e2
     obtain ⟨_,_,rfl,⟨_,_,rfl,rfl,rfl⟩,rfl⟩:=q7
     have i11:(w64 (y4 - 1))<(x0.length:Int):=by rw [(RV.cap O5.rv).1]; exact i10
     refine Zp rfl (fun _=>xixs l0_j1 rfl Tryz.underlying298 ti302 i9 i11)<|Zq rfl (fun _ hS=>xlda rfl ti302 rfl (hc3.ext (hS.resolve_left nofun))) (Ext.refl _)<|Zn rfl<|Zn rfl<|?_
     have hz:=bs hB3; obtain ⟨x9,Ex9,hB3⟩:=hz
     have hz:=ix2 O5.rv Ex9; obtain ⟨cs8,i12,i13,q8,hc4⟩:=hz
     obtain ⟨_,_,rfl,⟨_,_,rfl,rfl,rfl⟩,rfl⟩:=q8
     have i14:y4<(x0.length:Int):=by rw [(RV.cap O5.rv).1]; exact i13
     refine Zp rfl (fun _=>xixs l0_j1 l9_j1 Tryz.underlying298 ti302 i12 i14)<|Zq rfl (fun _ hS=>xlda rfl ti302 rfl (hc4.ext (hS.resolve_left nofun))) (Ext.refl _)<|?_
     have hz:=bs hB3; obtain ⟨x10,Ex10,hB3⟩:=hz
     have hz:=ix2 O5.rv Ex10; obtain ⟨cs9,i15,i16,q9,hc5⟩:=hz
     obtain ⟨_,_,rfl,⟨_,_,rfl,rfl,rfl⟩,rfl⟩:=q9
     have i17:y4<(x0.length:Int):=by rw [(RV.cap O5.rv).1]; exact i16
     refine Zp rfl (fun _=>xixs l0_j1 l9_j1 Tryz.underlying298 ti302 i15 i17)<|pe1 rfl<|sstr (l:=y3) (v:=((x8.1.1,x8.1.2),x8.2)) rfl rfl rfl ti302 O5 Ex10 fun w8 hch1 o12=>?_
     have k8:=Ext.chg k6 hch1 (Nat.le_trans (Nat.le_refl _) (Row.ge O5))
     have zs5:=Nat.le_trans zs4 (Nat.le_of_eq hch1.size.symm)
     refine nl ⟨fun h=>(h (by decide)).elim,?_⟩
     have hz:=bs hB3; obtain ⟨x11,Ex11,hB3⟩:=hz
     have hz:=ix2 o12.rv Ex11; obtain ⟨cs10,i18,i19,q10,hc6⟩:=hz
     obtain ⟨_,_,rfl,⟨_,_,rfl,rfl,rfl⟩,rfl⟩:=q10
     have i20:(w64 (y4 - 1))<(x0.length:Int):=by rw [(RV.cap o12.rv).1]; exact i19
     refine Zp rfl (fun _=>xixs l0_j1 rfl Tryz.underlying298 ti302 i18 i20)<|pe1 rfl<|sstr (l:=(rset y3 y4 ((x8.1.1,x8.1.2),x8.2))) (v:=((x9.1.1,x9.1.2),x9.2)) rfl rfl rfl ti302 o12 Ex11 fun w9 hch2 o13=>?_
     have k9:=Ext.chg k8 hch2 (Nat.le_trans (Nat.le_refl _) (Row.ge o12))
     have zs6:=Nat.le_trans zs5 (Nat.le_of_eq hch2.size.symm)
     refine nl ⟨fun h=>(h (by decide)).elim,?_⟩
     refine rg<|Zm<|Zv (xsub l9_j1 rfl)<|Za<|nl<|?_
     refine lq m (Nat.lt_succ_self _)<|?_
     exact ⟨_,_,hB3,l0_j1,o13,rfl,l1_j1,l2_j1,l3_j1,l8_j1,zs6,k9⟩
    ·
     have hB3:=ifn hB3 h7
     refine wp_exit<|?_
     cases hB3
     refine lf<|?_
     exact ⟨l0_j1,O4,l1_j1,l2_j1,l3_j1,l8_j1,Z0_j1,k5⟩
   rintro L w10 ⟨l0_j2,O0_j2,l1_j2,l2_j2,l3_j2,l8_j2,Z0_j2,K0_j2⟩
   refine rg<|Zm<|Zv (xadd l8_j2 rfl)<|Za<|nl<|?_
   refine lq m (Nat.lt_succ_self _)<|?_
   exact ⟨_,_,hB1,l0_j2,O0_j2,rfl,l1_j2,l2_j2,l3_j2,Z0_j2,K0_j2⟩
  ·
   have hB1:=ifn hB1 h5
   refine wp_exit<|?_
   cases hB1
   refine lf<|?_
   exact ⟨l0_i1,O0_i1,Z0_i1,K0_i1⟩
 rintro L w11 ⟨l0_j3,O0_j3,Z0_j3,K0_j3⟩
 cases hF
 exact rtn rfl .nil ⟨rfl,O0_j3,K0_j3,Z0_j3⟩
theorem c347 {w0 wi:World} (hk:Ext w0 wi) {v0:Value} {x0:(List ((Int×Int)×Int))} (o0:Row 302 w0.heap.size wi v0 x0) {x1:Int} {x2:Int} {x3:Int} {F:Nat} {r:(List ((Int×Int)×Int))} (hF:slices_swapRangeCmpFunc__scale_tone F x0 x1 x2 x3=some r) :
  Calls Tryz.prog 347 [v0,.int .i64 x1,.int .i64 x2,.int .i64 x3,.func (.func 204) #[] #[]].toArray wi (Ret fun v w'=>v=.tuple #[]∧Row 302 w0.heap.size w' v0 r∧Ext w0 w'∧wi.heap.size≤w'.heap.size):=by
 unfold slices_swapRangeCmpFunc__scale_tone at hF
 have hz:=RV.sl o0.rv; obtain ⟨a1,cq1,rfl,-,-,-⟩:=hz
 have Z0:wi.heap.size≤wi.heap.size:=Nat.le_refl _
 refine entr (n:=38) Tryz.func347 rfl rfl rfl<|Zr<|Za<|nl<|?_
 have hz:=bs hF; obtain ⟨z1,hB1,hF⟩:=hz
 refine ct (fun L w=>L 0=(.slice a1 x0.length cq1)∧Row 302 w0.heap.size w (.slice a1 x0.length cq1) z1∧wi.heap.size≤w.heap.size∧Ext w0 w) ?_ ?_
 ·
  refine wp_block<|lp (I:=fun m L w=>∃ y1:(List ((Int×Int)×Int)),∃ y2:Int,slices_swapRangeCmpFunc__scale_tone_l1 F x1 x2 x3 m y1 y2 =some z1∧L 0=(.slice a1 x0.length cq1)∧Row 302 w0.heap.size w (.slice a1 x0.length cq1) y1∧L 10=.int .i64 y2∧L 1=.int .i64 x1∧L 2=.int .i64 x2∧L 3=.int .i64 x3∧wi.heap.size≤w.heap.size∧Ext w0 w) F ⟨_,_,hB1,rfl,o0,rfl,rfl,rfl,rfl,Z0,hk⟩ ?_
  rintro m L w1 ⟨y1,y2,hB1,l0_i1,O0_i1,l10_i1,l1_i1,l2_i1,l3_i1,Z0_i1,K0_i1⟩
  rcases m with _ | m
  ·rw [slices_swapRangeCmpFunc__scale_tone_l1] at hB1; cases hB1
  rw [slices_swapRangeCmpFunc__scale_tone_l1] at hB1
  refine wp_seq<|Zr<|Zm<|Zm<|Zv (xlss l10_i1 l3_i1)<|nl<|cnd rfl (fun h6=>?_) (fun h6=>?_)
  ·
   have hB1:=ifp hB1 h6
   refine wp_skip<|wp_seq<|wp_block<|wpl [21,23] (.pure true 0 (.pure true 1 (.pure true 2 (.pure true 3 (.pure true 4 (.pure true 5 (.pure true 6 (.pure true 7 (.pure true 8 (.pure true 9 (.pure true 10 (.pure true 11 (.pure true 12 (.pure false 13 (.pure true 14 (.pure true 15 (.pure true 16 (.pure true 17 (.pure true 18 (.pure false 19 (.pure true 20 (.eff 21 (.pure true 22 (.eff 23 .fin .stop)) .stop)))))))))))))))))))))) mixed (by kernel_rfl) (fun w2 hx1=>?_)
   have k1:=K0_i1.tr hx1
   have zs1:=Nat.le_trans Z0_i1 hx1.size
   have O1:=O0_i1.ext hx1
   refine Zn rfl<|Zn rfl<|Zn rfl<|Zp rfl (fun _=>xadd l1_i1 l10_i1)<|Zn rfl<|Zn rfl<|Zn rfl<|Zp rfl (fun _=>xadd l2_i1 l10_i1)<|Zn rfl<|Zn rfl<|Zn rfl<|Zp rfl (fun _=>xadd l2_i1 l10_i1)<|?_
   have hz:=bs hB1; obtain ⟨x6,Ex6,hB1⟩:=hz
   have hz:=(RV.els O1.rv).ix Ex6; obtain ⟨b6,f1,cs6,e1,i2,i3,q6,hc1⟩:=hz
   cases e1
   obtain ⟨_,_,rfl,⟨_,_,rfl,rfl,rfl⟩,rfl⟩:=q6
   have i4:(w64 (x2 + y2))<(x0.length:Int):=by rw [(RV.cap O1.rv).1]; exact i3
   refine Zp rfl (fun _=>xixs l0_i1 rfl Tryz.underlying298 ti302 i2 i4)<|Zq rfl (fun _ hS=>xlda rfl ti302 rfl (hc1.ext (hS.resolve_left nofun))) (Ext.refl _)<|Zn rfl<|Zn rfl<|Zn rfl<|Zp rfl (fun _=>xadd l1_i1 l10_i1)<|?_
   have hz:=bs hB1; obtain ⟨x7,Ex7,hB1⟩:=hz
   have hz:=ix2 O1.rv Ex7; obtain ⟨cs7,i5,i6,q7,hc2⟩:=hz
   obtain ⟨_,_,rfl,⟨_,_,rfl,rfl,rfl⟩,rfl⟩:=q7
   have i7:(w64 (x1 + y2))<(x0.length:Int):=by rw [(RV.cap O1.rv).1]; exact i6
   refine Zp rfl (fun _=>xixs l0_i1 rfl Tryz.underlying298 ti302 i5 i7)<|Zq rfl (fun _ hS=>xlda rfl ti302 rfl (hc2.ext (hS.resolve_left nofun))) (Ext.refl _)<|?_
   have hz:=bs hB1; obtain ⟨x8,Ex8,hB1⟩:=hz
   have hz:=ix2 O1.rv Ex8; obtain ⟨cs8,i8,i9,q8,hc3⟩:=hz
   obtain ⟨_,_,rfl,⟨_,_,rfl,rfl,rfl⟩,rfl⟩:=q8
   have i10:(w64 (x1 + y2))<(x0.length:Int):=by rw [(RV.cap O1.rv).1]; exact i9
   refine Zp rfl (fun _=>xixs l0_i1 rfl Tryz.underlying298 ti302 i8 i10)<|pe1 rfl<|sstr (l:=y1) (v:=((x6.1.1,x6.1.2),x6.2)) rfl rfl rfl ti302 O1 Ex8 fun w3 hch1 o11=>?_
   have k2:=Ext.chg k1 hch1 (Nat.le_trans (Nat.le_refl _) (Row.ge O1))
   have zs2:=Nat.le_trans zs1 (Nat.le_of_eq hch1.size.symm)
   refine nl ⟨fun h=>(h (by decide)).elim,?_⟩
   have hz:=bs hB1; obtain ⟨x9,Ex9,hB1⟩:=hz
   have hz:=ix2 o11.rv Ex9; obtain ⟨cs9,i11,i12,q9,hc4⟩:=hz
   obtain ⟨_,_,rfl,⟨_,_,rfl,rfl,rfl⟩,rfl⟩:=q9
   have i13:(w64 (x2 + y2))<(x0.length:Int):=by rw [(RV.cap o11.rv).1]; exact i12
   refine Zp rfl (fun _=>xixs l0_i1 rfl Tryz.underlying298 ti302 i11 i13)<|pe1 rfl<|sstr (l:=(rset y1 (w64 (x1 + y2)) ((x6.1.1,x6.1.2),x6.2))) (v:=((x7.1.1,x7.1.2),x7.2)) rfl rfl rfl ti302 o11 Ex9 fun w4 hch2 o12=>?_
   have k3:=Ext.chg k2 hch2 (Nat.le_trans (Nat.le_refl _) (Row.ge o11))
   have zs3:=Nat.le_trans zs2 (Nat.le_of_eq hch2.size.symm)
   refine nl ⟨fun h=>(h (by decide)).elim,?_⟩
   refine rg<|Zm<|Zv (xadd l10_i1 rfl)<|Za<|nl<|?_
   refine lq m (Nat.lt_succ_self _)<|?_
   exact ⟨_,_,hB1,l0_i1,o12,rfl,l1_i1,l2_i1,l3_i1,zs3,k3⟩
  ·
   have hB1:=ifn hB1 h6
   refine wp_exit<|?_
   cases hB1
   refine lf<|?_
   exact ⟨l0_i1,O0_i1,Z0_i1,K0_i1⟩
 rintro L w5 ⟨l0_j1,O0_j1,Z0_j1,K0_j1⟩
 cases hF
 exact rtn rfl .nil ⟨rfl,O0_j1,K0_j1,Z0_j1⟩
theorem c345 {w0 wi:World} (hk:Ext w0 wi) {v0:Value} {x0:(List ((Int×Int)×Int))} (o0:Row 302 w0.heap.size wi v0 x0) {x1:Int} {x2:Int} {x3:Int} {F:Nat} {r:(List ((Int×Int)×Int))} (hF:slices_rotateCmpFunc__scale_tone F x0 x1 x2 x3=some r) :
  Calls Tryz.prog 345 [v0,.int .i64 x1,.int .i64 x2,.int .i64 x3,.func (.func 204) #[] #[]].toArray wi (Ret fun v w'=>v=.tuple #[]∧Row 302 w0.heap.size w' v0 r∧Ext w0 w'∧wi.heap.size≤w'.heap.size):=by
 unfold slices_rotateCmpFunc__scale_tone at hF
 have hz:=RV.sl o0.rv; obtain ⟨a1,cq1,rfl,-,-,-⟩:=hz
 have Z0:wi.heap.size≤wi.heap.size:=Nat.le_refl _
 refine entr (n:=58) Tryz.func345 rfl rfl rfl<|Zr<|Zm<|Zm<|Zv (xsub rfl rfl)<|Za<|nl<|Zr<|Zm<|Zm<|Zv (xsub rfl rfl)<|Za<|nl<|wp_seq<|?_
 have hz:=bs hF; obtain ⟨⟨z1,z2⟩,hB1,hF⟩:=hz
 refine ct (fun L w=>L 0=(.slice a1 x0.length cq1)∧Row 302 w0.heap.size w (.slice a1 x0.length cq1) z1∧L 10=.int .i64 z2∧L 2=.int .i64 x2∧L 4=.func (.func 204) [].toArray [].toArray∧wi.heap.size≤w.heap.size∧Ext w0 w) ?_ ?_
 ·
  refine wp_block<|lp (I:=fun m L w=>∃ y1:(List ((Int×Int)×Int)),∃ y2:Int,∃ y3:Int,slices_rotateCmpFunc__scale_tone_l1 F x2 m y1 y2 y3 =some (z1,z2)∧L 0=(.slice a1 x0.length cq1)∧Row 302 w0.heap.size w (.slice a1 x0.length cq1) y1∧L 10=.int .i64 y2∧L 11=.int .i64 y3∧L 2=.int .i64 x2∧L 4=.func (.func 204) [].toArray [].toArray∧wi.heap.size≤w.heap.size∧Ext w0 w) F ⟨_,_,_,hB1,rfl,o0,rfl,rfl,rfl,rfl,Z0,hk⟩ ?_
  rintro m L w1 ⟨y1,y2,y3,hB1,l0_i1,O0_i1,l10_i1,l11_i1,l2_i1,l4_i1,Z0_i1,K0_i1⟩
  rcases m with _ | m
  ·rw [slices_rotateCmpFunc__scale_tone_l1] at hB1; cases hB1
  rw [slices_rotateCmpFunc__scale_tone_l1] at hB1
  refine wp_seq<|Zr<|Zm<|Zm<|Zv (xneq l10_i1 l11_i1)<|nl<|cnd rfl (fun h6=>?_) (fun h6=>?_)
  ·
   have hB1:=ifp hB1 h6
   refine wp_skip<|?_
   have hz:=bs hB1; obtain ⟨⟨y4,y5,y6⟩,hB3,hB1⟩:=hz
   refine ct (fun L w=>L 0=(.slice a1 x0.length cq1)∧Row 302 w0.heap.size w (.slice a1 x0.length cq1) y4∧L 10=.int .i64 y5∧L 11=.int .i64 y6∧L 2=.int .i64 x2∧L 4=.func (.func 204) [].toArray [].toArray∧wi.heap.size≤w.heap.size∧Ext w0 w) ?_ ?_
   ·
    refine wp_block<|Zr<|Zm<|Zm<|Zv (xgtr l10_i1 l11_i1)<|nl<|?_
    have hz:=bs hB3; obtain ⟨⟨y7,y8,y9⟩,hB4,hB3⟩:=hz
    refine ct (fun L w=>L 0=(.slice a1 x0.length cq1)∧Row 302 w0.heap.size w (.slice a1 x0.length cq1) y7∧L 10=.int .i64 y8∧L 11=.int .i64 y9∧L 2=.int .i64 x2∧L 4=.func (.func 204) [].toArray [].toArray∧wi.heap.size≤w.heap.size∧Ext w0 w) ?_ ?_
    ·
     refine cnd rfl (fun h7=>?_) (fun h7=>?_)
     ·
      have hB4:=ifp hB4 h7
      refine Zr<|Zm<|Zm<|Zm<|Zv (xsub l2_i1 l10_i1)<|Zm<|Zm<|Zm<|?_
      have hz:=bs hB4; obtain ⟨x6,Ex6,hB4⟩:=hz
      refine Zc (xc cb347 (mc l0_i1 (mc rfl (mc l2_i1 (mc l11_i1 (mc l4_i1 mn)))))) (c347 K0_i1 O0_i1 Ex6) ?_
      rintro _ w2 ⟨rfl,o11,hx1,hs1⟩
      have Z1:=Nat.le_trans Z0_i1 hs1
      refine nl<|rg<|Zm<|Zm<|Zv (xsub l10_i1 l11_i1)<|Za<|nl<|?_
      cases hB4
      refine lf<|?_
      exact ⟨l0_i1,o11,rfl,l11_i1,l2_i1,l4_i1,Z1,hx1⟩
     ·
      have hB4:=ifn hB4 h7
      refine Zr<|Zm<|Zm<|Zm<|Zv (xsub l2_i1 l10_i1)<|Zm<|Zm<|Zv (xadd l2_i1 l11_i1)<|Zm<|Zv (xsub rfl l10_i1)<|Zm<|Zm<|?_
      have hz:=bs hB4; obtain ⟨x7,Ex7,hB4⟩:=hz
      refine Zc (xc cb347 (mc l0_i1 (mc rfl (mc rfl (mc l10_i1 (mc l4_i1 mn)))))) (c347 K0_i1 O0_i1 Ex7) ?_
      rintro _ w3 ⟨rfl,o12,hx2,hs2⟩
      have Z2:=Nat.le_trans Z0_i1 hs2
      refine nl<|rg<|Zm<|Zm<|Zv (xsub l11_i1 l10_i1)<|Za<|nl<|?_
      cases hB4
      refine lf<|?_
      exact ⟨l0_i1,o12,l10_i1,rfl,l2_i1,l4_i1,Z2,hx2⟩
    rintro L w4 ⟨l0_j1,O0_j1,l10_j1,l11_j1,l2_j1,l4_j1,Z0_j1,K0_j1⟩
    cases hB3
    refine lf<|?_
    exact ⟨l0_j1,O0_j1,l10_j1,l11_j1,l2_j1,l4_j1,Z0_j1,K0_j1⟩
   rintro L w5 ⟨l0_j2,O0_j2,l10_j2,l11_j2,l2_j2,l4_j2,Z0_j2,K0_j2⟩
   refine lq m (Nat.lt_succ_self _)<|?_
   exact ⟨_,_,_,hB1,l0_j2,O0_j2,l10_j2,l11_j2,l2_j2,l4_j2,Z0_j2,K0_j2⟩
  ·
   have hB1:=ifn hB1 h6
   refine wp_exit<|?_
   cases hB1
   refine lf<|?_
   exact ⟨l0_i1,O0_i1,l10_i1,l2_i1,l4_i1,Z0_i1,K0_i1⟩
 rintro L w6 ⟨l0_j3,O0_j3,l10_j3,l2_j3,l4_j3,Z0_j3,K0_j3⟩
 refine rg<|Zm<|Zm<|Zm<|Zv (xsub l2_j3 l10_j3)<|Zm<|Zm<|Zm<|?_
 have hz:=bs hF; obtain ⟨x8,Ex8,hF⟩:=hz
 refine Zc (xc cb347 (mc l0_j3 (mc rfl (mc l2_j3 (mc l10_j3 (mc l4_j3 mn)))))) (c347 K0_j3 O0_j3 Ex8) ?_
 rintro _ w7 ⟨rfl,o13,hx3,hs3⟩
 have Z3:=Nat.le_trans Z0_j3 hs3
 refine nl<|?_
 cases hF
 exact rtn rfl .nil ⟨rfl,o13,hx3,Z3⟩
theorem c331r (F:Nat):∀ (m:Nat) {w0 wi:World} (hk:Ext w0 wi) {v0:Value} {x0:(List ((Int×Int)×Int))} (o0:Row 302 w0.heap.size wi v0 x0) {x1:Int} {x2:Int} {x3:Int} {r:(List ((Int×Int)×Int))} (hF:slices_symMergeCmpFunc__scale_tone_r F m x0 x1 x2 x3=some r),
  Calls Tryz.prog 331 [v0,.int .i64 x1,.int .i64 x2,.int .i64 x3,.func (.func 204) #[] #[]].toArray wi (Ret fun v w'=>v=.tuple #[]∧Row 302 w0.heap.size w' v0 r∧Ext w0 w'∧wi.heap.size≤w'.heap.size):=by
 intro m
 induction m with
 | zero =>
  intro w0 wi hk v0 x0 o0 x1 x2 x3 r hF
  rw [slices_symMergeCmpFunc__scale_tone_r] at hF; cases hF
 | succ m ih =>
 intro w0 wi hk v0 x0 o0 x1 x2 x3 r hF
 rw [slices_symMergeCmpFunc__scale_tone_r] at hF
 have hz:=RV.sl o0.rv; obtain ⟨a1,cq1,rfl,-,-,-⟩:=hz
 have Z0:wi.heap.size≤wi.heap.size:=Nat.le_refl _
 refine entr (n:=220) Tryz.func331 rfl rfl rfl<|wp_seq<|Zr<|Zm<|Zm<|Zv (xsub rfl rfl)<|Zv (xeql rfl rfl)<|nl<|cnd rfl (fun h6=>?_) (fun h6=>?_)
 ·
  have hF:=ifp hF h6
  refine Zr<|Zm<|Za<|nl<|Zr<|Zm<|Za<|nl<|wp_seq<|?_
  have hz:=bs hF; obtain ⟨z1,hB1,hF⟩:=hz
  refine ct (fun L w=>L 10=.int .i64 z1∧L 0=.slice a1 x0.length cq1∧L 1=.int .i64 x1∧Ext wi w) ?_ ?_
  ·
   refine wp_block<|lp (I:=fun m L w=>∃ y1:Int,∃ y2:Int,slices_symMergeCmpFunc__scale_tone_l1 F x0 x1 m y1 y2 =some z1∧L 10=.int .i64 y1∧L 11=.int .i64 y2∧L 0=.slice a1 x0.length cq1∧L 1=.int .i64 x1∧L 4=.func (.func 204) [].toArray [].toArray∧Ext wi w) F ⟨_,_,hB1,rfl,rfl,rfl,rfl,rfl,(Ext.refl _)⟩ ?_
   rintro m L w1 ⟨y1,y2,hB1,l10_i1,l11_i1,l0_i1,l1_i1,l4_i1,K0_i1⟩
   rcases m with _ | m
   ·rw [slices_symMergeCmpFunc__scale_tone_l1] at hB1; cases hB1
   rw [slices_symMergeCmpFunc__scale_tone_l1] at hB1
   have o11:=o0.ext K0_i1
   refine wp_seq<|Zr<|Zm<|Zm<|Zv (xlss l10_i1 l11_i1)<|nl<|cnd rfl (fun h7=>?_) (fun h7=>?_)
   ·
    have hB1:=ifp hB1 h7
    refine wp_skip<|?_
    have hz:=bs hB1; obtain ⟨⟨y3,y4⟩,hB3,hB1⟩:=hz
    refine ct (fun L w=>L 10=.int .i64 y3∧L 11=.int .i64 y4∧L 0=.slice a1 x0.length cq1∧L 1=.int .i64 x1∧L 4=.func (.func 204) [].toArray [].toArray∧wi.heap.size≤w.heap.size∧Ext w1 w) ?_ ?_
    ·
     refine wp_block<|Zr<|Zm<|Zm<|Zv (xadd l10_i1 l11_i1)<|Zv (xcvt rfl Tryz.underlying3 Tryz.underlying310)<|?_
     have hz:=bs hB3; obtain ⟨x6,Ex6,hB3⟩:=hz
     refine Zv (xshr rfl rfl Ex6)<|Zv (xcvt rfl Tryz.underlying310 Tryz.underlying3)<|Za<|nl<|wp_seq<|wpl [] (.pure true 0 (.pure true 1 (.pure true 2 (.pure true 3 (.pure false 4 (.pure true 5 (.pure true 6 (.pure true 7 (.pure false 8 (.eff 9 (.pure true 10 .fin) .stop)))))))))) mixed (by kernel_rfl) (fun w2 hx1=>?_)
     have k3:=K0_i1.tr hx1
     have o12:=o11.ext hx1
     refine Zn rfl<|Zn rfl<|Zn rfl<|?_
     have hz:=bs hB3; obtain ⟨x7,Ex7,hB3⟩:=hz
     have hz:=(RV.els o12.rv).ix Ex7; obtain ⟨b6,f1,cs6,e1,i2,i3,q6,hc1⟩:=hz
     cases e1
     obtain ⟨_,_,rfl,⟨_,_,rfl,rfl,rfl⟩,rfl⟩:=q6
     have i4:(w64 x6)<(x0.length:Int):=by rw [(RV.cap o12.rv).1]; exact i3
     refine Zp rfl (fun _=>xixs l0_i1 rfl Tryz.underlying298 ti302 i2 i4)<|Zq rfl (fun _ hS=>xlda rfl ti302 rfl (hc1.ext (hS.resolve_left nofun))) (Ext.refl _)<|Zn rfl<|Zn rfl<|?_
     have hz:=bs hB3; obtain ⟨x8,Ex8,hB3⟩:=hz
     have hz:=ix2 o12.rv Ex8; obtain ⟨cs7,i5,i6,q7,hc2⟩:=hz
     obtain ⟨_,_,rfl,⟨_,_,rfl,rfl,rfl⟩,rfl⟩:=q7
     have i7:x1<(x0.length:Int):=by rw [(RV.cap o12.rv).1]; exact i6
     refine Zp rfl (fun _=>xixs l0_i1 l1_i1 Tryz.underlying298 ti302 i5 i7)<|Zq rfl (fun _ hS=>xlda rfl ti302 rfl (hc2.ext (hS.resolve_left nofun))) (Ext.refl _)<|?_
     have hz:=bs hB3; obtain ⟨x9,Ex9,hB3⟩:=hz
     refine pe1 rfl<|Zc (xcv l4_i1 cb204 (mc rfl (mc rfl mn)) rfl) (c204 (show RV (α:=((Int×Int)×Int)) _ (.agg [.int .i64 x7.1.1,.int .i64 x7.1.2,.int .i64 x7.2].toArray) ((x7.1.1,x7.1.2),x7.2) from ⟨_,rfl,⟨[.int .i64 x7.1.1]++[.int .i64 x7.1.2],[.int .i64 x7.2],rfl,⟨[.int .i64 x7.1.1],[.int .i64 x7.1.2],rfl,rfl,rfl⟩,rfl⟩⟩) (show RV (α:=((Int×Int)×Int)) _ (.agg [.int .i64 x8.1.1,.int .i64 x8.1.2,.int .i64 x8.2].toArray) ((x8.1.1,x8.1.2),x8.2) from ⟨_,rfl,⟨[.int .i64 x8.1.1]++[.int .i64 x8.1.2],[.int .i64 x8.2],rfl,⟨[.int .i64 x8.1.1],[.int .i64 x8.1.2],rfl,rfl,rfl⟩,rfl⟩⟩) Ex9) ?_
     rintro _ w3 ⟨rfl,hx2⟩
     have k5:=k3.tr hx2
     have k6:=hx1.tr hx2
     refine nl ⟨fun _ _=>hx2,?_⟩
     refine Zp rfl (fun _=>xlss rfl rfl)<|?_
     have hz:=bs hB3; obtain ⟨⟨y5,y6⟩,hB4,hB3⟩:=hz
     refine ct (fun L w=>L 10=.int .i64 y5∧L 11=.int .i64 y6∧L 0=.slice (some ⟨b6,f1,none⟩) x0.length cq1∧L 1=.int .i64 x1∧L 4=.func (.func 204) [].toArray [].toArray∧wi.heap.size≤w.heap.size∧Ext w3 w) ?_ ?_
     ·
      refine cnd rfl (fun h8=>?_) (fun h8=>?_)
      ·
       have hB4:=ifp hB4 h8
       refine rg<|Zm<|Zv (xadd rfl rfl)<|Za<|nl<|?_
       cases hB4
       refine lf<|?_
       exact ⟨rfl,l11_i1,l0_i1,l1_i1,l4_i1,k5.size,(Ext.refl _)⟩
      ·
       have hB4:=ifn hB4 h8
       refine rg<|Zm<|Za<|nl<|?_
       cases hB4
       refine lf<|?_
       exact ⟨l10_i1,rfl,l0_i1,l1_i1,l4_i1,k5.size,(Ext.refl _)⟩
     rintro L w4 ⟨l10_j1,l11_j1,l0_j1,l1_j1,l4_j1,Z0_j1,K0_j1⟩
     have k9:=k6.tr K0_j1
     cases hB3
     refine lf<|?_
     exact ⟨l10_j1,l11_j1,l0_j1,l1_j1,l4_j1,Z0_j1,k9⟩
    rintro L w5 ⟨l10_j2,l11_j2,l0_j2,l1_j2,l4_j2,Z0_j2,K0_j2⟩
    have k12:=K0_i1.tr K0_j2
    refine lq m (Nat.lt_succ_self _)<|?_
    exact ⟨_,_,hB1,l10_j2,l11_j2,l0_j2,l1_j2,l4_j2,k12⟩
   ·
    have hB1:=ifn hB1 h7
    refine wp_exit<|?_
    cases hB1
    refine lf<|?_
    exact ⟨l10_i1,l0_i1,l1_i1,K0_i1⟩
  rintro L w6 ⟨l10_j3,l0_j3,l1_j3,K0_j3⟩
  have k13:=hk.tr K0_j3
  have o16:=o0.ext K0_j3
  refine wp_seq<|Zr<|Zm<|Za<|nl<|?_
  have hz:=bs hF; obtain ⟨z2,hB8,hF⟩:=hz
  refine ct (fun L w=>L 0=(.slice a1 x0.length cq1)∧Row 302 w0.heap.size w (.slice a1 x0.length cq1) z2∧wi.heap.size≤w.heap.size∧Ext w0 w) ?_ ?_
  ·
   refine wp_block<|lp (I:=fun m L w=>∃ y7:(List ((Int×Int)×Int)),∃ y8:Int,slices_symMergeCmpFunc__scale_tone_l2 F z1 m y7 y8 =some z2∧L 0=(.slice a1 x0.length cq1)∧Row 302 w0.heap.size w (.slice a1 x0.length cq1) y7∧L 13=.int .i64 y8∧L 10=.int .i64 z1∧wi.heap.size≤w.heap.size∧Ext w0 w) F ⟨_,_,hB8,l0_j3,o16,l1_j3,l10_j3,K0_j3.size,k13⟩ ?_
   rintro m L w7 ⟨y7,y8,hB8,l0_i8,O0_i8,l13_i8,l10_i8,Z0_i8,K0_i8⟩
   rcases m with _ | m
   ·rw [slices_symMergeCmpFunc__scale_tone_l2] at hB8; cases hB8
   rw [slices_symMergeCmpFunc__scale_tone_l2] at hB8
   refine wp_seq<|Zr<|Zm<|Zm<|Zv (xsub l10_i8 rfl)<|Zv (xlss l13_i8 rfl)<|nl<|cnd rfl (fun h9=>?_) (fun h9=>?_)
   ·
    have hB8:=ifp hB8 h9
    refine wp_skip<|wp_seq<|wp_block<|wpl [15,17] (.pure true 0 (.pure true 1 (.pure true 2 (.pure true 3 (.pure true 4 (.pure true 5 (.pure true 6 (.pure true 7 (.pure true 8 (.pure false 9 (.pure true 10 (.pure true 11 (.pure true 12 (.pure false 13 (.pure true 14 (.eff 15 (.pure true 16 (.eff 17 .fin .stop)) .stop)))))))))))))))) mixed (by kernel_rfl) (fun w8 hx3=>?_)
    have k14:=K0_i8.tr hx3
    have zs1:=Nat.le_trans Z0_i8 hx3.size
    have O1:=O0_i8.ext hx3
    refine Zn rfl<|Zn rfl<|Zn rfl<|Zn rfl<|Zp rfl (fun _=>xadd l13_i8 rfl)<|Zn rfl<|Zn rfl<|Zp rfl (fun _=>xadd l13_i8 rfl)<|?_
    have hz:=bs hB8; obtain ⟨x10,Ex10,hB8⟩:=hz
    have hz:=(RV.els O1.rv).ix Ex10; obtain ⟨b7,f2,cs8,e2,i9,i10,q8,hc3⟩:=hz
    cases e2
    obtain ⟨_,_,rfl,⟨_,_,rfl,rfl,rfl⟩,rfl⟩:=q8
    have i11:(w64 (y8 + 1))<(x0.length:Int):=by rw [(RV.cap O1.rv).1]; exact i10
    refine Zp rfl (fun _=>xixs l0_i8 rfl Tryz.underlying298 ti302 i9 i11)<|Zq rfl (fun _ hS=>xlda rfl ti302 rfl (hc3.ext (hS.resolve_left nofun))) (Ext.refl _)<|Zn rfl<|Zn rfl<|?_
    have hz:=bs hB8; obtain ⟨x11,Ex11,hB8⟩:=hz
    have hz:=ix2 O1.rv Ex11; obtain ⟨cs9,i12,i13,q9,hc4⟩:=hz
    obtain ⟨_,_,rfl,⟨_,_,rfl,rfl,rfl⟩,rfl⟩:=q9
    have i14:y8<(x0.length:Int):=by rw [(RV.cap O1.rv).1]; exact i13
    refine Zp rfl (fun _=>xixs l0_i8 l13_i8 Tryz.underlying298 ti302 i12 i14)<|Zq rfl (fun _ hS=>xlda rfl ti302 rfl (hc4.ext (hS.resolve_left nofun))) (Ext.refl _)<|?_
    have hz:=bs hB8; obtain ⟨x12,Ex12,hB8⟩:=hz
    have hz:=ix2 O1.rv Ex12; obtain ⟨cs10,i15,i16,q10,hc5⟩:=hz
    obtain ⟨_,_,rfl,⟨_,_,rfl,rfl,rfl⟩,rfl⟩:=q10
    have i17:y8<(x0.length:Int):=by rw [(RV.cap O1.rv).1]; exact i16
    refine Zp rfl (fun _=>xixs l0_i8 l13_i8 Tryz.underlying298 ti302 i15 i17)<|pe1 rfl<|sstr (l:=y7) (v:=((x10.1.1,x10.1.2),x10.2)) rfl rfl rfl ti302 O1 Ex12 fun w9 hch1 o18=>?_
    have k15:=Ext.chg k14 hch1 (Nat.le_trans (Nat.le_refl _) (Row.ge O1))
    have zs2:=Nat.le_trans zs1 (Nat.le_of_eq hch1.size.symm)
    refine nl ⟨fun h=>(h (by decide)).elim,?_⟩
    have hz:=bs hB8; obtain ⟨x13,Ex13,hB8⟩:=hz
    have hz:=ix2 o18.rv Ex13; obtain ⟨cs11,i18,i19,q11,hc6⟩:=hz
    obtain ⟨_,_,rfl,⟨_,_,rfl,rfl,rfl⟩,rfl⟩:=q11
    have i20:(w64 (y8 + 1))<(x0.length:Int):=by rw [(RV.cap o18.rv).1]; exact i19
    refine Zp rfl (fun _=>xixs l0_i8 rfl Tryz.underlying298 ti302 i18 i20)<|pe1 rfl<|sstr (l:=(rset y7 y8 ((x10.1.1,x10.1.2),x10.2))) (v:=((x11.1.1,x11.1.2),x11.2)) rfl rfl rfl ti302 o18 Ex13 fun w10 hch2 o19=>?_
    have k16:=Ext.chg k15 hch2 (Nat.le_trans (Nat.le_refl _) (Row.ge o18))
    have zs3:=Nat.le_trans zs2 (Nat.le_of_eq hch2.size.symm)
    refine nl ⟨fun h=>(h (by decide)).elim,?_⟩
    refine rg<|Zm<|Zv (xadd l13_i8 rfl)<|Za<|nl<|?_
    refine lq m (Nat.lt_succ_self _)<|?_
    exact ⟨_,_,hB8,l0_i8,o19,rfl,l10_i8,zs3,k16⟩
   ·
    have hB8:=ifn hB8 h9
    refine wp_exit<|?_
    cases hB8
    refine lf<|?_
    exact ⟨l0_i8,O0_i8,Z0_i8,K0_i8⟩
  rintro L w11 ⟨l0_j4,O0_j4,Z0_j4,K0_j4⟩
  cases hF
  exact wp_ret<|rt rfl .nil ⟨rfl,O0_j4,K0_j4,Z0_j4⟩
 ·
  have hF:=ifn hF h6
  refine wp_skip<|wp_seq<|Zr<|Zm<|Zm<|Zv (xsub rfl rfl)<|Zv (xeql rfl rfl)<|nl<|cnd rfl (fun h10=>?_) (fun h10=>?_)
  ·
   have hF:=ifp hF h10
   refine Zr<|Zm<|Za<|nl<|Zr<|Zm<|Za<|nl<|wp_seq<|?_
   have hz:=bs hF; obtain ⟨z3,hB11,hF⟩:=hz
   refine ct (fun L w=>L 14=.int .i64 z3∧L 0=.slice a1 x0.length cq1∧L 2=.int .i64 x2∧Ext wi w) ?_ ?_
   ·
    refine wp_block<|lp (I:=fun m L w=>∃ y9:Int,∃ y10:Int,slices_symMergeCmpFunc__scale_tone_l3 F x0 x2 m y9 y10 =some z3∧L 14=.int .i64 y9∧L 15=.int .i64 y10∧L 0=.slice a1 x0.length cq1∧L 2=.int .i64 x2∧L 4=.func (.func 204) [].toArray [].toArray∧Ext wi w) F ⟨_,_,hB11,rfl,rfl,rfl,rfl,rfl,(Ext.refl _)⟩ ?_
    rintro m L w12 ⟨y9,y10,hB11,l14_i21,l15_i21,l0_i21,l2_i21,l4_i21,K0_i21⟩
    rcases m with _ | m
    ·rw [slices_symMergeCmpFunc__scale_tone_l3] at hB11; cases hB11
    rw [slices_symMergeCmpFunc__scale_tone_l3] at hB11
    have o21:=o0.ext K0_i21
    refine wp_seq<|Zr<|Zm<|Zm<|Zv (xlss l14_i21 l15_i21)<|nl<|cnd rfl (fun h11=>?_) (fun h11=>?_)
    ·
     have hB11:=ifp hB11 h11
     refine wp_skip<|?_
     have hz:=bs hB11; obtain ⟨⟨y11,y12⟩,hB13,hB11⟩:=hz
     refine ct (fun L w=>L 14=.int .i64 y11∧L 15=.int .i64 y12∧L 0=.slice a1 x0.length cq1∧L 2=.int .i64 x2∧L 4=.func (.func 204) [].toArray [].toArray∧wi.heap.size≤w.heap.size∧Ext w12 w) ?_ ?_
     ·
      refine wp_block<|Zr<|Zm<|Zm<|Zv (xadd l14_i21 l15_i21)<|Zv (xcvt rfl Tryz.underlying3 Tryz.underlying310)<|?_
      have hz:=bs hB13; obtain ⟨x14,Ex14,hB13⟩:=hz
      refine Zv (xshr rfl rfl Ex14)<|Zv (xcvt rfl Tryz.underlying310 Tryz.underlying3)<|Za<|nl<|wp_seq<|wpl [] (.pure true 0 (.pure true 1 (.pure true 2 (.pure true 3 (.pure false 4 (.pure true 5 (.pure true 6 (.pure true 7 (.pure false 8 (.eff 9 (.pure true 10 (.pure true 11 .fin)) .stop)))))))))) mixed (by kernel_rfl) (fun w13 hx4=>?_)
      have k19:=K0_i21.tr hx4
      have o22:=o21.ext hx4
      refine Zn rfl<|Zn rfl<|Zn rfl<|?_
      have hz:=bs hB13; obtain ⟨x15,Ex15,hB13⟩:=hz
      have hz:=(RV.els o22.rv).ix Ex15; obtain ⟨b8,f3,cs12,e3,i22,i23,q12,hc7⟩:=hz
      cases e3
      obtain ⟨_,_,rfl,⟨_,_,rfl,rfl,rfl⟩,rfl⟩:=q12
      have i24:x2<(x0.length:Int):=by rw [(RV.cap o22.rv).1]; exact i23
      refine Zp rfl (fun _=>xixs l0_i21 l2_i21 Tryz.underlying298 ti302 i22 i24)<|Zq rfl (fun _ hS=>xlda rfl ti302 rfl (hc7.ext (hS.resolve_left nofun))) (Ext.refl _)<|Zn rfl<|Zn rfl<|?_
      have hz:=bs hB13; obtain ⟨x16,Ex16,hB13⟩:=hz
      have hz:=ix2 o22.rv Ex16; obtain ⟨cs13,i25,i26,q13,hc8⟩:=hz
      obtain ⟨_,_,rfl,⟨_,_,rfl,rfl,rfl⟩,rfl⟩:=q13
      have i27:(w64 x14)<(x0.length:Int):=by rw [(RV.cap o22.rv).1]; exact i26
      refine Zp rfl (fun _=>xixs l0_i21 rfl Tryz.underlying298 ti302 i25 i27)<|Zq rfl (fun _ hS=>xlda rfl ti302 rfl (hc8.ext (hS.resolve_left nofun))) (Ext.refl _)<|?_
      have hz:=bs hB13; obtain ⟨x17,Ex17,hB13⟩:=hz
      refine pe1 rfl<|Zc (xcv l4_i21 cb204 (mc rfl (mc rfl mn)) rfl) (c204 (show RV (α:=((Int×Int)×Int)) _ (.agg [.int .i64 x15.1.1,.int .i64 x15.1.2,.int .i64 x15.2].toArray) ((x15.1.1,x15.1.2),x15.2) from ⟨_,rfl,⟨[.int .i64 x15.1.1]++[.int .i64 x15.1.2],[.int .i64 x15.2],rfl,⟨[.int .i64 x15.1.1],[.int .i64 x15.1.2],rfl,rfl,rfl⟩,rfl⟩⟩) (show RV (α:=((Int×Int)×Int)) _ (.agg [.int .i64 x16.1.1,.int .i64 x16.1.2,.int .i64 x16.2].toArray) ((x16.1.1,x16.1.2),x16.2) from ⟨_,rfl,⟨[.int .i64 x16.1.1]++[.int .i64 x16.1.2],[.int .i64 x16.2],rfl,⟨[.int .i64 x16.1.1],[.int .i64 x16.1.2],rfl,rfl,rfl⟩,rfl⟩⟩) Ex17) ?_
      rintro _ w14 ⟨rfl,hx5⟩
      have k21:=k19.tr hx5
      have k22:=hx4.tr hx5
      refine nl ⟨fun _ _=>hx5,?_⟩
      refine Zp rfl (fun _=>xlss rfl rfl)<|Zp rfl (fun _=>xnot rfl)<|?_
      have hz:=bs hB13; obtain ⟨⟨y13,y14⟩,hB14,hB13⟩:=hz
      refine ct (fun L w=>L 14=.int .i64 y13∧L 15=.int .i64 y14∧L 0=.slice (some ⟨b8,f3,none⟩) x0.length cq1∧L 2=.int .i64 x2∧L 4=.func (.func 204) [].toArray [].toArray∧wi.heap.size≤w.heap.size∧Ext w14 w) ?_ ?_
      ·
       refine cnd rfl (fun h12=>?_) (fun h12=>?_)
       ·
        have hB14:=ifp hB14 h12
        refine rg<|Zm<|Zv (xadd rfl rfl)<|Za<|nl<|?_
        cases hB14
        refine lf<|?_
        exact ⟨rfl,l15_i21,l0_i21,l2_i21,l4_i21,k21.size,(Ext.refl _)⟩
       ·
        have hB14:=ifn hB14 h12
        refine rg<|Zm<|Za<|nl<|?_
        cases hB14
        refine lf<|?_
        exact ⟨l14_i21,rfl,l0_i21,l2_i21,l4_i21,k21.size,(Ext.refl _)⟩
      rintro L w15 ⟨l14_j5,l15_j5,l0_j5,l2_j5,l4_j5,Z0_j5,K0_j5⟩
      have k25:=k22.tr K0_j5
      cases hB13
      refine lf<|?_
      exact ⟨l14_j5,l15_j5,l0_j5,l2_j5,l4_j5,Z0_j5,k25⟩
     rintro L w16 ⟨l14_j6,l15_j6,l0_j6,l2_j6,l4_j6,Z0_j6,K0_j6⟩
     have k28:=K0_i21.tr K0_j6
     refine lq m (Nat.lt_succ_self _)<|?_
     exact ⟨_,_,hB11,l14_j6,l15_j6,l0_j6,l2_j6,l4_j6,k28⟩
    ·
     have hB11:=ifn hB11 h11
     refine wp_exit<|?_
     cases hB11
     refine lf<|?_
     exact ⟨l14_i21,l0_i21,l2_i21,K0_i21⟩
   rintro L w17 ⟨l14_j7,l0_j7,l2_j7,K0_j7⟩
   have k29:=hk.tr K0_j7
   have o26:=o0.ext K0_j7
   refine wp_seq<|Zr<|Zm<|Za<|nl<|?_
   have hz:=bs hF; obtain ⟨z4,hB18,hF⟩:=hz
   refine ct (fun L w=>L 0=(.slice a1 x0.length cq1)∧Row 302 w0.heap.size w (.slice a1 x0.length cq1) z4∧wi.heap.size≤w.heap.size∧Ext w0 w) ?_ ?_
   ·
    refine wp_block<|lp (I:=fun m L w=>∃ y15:(List ((Int×Int)×Int)),∃ y16:Int,slices_symMergeCmpFunc__scale_tone_l4 F z3 m y15 y16 =some z4∧L 0=(.slice a1 x0.length cq1)∧Row 302 w0.heap.size w (.slice a1 x0.length cq1) y15∧L 17=.int .i64 y16∧L 14=.int .i64 z3∧wi.heap.size≤w.heap.size∧Ext w0 w) F ⟨_,_,hB18,l0_j7,o26,l2_j7,l14_j7,K0_j7.size,k29⟩ ?_
    rintro m L w18 ⟨y15,y16,hB18,l0_i28,O0_i28,l17_i28,l14_i28,Z0_i28,K0_i28⟩
    rcases m with _ | m
    ·rw [slices_symMergeCmpFunc__scale_tone_l4] at hB18; cases hB18
    rw [slices_symMergeCmpFunc__scale_tone_l4] at hB18
    refine wp_seq<|Zr<|Zm<|Zm<|Zv (xgtr l17_i28 l14_i28)<|nl<|cnd rfl (fun h13=>?_) (fun h13=>?_)
    ·
     have hB18:=ifp hB18 h13
     refine wp_skip<|wp_seq<|wp_block<|wpl [15,17] (.pure true 0 (.pure true 1 (.pure true 2 (.pure true 3 (.pure true 4 (.pure true 5 (.pure true 6 (.pure true 7 (.pure true 8 (.pure false 9 (.pure true 10 (.pure true 11 (.pure true 12 (.pure false 13 (.pure true 14 (.eff 15 (.pure true 16 (.eff 17 .fin .stop)) .stop)))))))))))))))) mixed (by kernel_rfl) (fun w19 hx6=>?_)
     have k30:=K0_i28.tr hx6
     have zs4:=Nat.le_trans Z0_i28 hx6.size
     have O2:=O0_i28.ext hx6
     refine Zn rfl<|Zn rfl<|Zn rfl<|Zn rfl<|Zp rfl (fun _=>xsub l17_i28 rfl)<|Zn rfl<|Zn rfl<|Zp rfl (fun _=>xsub l17_i28 rfl)<|?_
     have hz:=bs hB18; obtain ⟨x18,Ex18,hB18⟩:=hz
     have hz:=(RV.els O2.rv).ix Ex18; obtain ⟨b9,f4,cs14,e4,i29,i30,q14,hc9⟩:=hz
     cases e4
     obtain ⟨_,_,rfl,⟨_,_,rfl,rfl,rfl⟩,rfl⟩:=q14
     have i31:(w64 (y16 - 1))<(x0.length:Int):=by rw [(RV.cap O2.rv).1]; exact i30
     refine Zp rfl (fun _=>xixs l0_i28 rfl Tryz.underlying298 ti302 i29 i31)<|Zq rfl (fun _ hS=>xlda rfl ti302 rfl (hc9.ext (hS.resolve_left nofun))) (Ext.refl _)<|Zn rfl<|Zn rfl<|?_
     have hz:=bs hB18; obtain ⟨x19,Ex19,hB18⟩:=hz
     have hz:=ix2 O2.rv Ex19; obtain ⟨cs15,i32,i33,q15,hc10⟩:=hz
     obtain ⟨_,_,rfl,⟨_,_,rfl,rfl,rfl⟩,rfl⟩:=q15
     have i34:y16<(x0.length:Int):=by rw [(RV.cap O2.rv).1]; exact i33
     refine Zp rfl (fun _=>xixs l0_i28 l17_i28 Tryz.underlying298 ti302 i32 i34)<|Zq rfl (fun _ hS=>xlda rfl ti302 rfl (hc10.ext (hS.resolve_left nofun))) (Ext.refl _)<|?_
     have hz:=bs hB18; obtain ⟨x20,Ex20,hB18⟩:=hz
     have hz:=ix2 O2.rv Ex20; obtain ⟨cs16,i35,i36,q16,hc11⟩:=hz
     obtain ⟨_,_,rfl,⟨_,_,rfl,rfl,rfl⟩,rfl⟩:=q16
     have i37:y16<(x0.length:Int):=by rw [(RV.cap O2.rv).1]; exact i36
     refine Zp rfl (fun _=>xixs l0_i28 l17_i28 Tryz.underlying298 ti302 i35 i37)<|pe1 rfl<|sstr (l:=y15) (v:=((x18.1.1,x18.1.2),x18.2)) rfl rfl rfl ti302 O2 Ex20 fun w20 hch3 o28=>?_
     have k31:=Ext.chg k30 hch3 (Nat.le_trans (Nat.le_refl _) (Row.ge O2))
     have zs5:=Nat.le_trans zs4 (Nat.le_of_eq hch3.size.symm)
     refine nl ⟨fun h=>(h (by decide)).elim,?_⟩
     have hz:=bs hB18; obtain ⟨x21,Ex21,hB18⟩:=hz
     have hz:=ix2 o28.rv Ex21; obtain ⟨cs17,i38,i39,q17,hc12⟩:=hz
     obtain ⟨_,_,rfl,⟨_,_,rfl,rfl,rfl⟩,rfl⟩:=q17
     have i40:(w64 (y16 - 1))<(x0.length:Int):=by rw [(RV.cap o28.rv).1]; exact i39
     refine Zp rfl (fun _=>xixs l0_i28 rfl Tryz.underlying298 ti302 i38 i40)<|pe1 rfl<|sstr (l:=(rset y15 y16 ((x18.1.1,x18.1.2),x18.2))) (v:=((x19.1.1,x19.1.2),x19.2)) rfl rfl rfl ti302 o28 Ex21 fun w21 hch4 o29=>?_
     have k32:=Ext.chg k31 hch4 (Nat.le_trans (Nat.le_refl _) (Row.ge o28))
     have zs6:=Nat.le_trans zs5 (Nat.le_of_eq hch4.size.symm)
     refine nl ⟨fun h=>(h (by decide)).elim,?_⟩
     refine rg<|Zm<|Zv (xsub l17_i28 rfl)<|Za<|nl<|?_
     refine lq m (Nat.lt_succ_self _)<|?_
     exact ⟨_,_,hB18,l0_i28,o29,rfl,l14_i28,zs6,k32⟩
    ·
     have hB18:=ifn hB18 h13
     refine wp_exit<|?_
     cases hB18
     refine lf<|?_
     exact ⟨l0_i28,O0_i28,Z0_i28,K0_i28⟩
   rintro L w22 ⟨l0_j8,O0_j8,Z0_j8,K0_j8⟩
   cases hF
   exact wp_ret<|rt rfl .nil ⟨rfl,O0_j8,K0_j8,Z0_j8⟩
  ·
   have hF:=ifn hF h10
   refine wp_skip<|Zr<|Zm<|Zm<|Zv (xadd rfl rfl)<|Zv (xcvt rfl Tryz.underlying3 Tryz.underlying310)<|?_
   have hz:=bs hF; obtain ⟨x22,Ex22,hF⟩:=hz
   refine Zv (xshr rfl rfl Ex22)<|Zv (xcvt rfl Tryz.underlying310 Tryz.underlying3)<|Za<|nl<|Zr<|Zm<|Zm<|Zv (xadd rfl rfl)<|Za<|nl<|Zr<|Za<|Za<|nl<|wp_seq<|Zr<|Zm<|Zm<|Zv (xgtr rfl rfl)<|nl<|?_
   have hz:=bs hF; obtain ⟨⟨y17,y18⟩,hB21,hF⟩:=hz
   refine ct (fun L w=>L 20=.int .i64 y17∧L 21=.int .i64 y18∧L 0=.slice a1 x0.length cq1∧L 1=.int .i64 x1∧L 2=.int .i64 x2∧L 3=.int .i64 x3∧L 4=.func (.func 204) [].toArray [].toArray∧L 18=.int .i64 (w64 x22)∧L 19=.int .i64 (w64 ((w64 x22) + x2))∧Ext wi w) ?_ ?_
   ·
    refine cnd rfl (fun h14=>?_) (fun h14=>?_)
    ·
     have hB21:=ifp hB21 h14
     refine Zr<|Zm<|Zm<|Zv (xsub rfl rfl)<|Za<|nl<|rg<|Zm<|Za<|nl<|?_
     cases hB21
     refine lf<|?_
     exact ⟨rfl,rfl,rfl,rfl,rfl,rfl,rfl,rfl,rfl,(Ext.refl _)⟩
    ·
     have hB21:=ifn hB21 h14
     refine Zr<|Zm<|Za<|nl<|rg<|Zm<|Za<|nl<|?_
     cases hB21
     refine lf<|?_
     exact ⟨rfl,rfl,rfl,rfl,rfl,rfl,rfl,rfl,rfl,(Ext.refl _)⟩
   rintro L w23 ⟨l20_j9,l21_j9,l0_j9,l1_j9,l2_j9,l3_j9,l4_j9,l18_j9,l19_j9,K0_j9⟩
   have k33:=hk.tr K0_j9
   have o30:=o0.ext K0_j9
   refine Zr<|Zm<|Zv (xsub l19_j9 rfl)<|Za<|nl<|wp_seq<|?_
   have hz:=bs hF; obtain ⟨z5,hB24,hF⟩:=hz
   refine ct (fun L w=>L 20=.int .i64 z5∧L 0=.slice a1 x0.length cq1∧L 1=.int .i64 x1∧L 2=.int .i64 x2∧L 3=.int .i64 x3∧L 4=.func (.func 204) [].toArray [].toArray∧L 18=.int .i64 (w64 x22)∧L 19=.int .i64 (w64 ((w64 x22) + x2))∧wi.heap.size≤w.heap.size∧Ext w23 w) ?_ ?_
   ·
    refine wp_block<|lp (I:=fun m L w=>∃ y19:Int,∃ y20:Int,slices_symMergeCmpFunc__scale_tone_l5 F x0 x2 x22 m y19 y20 =some z5∧L 20=.int .i64 y19∧L 21=.int .i64 y20∧L 0=.slice a1 x0.length cq1∧L 1=.int .i64 x1∧L 2=.int .i64 x2∧L 3=.int .i64 x3∧L 4=.func (.func 204) [].toArray [].toArray∧L 18=.int .i64 (w64 x22)∧L 19=.int .i64 (w64 ((w64 x22) + x2))∧L 22=.int .i64 (w64 ((w64 ((w64 x22) + x2)) - 1))∧wi.heap.size≤w.heap.size∧Ext w23 w) F ⟨_,_,hB24,l20_j9,l21_j9,l0_j9,l1_j9,l2_j9,l3_j9,l4_j9,l18_j9,l19_j9,rfl,K0_j9.size,(Ext.refl _)⟩ ?_
    rintro m L w24 ⟨y19,y20,hB24,l20_i41,l21_i41,l0_i41,l1_i41,l2_i41,l3_i41,l4_i41,l18_i41,l19_i41,l22_i41,Z0_i41,K0_i41⟩
    rcases m with _ | m
    ·rw [slices_symMergeCmpFunc__scale_tone_l5] at hB24; cases hB24
    rw [slices_symMergeCmpFunc__scale_tone_l5] at hB24
    have o32:=o30.ext K0_i41
    refine wp_seq<|Zr<|Zm<|Zm<|Zv (xlss l20_i41 l21_i41)<|nl<|cnd rfl (fun h15=>?_) (fun h15=>?_)
    ·
     have hB24:=ifp hB24 h15
     refine wp_skip<|?_
     have hz:=bs hB24; obtain ⟨⟨y21,y22⟩,hB26,hB24⟩:=hz
     refine ct (fun L w=>L 20=.int .i64 y21∧L 21=.int .i64 y22∧L 0=.slice a1 x0.length cq1∧L 1=.int .i64 x1∧L 2=.int .i64 x2∧L 3=.int .i64 x3∧L 4=.func (.func 204) [].toArray [].toArray∧L 18=.int .i64 (w64 x22)∧L 19=.int .i64 (w64 ((w64 x22) + x2))∧L 22=.int .i64 (w64 ((w64 ((w64 x22) + x2)) - 1))∧wi.heap.size≤w.heap.size∧Ext w24 w) ?_ ?_
     ·
      refine wp_block<|Zr<|Zm<|Zm<|Zv (xadd l20_i41 l21_i41)<|Zv (xcvt rfl Tryz.underlying3 Tryz.underlying310)<|?_
      have hz:=bs hB26; obtain ⟨x23,Ex23,hB26⟩:=hz
      refine Zv (xshr rfl rfl Ex23)<|Zv (xcvt rfl Tryz.underlying310 Tryz.underlying3)<|Za<|nl<|wp_seq<|wpl [] (.pure true 0 (.pure true 1 (.pure true 2 (.pure true 3 (.pure true 4 (.pure true 5 (.pure false 6 (.pure true 7 (.pure true 8 (.pure true 9 (.pure false 10 (.eff 11 (.pure true 12 (.pure true 13 .fin)) .stop)))))))))))) mixed (by kernel_rfl) (fun w25 hx7=>?_)
      have zs7:=Nat.le_trans Z0_i41 hx7.size
      have o33:=o32.ext hx7
      refine Zn rfl<|Zn rfl<|Zn rfl<|Zn rfl<|Zp rfl (fun _=>xsub l22_i41 rfl)<|?_
      have hz:=bs hB26; obtain ⟨x24,Ex24,hB26⟩:=hz
      have hz:=(RV.els o33.rv).ix Ex24; obtain ⟨b10,f5,cs18,e5,i42,i43,q18,hc13⟩:=hz
      cases e5
      obtain ⟨_,_,rfl,⟨_,_,rfl,rfl,rfl⟩,rfl⟩:=q18
      have i44:(w64 ((w64 ((w64 ((w64 x22) + x2)) - 1)) - (w64 x23)))<(x0.length:Int):=by rw [(RV.cap o33.rv).1]; exact i43
      refine Zp rfl (fun _=>xixs l0_i41 rfl Tryz.underlying298 ti302 i42 i44)<|Zq rfl (fun _ hS=>xlda rfl ti302 rfl (hc13.ext (hS.resolve_left nofun))) (Ext.refl _)<|Zn rfl<|Zn rfl<|?_
      have hz:=bs hB26; obtain ⟨x25,Ex25,hB26⟩:=hz
      have hz:=ix2 o33.rv Ex25; obtain ⟨cs19,i45,i46,q19,hc14⟩:=hz
      obtain ⟨_,_,rfl,⟨_,_,rfl,rfl,rfl⟩,rfl⟩:=q19
      have i47:(w64 x23)<(x0.length:Int):=by rw [(RV.cap o33.rv).1]; exact i46
      refine Zp rfl (fun _=>xixs l0_i41 rfl Tryz.underlying298 ti302 i45 i47)<|Zq rfl (fun _ hS=>xlda rfl ti302 rfl (hc14.ext (hS.resolve_left nofun))) (Ext.refl _)<|?_
      have hz:=bs hB26; obtain ⟨x26,Ex26,hB26⟩:=hz
      refine pe1 rfl<|Zc (xcv l4_i41 cb204 (mc rfl (mc rfl mn)) rfl) (c204 (show RV (α:=((Int×Int)×Int)) _ (.agg [.int .i64 x24.1.1,.int .i64 x24.1.2,.int .i64 x24.2].toArray) ((x24.1.1,x24.1.2),x24.2) from ⟨_,rfl,⟨[.int .i64 x24.1.1]++[.int .i64 x24.1.2],[.int .i64 x24.2],rfl,⟨[.int .i64 x24.1.1],[.int .i64 x24.1.2],rfl,rfl,rfl⟩,rfl⟩⟩) (show RV (α:=((Int×Int)×Int)) _ (.agg [.int .i64 x25.1.1,.int .i64 x25.1.2,.int .i64 x25.2].toArray) ((x25.1.1,x25.1.2),x25.2) from ⟨_,rfl,⟨[.int .i64 x25.1.1]++[.int .i64 x25.1.2],[.int .i64 x25.2],rfl,⟨[.int .i64 x25.1.1],[.int .i64 x25.1.2],rfl,rfl,rfl⟩,rfl⟩⟩) Ex26) ?_
      rintro _ w26 ⟨rfl,hx8⟩
      have k42:=hx7.tr hx8
      have zs8:=Nat.le_trans zs7 hx8.size
      refine nl ⟨fun _ _=>hx8,?_⟩
      refine Zp rfl (fun _=>xlss rfl rfl)<|Zp rfl (fun _=>xnot rfl)<|?_
      have hz:=bs hB26; obtain ⟨⟨y23,y24⟩,hB27,hB26⟩:=hz
      refine ct (fun L w=>L 20=.int .i64 y23∧L 21=.int .i64 y24∧L 0=.slice (some ⟨b10,f5,none⟩) x0.length cq1∧L 1=.int .i64 x1∧L 2=.int .i64 x2∧L 3=.int .i64 x3∧L 4=.func (.func 204) [].toArray [].toArray∧L 18=.int .i64 (w64 x22)∧L 19=.int .i64 (w64 ((w64 x22) + x2))∧L 22=.int .i64 (w64 ((w64 ((w64 x22) + x2)) - 1))∧wi.heap.size≤w.heap.size∧Ext w26 w) ?_ ?_
      ·
       refine cnd rfl (fun h16=>?_) (fun h16=>?_)
       ·
        have hB27:=ifp hB27 h16
        refine rg<|Zm<|Zv (xadd rfl rfl)<|Za<|nl<|?_
        cases hB27
        refine lf<|?_
        exact ⟨rfl,l21_i41,l0_i41,l1_i41,l2_i41,l3_i41,l4_i41,l18_i41,l19_i41,l22_i41,zs8,(Ext.refl _)⟩
       ·
        have hB27:=ifn hB27 h16
        refine rg<|Zm<|Za<|nl<|?_
        cases hB27
        refine lf<|?_
        exact ⟨l20_i41,rfl,l0_i41,l1_i41,l2_i41,l3_i41,l4_i41,l18_i41,l19_i41,l22_i41,zs8,(Ext.refl _)⟩
      rintro L w27 ⟨l20_j10,l21_j10,l0_j10,l1_j10,l2_j10,l3_j10,l4_j10,l18_j10,l19_j10,l22_j10,Z0_j10,K0_j10⟩
      have k46:=k42.tr K0_j10
      cases hB26
      refine lf<|?_
      exact ⟨l20_j10,l21_j10,l0_j10,l1_j10,l2_j10,l3_j10,l4_j10,l18_j10,l19_j10,l22_j10,Z0_j10,k46⟩
     rintro L w28 ⟨l20_j11,l21_j11,l0_j11,l1_j11,l2_j11,l3_j11,l4_j11,l18_j11,l19_j11,l22_j11,Z0_j11,K0_j11⟩
     have k50:=K0_i41.tr K0_j11
     refine lq m (Nat.lt_succ_self _)<|?_
     exact ⟨_,_,hB24,l20_j11,l21_j11,l0_j11,l1_j11,l2_j11,l3_j11,l4_j11,l18_j11,l19_j11,l22_j11,Z0_j11,k50⟩
    ·
     have hB24:=ifn hB24 h15
     refine wp_exit<|?_
     cases hB24
     refine lf<|?_
     exact ⟨l20_i41,l0_i41,l1_i41,l2_i41,l3_i41,l4_i41,l18_i41,l19_i41,Z0_i41,K0_i41⟩
   rintro L w29 ⟨l20_j12,l0_j12,l1_j12,l2_j12,l3_j12,l4_j12,l18_j12,l19_j12,Z0_j12,K0_j12⟩
   have k51:=k33.tr K0_j12
   have o37:=o30.ext K0_j12
   refine Zr<|Zm<|Zm<|Zv (xsub l19_j12 l20_j12)<|Za<|nl<|wp_seq<|Zr<|Zm<|Zm<|Zv (xlss l20_j12 l2_j12)<|Zm<|Zg rfl rfl (gw1 rfl) (fun hc=>xmva l2_j12)<|Zg rfl rfl (gw1 rfl) (fun hc=>xmva rfl)<|Zg rfl rfl (gw1 rfl) (fun hc=>xlss (mv hc rfl) (mv hc rfl))<|Zv (xpa rfl rfl rfl)<|nl<|?_
   have hz:=bs hF; obtain ⟨y25,hB31,hF⟩:=hz
   refine ct (fun L w=>L 0=(.slice a1 x0.length cq1)∧Row 302 w0.heap.size w (.slice a1 x0.length cq1) y25∧L 1=.int .i64 x1∧L 3=.int .i64 x3∧L 4=.func (.func 204) [].toArray [].toArray∧L 18=.int .i64 (w64 x22)∧L 20=.int .i64 z5∧L 24=.int .i64 (w64 ((w64 ((w64 x22) + x2)) - z5))∧wi.heap.size≤w.heap.size∧Ext w0 w) ?_ ?_
   ·
    refine cnd rfl (fun h17=>?_) (fun h17=>?_)
    ·
     have hB31:=ifp hB31 h17
     refine rg<|Zm<|Zm<|Zm<|Zm<|Zm<|?_
     have hz:=bs hB31; obtain ⟨x27,Ex27,hB31⟩:=hz
     refine Zc (xc cb345 (mc l0_j12 (mc l20_j12 (mc l2_j12 (mc rfl (mc l4_j12 mn)))))) (c345 k51 o37 Ex27) ?_
     rintro _ w30 ⟨rfl,o38,hx9,hs1⟩
     have Z1:=Nat.le_trans Z0_j12 hs1
     refine nl<|?_
     cases hB31
     refine lf<|?_
     exact ⟨l0_j12,o38,l1_j12,l3_j12,l4_j12,l18_j12,l20_j12,rfl,Z1,hx9⟩
    ·
     have hB31:=ifn hB31 h17
     refine wp_skip<|?_
     cases hB31
     refine lf<|?_
     exact ⟨l0_j12,o37,l1_j12,l3_j12,l4_j12,l18_j12,l20_j12,rfl,Z0_j12,k51⟩
   rintro L w31 ⟨l0_j13,O0_j13,l1_j13,l3_j13,l4_j13,l18_j13,l20_j13,l24_j13,Z0_j13,K0_j13⟩
   refine wp_seq<|Zr<|Zm<|Zm<|Zv (xlss l1_j13 l20_j13)<|Zm<|Zg rfl rfl (gw1 rfl) (fun hc=>xmva l20_j13)<|Zg rfl rfl (gw1 rfl) (fun hc=>xmva l18_j13)<|Zg rfl rfl (gw1 rfl) (fun hc=>xlss (mv hc rfl) (mv hc rfl))<|Zv (xpa rfl rfl rfl)<|nl<|?_
   have hz:=bs hF; obtain ⟨y26,hB34,hF⟩:=hz
   refine ct (fun L w=>L 0=(.slice a1 x0.length cq1)∧Row 302 w0.heap.size w (.slice a1 x0.length cq1) y26∧L 3=.int .i64 x3∧L 4=.func (.func 204) [].toArray [].toArray∧L 18=.int .i64 (w64 x22)∧L 24=.int .i64 (w64 ((w64 ((w64 x22) + x2)) - z5))∧wi.heap.size≤w.heap.size∧Ext w0 w) ?_ ?_
   ·
    refine cnd rfl (fun h18=>?_) (fun h18=>?_)
    ·
     have hB34:=ifp hB34 h18
     refine rg<|Zm<|Zm<|Zm<|Zm<|Zm<|?_
     have hz:=bs hB34; obtain ⟨x28,Ex28,hB34⟩:=hz
     refine Zc (xc cb331 (mc l0_j13 (mc l1_j13 (mc l20_j13 (mc l18_j13 (mc l4_j13 mn)))))) (ih K0_j13 O0_j13 Ex28) ?_
     rintro _ w32 ⟨rfl,o39,hx10,hs2⟩
     have Z2:=Nat.le_trans Z0_j13 hs2
     refine nl<|?_
     cases hB34
     refine lf<|?_
     exact ⟨l0_j13,o39,l3_j13,l4_j13,l18_j13,l24_j13,Z2,hx10⟩
    ·
     have hB34:=ifn hB34 h18
     refine wp_skip<|?_
     cases hB34
     refine lf<|?_
     exact ⟨l0_j13,O0_j13,l3_j13,l4_j13,l18_j13,l24_j13,Z0_j13,K0_j13⟩
   rintro L w33 ⟨l0_j14,O0_j14,l3_j14,l4_j14,l18_j14,l24_j14,Z0_j14,K0_j14⟩
   refine Zr<|Zm<|Zm<|Zv (xlss l18_j14 l24_j14)<|Zm<|Zg rfl rfl (gw1 rfl) (fun hc=>xmva l24_j14)<|Zg rfl rfl (gw1 rfl) (fun hc=>xmva l3_j14)<|Zg rfl rfl (gw1 rfl) (fun hc=>xlss (mv hc rfl) (mv hc rfl))<|Zv (xpa rfl rfl rfl)<|nl<|?_
   have hz:=bs hF; obtain ⟨y27,hB37,hF⟩:=hz
   refine ct (fun L w=>L 0=(.slice a1 x0.length cq1)∧Row 302 w0.heap.size w (.slice a1 x0.length cq1) y27∧wi.heap.size≤w.heap.size∧Ext w0 w) ?_ ?_
   ·
    refine cnd rfl (fun h19=>?_) (fun h19=>?_)
    ·
     have hB37:=ifp hB37 h19
     refine rg<|Zm<|Zm<|Zm<|Zm<|Zm<|?_
     have hz:=bs hB37; obtain ⟨x29,Ex29,hB37⟩:=hz
     refine Zc (xc cb331 (mc l0_j14 (mc l18_j14 (mc l24_j14 (mc l3_j14 (mc l4_j14 mn)))))) (ih K0_j14 O0_j14 Ex29) ?_
     rintro _ w34 ⟨rfl,o40,hx11,hs3⟩
     have Z3:=Nat.le_trans Z0_j14 hs3
     refine nl<|?_
     cases hB37
     refine lf<|?_
     exact ⟨l0_j14,o40,Z3,hx11⟩
    ·
     have hB37:=ifn hB37 h19
     refine wp_skip<|?_
     cases hB37
     refine lf<|?_
     exact ⟨l0_j14,O0_j14,Z0_j14,K0_j14⟩
   rintro L w35 ⟨l0_j15,O0_j15,Z0_j15,K0_j15⟩
   cases hF
   exact rtn rfl .nil ⟨rfl,O0_j15,K0_j15,Z0_j15⟩
theorem c331 {w0 wi:World} (hk:Ext w0 wi) {v0:Value} {x0:(List ((Int×Int)×Int))} (o0:Row 302 w0.heap.size wi v0 x0) {x1:Int} {x2:Int} {x3:Int} {F:Nat} {r:(List ((Int×Int)×Int))} (hF:slices_symMergeCmpFunc__scale_tone F x0 x1 x2 x3=some r) :
  Calls Tryz.prog 331 [v0,.int .i64 x1,.int .i64 x2,.int .i64 x3,.func (.func 204) #[] #[]].toArray wi (Ret fun v w'=>v=.tuple #[]∧Row 302 w0.heap.size w' v0 r∧Ext w0 w'∧wi.heap.size≤w'.heap.size):=c331r F F hk o0 hF
theorem c281 {w0 wi:World} (hk:Ext w0 wi) {v0:Value} {x0:(List ((Int×Int)×Int))} (o0:Row 302 w0.heap.size wi v0 x0) {x1:Int} {F:Nat} {r:(List ((Int×Int)×Int))} (hF:slices_stableCmpFunc__scale_tone F x0 x1=some r) :
  Calls Tryz.prog 281 [v0,.int .i64 x1,.func (.func 204) #[] #[]].toArray wi (Ret fun v w'=>v=.tuple #[]∧Row 302 w0.heap.size w' v0 r∧Ext w0 w'∧wi.heap.size≤w'.heap.size):=by
 unfold slices_stableCmpFunc__scale_tone at hF
 have hz:=RV.sl o0.rv; obtain ⟨a1,cq1,rfl,-,-,-⟩:=hz
 have Z0:wi.heap.size≤wi.heap.size:=Nat.le_refl _
 refine entr (n:=63) Tryz.func281 rfl rfl rfl<|Zr<|Za<|nl<|Zr<|Zm<|Za<|Za<|nl<|wp_seq<|?_
 have hz:=bs hF; obtain ⟨⟨z1,z2⟩,hB1,hF⟩:=hz
 refine ct (fun L w=>L 0=(.slice a1 x0.length cq1)∧Row 302 w0.heap.size w (.slice a1 x0.length cq1) z1∧L 7=.int .i64 z2∧L 1=.int .i64 x1∧L 2=.func (.func 204) [].toArray [].toArray∧L 6=.int .i64 20∧wi.heap.size≤w.heap.size∧Ext w0 w) ?_ ?_
 ·
  refine wp_block<|lp (I:=fun m L w=>∃ y1:(List ((Int×Int)×Int)),∃ y2:Int,∃ y3:Int,slices_stableCmpFunc__scale_tone_l1 F x1 m y1 y2 y3 =some (z1,z2)∧L 0=(.slice a1 x0.length cq1)∧Row 302 w0.heap.size w (.slice a1 x0.length cq1) y1∧L 7=.int .i64 y2∧L 8=.int .i64 y3∧L 1=.int .i64 x1∧L 2=.func (.func 204) [].toArray [].toArray∧L 6=.int .i64 20∧wi.heap.size≤w.heap.size∧Ext w0 w) F ⟨_,_,_,hB1,rfl,o0,rfl,rfl,rfl,rfl,rfl,Z0,hk⟩ ?_
  rintro m L w1 ⟨y1,y2,y3,hB1,l0_i1,O0_i1,l7_i1,l8_i1,l1_i1,l2_i1,l6_i1,Z0_i1,K0_i1⟩
  rcases m with _ | m
  ·rw [slices_stableCmpFunc__scale_tone_l1] at hB1; cases hB1
  rw [slices_stableCmpFunc__scale_tone_l1] at hB1
  refine wp_seq<|Zr<|Zm<|Zm<|Zv (xleq l8_i1 l1_i1)<|nl<|cnd rfl (fun h4=>?_) (fun h4=>?_)
  ·
   have hB1:=ifp hB1 h4
   refine wp_skip<|wp_block<|Zr<|Zm<|Zm<|Zm<|Zm<|?_
   have hz:=bs hB1; obtain ⟨x4,Ex4,hB1⟩:=hz
   refine Zc (xc cb330 (mc l0_i1 (mc l7_i1 (mc l8_i1 (mc l2_i1 mn))))) (c330 K0_i1 O0_i1 Ex4) ?_
   rintro _ w2 ⟨rfl,o11,hx1,hs1⟩
   have Z1:=Nat.le_trans Z0_i1 hs1
   refine nl<|Zr<|Zm<|Za<|nl<|rg<|Zm<|Zm<|Zv (xadd l8_i1 l6_i1)<|Za<|nl<|?_
   refine lq m (Nat.lt_succ_self _)<|?_
   exact ⟨_,_,_,hB1,l0_i1,o11,l8_i1,rfl,l1_i1,l2_i1,l6_i1,Z1,hx1⟩
  ·
   have hB1:=ifn hB1 h4
   refine wp_exit<|?_
   cases hB1
   refine lf<|?_
   exact ⟨l0_i1,O0_i1,l7_i1,l1_i1,l2_i1,l6_i1,Z0_i1,K0_i1⟩
 rintro L w3 ⟨l0_j1,O0_j1,l7_j1,l1_j1,l2_j1,l6_j1,Z0_j1,K0_j1⟩
 refine Zr<|Zm<|Zm<|Zm<|Zm<|?_
 have hz:=bs hF; obtain ⟨x5,Ex5,hF⟩:=hz
 refine Zc (xc cb330 (mc l0_j1 (mc l7_j1 (mc l1_j1 (mc l2_j1 mn))))) (c330 K0_j1 O0_j1 Ex5) ?_
 rintro _ w4 ⟨rfl,o12,hx2,hs2⟩
 have Z2:=Nat.le_trans Z0_j1 hs2
 refine nl<|?_
 have hz:=bs hF; obtain ⟨z3,hB4,hF⟩:=hz
 refine ct (fun L w=>L 0=(.slice a1 x0.length cq1)∧Row 302 w0.heap.size w (.slice a1 x0.length cq1) z3∧wi.heap.size≤w.heap.size∧Ext w0 w) ?_ ?_
 ·
  refine wp_block<|lp (I:=fun m L w=>∃ y4:(List ((Int×Int)×Int)),∃ y5:Int,slices_stableCmpFunc__scale_tone_l2 F x1 m y4 y5 =some z3∧L 0=(.slice a1 x0.length cq1)∧Row 302 w0.heap.size w (.slice a1 x0.length cq1) y4∧L 6=.int .i64 y5∧L 1=.int .i64 x1∧L 2=.func (.func 204) [].toArray [].toArray∧wi.heap.size≤w.heap.size∧Ext w0 w) F ⟨_,_,hB4,l0_j1,o12,l6_j1,l1_j1,l2_j1,Z2,hx2⟩ ?_
  rintro m L w5 ⟨y4,y5,hB4,l0_i2,O0_i2,l6_i2,l1_i2,l2_i2,Z0_i2,K0_i2⟩
  rcases m with _ | m
  ·rw [slices_stableCmpFunc__scale_tone_l2] at hB4; cases hB4
  rw [slices_stableCmpFunc__scale_tone_l2] at hB4
  refine wp_seq<|Zr<|Zm<|Zm<|Zv (xlss l6_i2 l1_i2)<|nl<|cnd rfl (fun h5=>?_) (fun h5=>?_)
  ·
   have hB4:=ifp hB4 h5
   refine wp_skip<|wp_block<|Zr<|Zm<|Zv (xmul rfl l6_i2)<|Za<|Za<|nl<|wp_seq<|?_
   have hz:=bs hB4; obtain ⟨⟨z4,z5⟩,hB6,hB4⟩:=hz
   refine ct (fun L w=>L 0=(.slice a1 x0.length cq1)∧Row 302 w0.heap.size w (.slice a1 x0.length cq1) z4∧L 7=.int .i64 z5∧L 1=.int .i64 x1∧L 2=.func (.func 204) [].toArray [].toArray∧L 6=.int .i64 y5∧wi.heap.size≤w.heap.size∧Ext w0 w) ?_ ?_
   ·
    refine wp_block<|lp (I:=fun m L w=>∃ y6:(List ((Int×Int)×Int)),∃ y7:Int,∃ y8:Int,slices_stableCmpFunc__scale_tone_l3 F x1 y5 m y6 y7 y8 =some (z4,z5)∧L 0=(.slice a1 x0.length cq1)∧Row 302 w0.heap.size w (.slice a1 x0.length cq1) y6∧L 7=.int .i64 y7∧L 8=.int .i64 y8∧L 1=.int .i64 x1∧L 2=.func (.func 204) [].toArray [].toArray∧L 6=.int .i64 y5∧wi.heap.size≤w.heap.size∧Ext w0 w) F ⟨_,_,_,hB6,l0_i2,O0_i2,rfl,rfl,l1_i2,l2_i2,l6_i2,Z0_i2,K0_i2⟩ ?_
    rintro m L w6 ⟨y6,y7,y8,hB6,l0_i3,O0_i3,l7_i3,l8_i3,l1_i3,l2_i3,l6_i3,Z0_i3,K0_i3⟩
    rcases m with _ | m
    ·rw [slices_stableCmpFunc__scale_tone_l3] at hB6; cases hB6
    rw [slices_stableCmpFunc__scale_tone_l3] at hB6
    refine wp_seq<|Zr<|Zm<|Zm<|Zv (xleq l8_i3 l1_i3)<|nl<|cnd rfl (fun h6=>?_) (fun h6=>?_)
    ·
     have hB6:=ifp hB6 h6
     refine wp_skip<|wp_block<|Zr<|Zm<|Zm<|Zm<|Zm<|Zv (xadd l7_i3 l6_i3)<|Zm<|Zm<|?_
     have hz:=bs hB6; obtain ⟨x6,Ex6,hB6⟩:=hz
     refine Zc (xc cb331 (mc l0_i3 (mc l7_i3 (mc rfl (mc l8_i3 (mc l2_i3 mn)))))) (c331 K0_i3 O0_i3 Ex6) ?_
     rintro _ w7 ⟨rfl,o15,hx3,hs3⟩
     have Z3:=Nat.le_trans Z0_i3 hs3
     refine nl<|Zr<|Zm<|Za<|nl<|rg<|Zm<|Zm<|Zv (xmul rfl l6_i3)<|Zv (xadd l8_i3 rfl)<|Za<|nl<|?_
     refine lq m (Nat.lt_succ_self _)<|?_
     exact ⟨_,_,_,hB6,l0_i3,o15,l8_i3,rfl,l1_i3,l2_i3,l6_i3,Z3,hx3⟩
    ·
     have hB6:=ifn hB6 h6
     refine wp_exit<|?_
     cases hB6
     refine lf<|?_
     exact ⟨l0_i3,O0_i3,l7_i3,l1_i3,l2_i3,l6_i3,Z0_i3,K0_i3⟩
   rintro L w8 ⟨l0_j2,O0_j2,l7_j2,l1_j2,l2_j2,l6_j2,Z0_j2,K0_j2⟩
   refine wp_seq<|Zr<|Zm<|Zm<|Zv (xadd l7_j2 l6_j2)<|Za<|nl<|Zr<|Zm<|Zm<|Zv (xlss rfl l1_j2)<|nl<|?_
   have hz:=bs hB4; obtain ⟨y9,hB9,hB4⟩:=hz
   refine ct (fun L w=>L 0=(.slice a1 x0.length cq1)∧Row 302 w0.heap.size w (.slice a1 x0.length cq1) y9∧L 1=.int .i64 x1∧L 2=.func (.func 204) [].toArray [].toArray∧L 6=.int .i64 y5∧wi.heap.size≤w.heap.size∧Ext w0 w) ?_ ?_
   ·
    refine cnd rfl (fun h7=>?_) (fun h7=>?_)
    ·
     have hB9:=ifp hB9 h7
     refine rg<|Zm<|Zm<|Zm<|Zm<|Zm<|?_
     have hz:=bs hB9; obtain ⟨x7,Ex7,hB9⟩:=hz
     refine Zc (xc cb331 (mc l0_j2 (mc l7_j2 (mc rfl (mc l1_j2 (mc l2_j2 mn)))))) (c331 K0_j2 O0_j2 Ex7) ?_
     rintro _ w9 ⟨rfl,o16,hx4,hs4⟩
     have Z4:=Nat.le_trans Z0_j2 hs4
     refine nl<|?_
     cases hB9
     refine lf<|?_
     exact ⟨l0_j2,o16,l1_j2,l2_j2,l6_j2,Z4,hx4⟩
    ·
     have hB9:=ifn hB9 h7
     refine wp_skip<|?_
     cases hB9
     refine lf<|?_
     exact ⟨l0_j2,O0_j2,l1_j2,l2_j2,l6_j2,Z0_j2,K0_j2⟩
   rintro L w10 ⟨l0_j3,O0_j3,l1_j3,l2_j3,l6_j3,Z0_j3,K0_j3⟩
   refine rg<|Zm<|Zv (xmul l6_j3 rfl)<|Za<|nl<|?_
   refine lq m (Nat.lt_succ_self _)<|?_
   exact ⟨_,_,hB4,l0_j3,O0_j3,rfl,l1_j3,l2_j3,Z0_j3,K0_j3⟩
  ·
   have hB4:=ifn hB4 h5
   refine wp_exit<|?_
   cases hB4
   refine lf<|?_
   exact ⟨l0_i2,O0_i2,Z0_i2,K0_i2⟩
 rintro L w11 ⟨l0_j4,O0_j4,Z0_j4,K0_j4⟩
 cases hF
 exact rtn rfl .nil ⟨rfl,O0_j4,K0_j4,Z0_j4⟩
theorem c203 {w0 wi:World} (hk:Ext w0 wi) {v0:Value} {x0:(List ((Int×Int)×Int))} (o0:Row 302 w0.heap.size wi v0 x0) {F:Nat} {r:(List ((Int×Int)×Int))} (hF:slices_SortStableFunc_scale_tone F x0=some r) :
  Calls Tryz.prog 203 [v0,.func (.func 204) #[] #[]].toArray wi (Ret fun v w'=>v=.tuple #[]∧Row 302 w0.heap.size w' v0 r∧Ext w0 w'∧wi.heap.size≤w'.heap.size):=by
 unfold slices_SortStableFunc_scale_tone at hF
 have hz:=RV.sl o0.rv; obtain ⟨a1,cq1,rfl,-,-,-⟩:=hz
 have Z0:wi.heap.size≤wi.heap.size:=Nat.le_refl _
 refine entr (n:=9) Tryz.func203 rfl rfl rfl<|rg<|Zm<|Zm<|Zv (xlen rfl Tryz.underlying298)<|Zm<|?_
 have hz:=bs hF; obtain ⟨x3,Ex3,hF⟩:=hz
 refine Zc (xc cb281 (mc rfl (mc rfl (mc rfl mn)))) (c281 hk o0 Ex3) ?_
 rintro _ w1 ⟨rfl,o10,hx1,hs1⟩
 have Z1:=Nat.le_trans Z0 hs1
 refine nl<|?_
 cases hF
 exact rtn rfl .nil ⟨rfl,o10,hx1,Z1⟩
end Go.Proofs.YtfmelbioccbdoaaGreat
end
