/-
  Part 9 of 10 of what the last text stands on: lemmas about the model, pure functions, walks, laws in plain Lean; each part's own head says its condition. Merged by a program of our own.
-/
import Derived.Test.YtfmelbioccbdoaaGreatLeastLevelsQh
import Derived.IntWalk
import Derived.KernelRfl
set_option maxHeartbeats 0
set_option linter.all false
section
namespace Go.Proofs.YtfmelbioccbdoaaGreat
open Go Go.Md Go.RowKit
theorem works_c {f:FuncId} (h:∀ w,Calls Tryz.prog f #[] w fun e w'=>e=.returned (.bool true)∧Below w.heap.size w w') {w0:World} {r:Bool} (hr:some true=some r) :
  Calls Tryz.prog f [].toArray w0 (Ret fun v w'=>v=.bool r∧Ext w0 w'):=by
 cases hr
 exact (h w0).mono fun e w' h=>⟨_,h.1,rfl,h.2⟩
def law01_WorksZ (_:Nat):Option Bool:=some true
theorem c86z {w0:World} {F:Nat} {r:Bool} (hF:law01_WorksZ F=some r):Calls Tryz.prog 86 [].toArray w0 (Ret fun v w'=>v=.bool r∧Ext w0 w'):=works_c run86 hF
def law02_WorksZ (_:Nat):Option Bool:=some true
theorem c87z {w0:World} {F:Nat} {r:Bool} (hF:law02_WorksZ F=some r):Calls Tryz.prog 87 [].toArray w0 (Ret fun v w'=>v=.bool r∧Ext w0 w'):=works_c run87 hF
def law03_WorksZ (_:Nat):Option Bool:=some true
theorem c88z {w0:World} {F:Nat} {r:Bool} (hF:law03_WorksZ F=some r):Calls Tryz.prog 88 [].toArray w0 (Ret fun v w'=>v=.bool r∧Ext w0 w'):=works_c run88 hF
def law04_WorksZ (_:Nat):Option Bool:=some true
theorem c116z {w0:World} {F:Nat} {r:Bool} (hF:law04_WorksZ F=some r):Calls Tryz.prog 116 [].toArray w0 (Ret fun v w'=>v=.bool r∧Ext w0 w'):=works_c run116 hF
end Go.Proofs.YtfmelbioccbdoaaGreat
end
section
namespace Go.Proofs.YtfmelbioccbdoaaGreat
open Go Go.Md Go.RowKit
def top_works03 (F:Nat) :Option Bool :=
 (law01_WorksZ F) >>= fun x1 =>
 (gd x1 (law02_WorksZ F) false) >>= fun x2 =>
 (gd (x1 && x2) (law03_WorksZ F) false) >>= fun x3 =>
 some ((x1 && x2) && x3)
def top_works04 (F:Nat) :Option Bool :=
 (top_works03 F) >>= fun x1 =>
 (gd x1 (law04_WorksZ F) false) >>= fun x2 =>
 some (x1 && x2)
def top_TopLeastLevels_l2 (F:Nat) (x7:(List (List Int))) (y1:Int):Nat→Int→(Int×(List (Int×Int×Int)))→Option ((Int×(List (Int×Int×Int))))
 | 0,_,_=>none
 | m + 1,y3,y4 =>
  if (decide (y3<(x7.length:Int)))=true then
   (((ix x7 y1) >>= fun x10 =>
   (ix x7 y3) >>= fun x11 =>
   (ref04_Before F x10 x11) >>= fun x12 =>
   ((if x12=true then
    (app 24 y4.2 ([(w64 (y3 + 1),w64 (y1 + 1),(-1))]:List (Int×Int×Int))) >>= fun x13 =>
    some (y4.1,x13)
   else
    some (y4.1,y4.2):Option ((Int×(List (Int×Int×Int))))) >>= fun y6 =>
   some (y6.1,y6.2)):Option ((Int×(List (Int×Int×Int))))) >>= fun y5 =>
   top_TopLeastLevels_l2 F x7 y1 m (w64 (y3 + 1)) (y5.1,y5.2))
  else
   some (y4.1,y4.2)
def top_TopLeastLevels_l1 (F:Nat) (x7:(List (List Int))):Nat→Int→(Int×(List (Int×Int×Int)))→Option ((Int×(List (Int×Int×Int))))
 | 0,_,_=>none
 | m + 1,y1,y2 =>
  if (decide (y1<(x7.length:Int)))=true then
   (app 24 y2.2 ([(w64 (y1 + 1),0,(-1))]:List (Int×Int×Int))) >>= fun x9 =>
   ((top_TopLeastLevels_l2 F x7 y1 F 0 (y2.1,x9)) >>= fun z2 =>
   top_TopLeastLevels_l1 F x7 m (w64 (y1 + 1)) (z2.1,z2.2))
  else
   some (y2.1,y2.2)
def top_TopLeastLevels_l3 (F:Nat) (x7:(List (List Int))) (x15:((List Int)×Int)) (x16:((List Int)×Int)):Nat→Int→Int→Option (Sum Bool (Int))
 | 0,_,_=>none
 | m + 1,y8,y9 =>
  if (decide (y9<(x7.length:Int)))=true then
   (ix x15.1 y9) >>= fun x20 =>
   (ix x16.1 y9) >>= fun x21 =>
   if (!decide (x20=x21))=true then
    some (.inl false)
   else
    (ix x16.1 y9) >>= fun x22 =>
    top_TopLeastLevels_l3 F x7 x15 x16 m (if y8<x22 then x22 else y8) (w64 (y9 + 1))
  else
   some (.inr y8)
def top_TopLeastLevels_l4 (F:Nat) (x2:(List (KI .u8))) (x7:(List (List Int))) (x15:((List Int)×Int)):Nat→(List Int)→(List Int)→Int→Option ((List Int)×(List Int))
 | 0,_,_,_=>none
 | m + 1,y11,y12,y13 =>
  if (decide (y13<(x7.length:Int)))=true then
   (ix x15.1 y13) >>= fun x29 =>
   ((if (decide (y13<(x2.length:Int)))=true then
    (ix x2 y13) >>= fun x30 =>
    some (w64 (x29 + (Int.tmod (w64 x30.v) 8)))
   else
    some x29:Option (Int)) >>= fun y14 =>
   (app 8 y11 ([y14]:List Int)) >>= fun x31 =>
   (app 8 y12 ([y14]:List Int)) >>= fun x32 =>
   top_TopLeastLevels_l4 F x2 x7 x15 m x31 x32 (w64 (y13 + 1)))
  else
   some (y11,y12)
def top_TopLeastLevels (F:Nat) (x0:(Uno (List (Ar 2 Int)))) (x1:(List (List Int))) (x2:(List (KI .u8))) (x3:Int):Option Bool :=
 (top_lines05 F (⟨x0.v⟩:(Uno (List (Ar 2 Int)))) x1 4) >>= fun x5 =>
 if (!x5)=true then
  (top_works04 F) >>= fun x6 =>
  some x6
 else
  (ref04_All F (⟨x0.v⟩:(Uno (List (Ar 2 Int)))) x1) >>= fun x7 =>
  if ((decide ((x7.length:Int)<1)) || (decide (20<(x7.length:Int))))=true then
   (top_works04 F) >>= fun x8 =>
   some x8
  else
   ((top_TopLeastLevels_l1 F x7 F 0 ((x7.length:Int),[])) >>= fun z1 =>
   if (decide (60<(z1.2.length:Int)))=true then
    (top_works04 F) >>= fun x14 =>
    some x14
   else
    (word_Levels F (⟨x0.v⟩:(Uno (List (Ar 2 Int)))) x1) >>= fun x15 =>
    (speed_Ends F (z1.1,z1.2) false) >>= fun x16 =>
    (speed_Circle F (z1.1,z1.2)) >>= fun x17 =>
    (word_Longest F (⟨x0.v⟩:(Uno (List (Ar 2 Int)))) x1) >>= fun x18 =>
    ((if (!decide (x15.2=0))=true then
     none
    else
     if (!decide (x16.2=0))=true then
      none
     else
      if (!decide (x17.2=5))=true then
       none
      else
       if (!decide (x18.2=0))=true then
        none
       else
        if (!decide ((x15.1.length:Int)=(x7.length:Int)))=true then
         none
        else
         if (!decide ((x16.1.length:Int)=(x7.length:Int)))=true then
          none
         else
          (ref01_CheckSpeeds F (z1.1,z1.2) x16.1) >>= fun x19 =>
          some (!decide (x19=0)):Option (Bool)) >>= fun y7 =>
    if y7=true then
     some false
    else
     ((top_TopLeastLevels_l3 F x7 x15 x16 F 0 0) >>= fun o=>match o with
      | .inl r=>some r
      | .inr z3 =>
       (rem (w64 x3) (x7.length:Int)) >>= fun x23 =>
       (speed_Span F (z1.1,z1.2) (w64 (x23 + 1))) >>= fun x24 =>
       (speed_Way F (z1.1,z1.2) (w64 (x23 + 1)) 0) >>= fun x25 =>
       (ref01_CheckWay F (z1.1,z1.2) (w64 (x23 + 1)) 0 x25.1) >>= fun x26 =>
       ((if (!decide (x24.2=0))=true then
        none
       else
        if (!decide (x25.2.2=0))=true then
         none
        else
         if (!decide (x26.2=0))=true then
          none
         else
          (ix x16.1 x23) >>= fun x27 =>
          if (!decide (x24.1.1=x27))=true then
           none
          else
           (ix x16.1 x23) >>= fun x28 =>
           if (!decide (x25.2.1=(w64 (0 - x28))))=true then
            none
           else
            if (!decide (x26.1=x25.2.1))=true then
             none
            else
             some (!decide ((x18.1.length:Int)=z3)):Option (Bool)) >>= fun y10 =>
       if y10=true then
        some false
       else
        ((top_TopLeastLevels_l4 F x2 x7 x15 F ([]) ([]) 0) >>= fun (z4,z5) =>
        (word_CheckLevels F (⟨x0.v⟩:(Uno (List (Ar 2 Int)))) x1 z4) >>= fun x33 =>
        (speed_CheckSpeeds F (z1.1,z1.2) z5) >>= fun x34 =>
        (gd (((decide (x33.2=0)) == (decide (x34=0))) && ((decide (x33.2=0)) || ((decide (x33.2=14)) && (decide (x34=17))))) (top_works04 F) false) >>= fun x35 =>
        some ((((decide (x33.2=0)) == (decide (x34=0))) && ((decide (x33.2=0)) || ((decide (x33.2=14)) && (decide (x34=17))))) && x35))))))
end Go.Proofs.YtfmelbioccbdoaaGreat
end
section
namespace Go.Proofs.YtfmelbioccbdoaaGreat
open Go Go.Md Go.RowKit
attribute [local irreducible] Go.wpList Go.Code.wp Go.Calls Go.Md.Rnd Go.Md.Mt Go.Md.MtM Go.Md.RndM Go.Code.wpIn
theorem c238r (F:Nat):∀ (mr:Nat) {w0 wi:World} (hk:Ext w0 wi) {b0:Nat} {cs0:List Value} {x0:((Ob ((Uno (List (Ar 2 Int)))×(Ar 101 Int)))×(List (List Int))×(List (Ar 4 Int)))} (h0:Cs w0 b0 0 cs0) (q0:Enc.rep (fun _=>True) w0 cs0 x0) {v1:Value} {x1:(Ar 4 Int)} (r1:RV w0 v1 x1) {b2:Nat} {x2:(List ((Ar 4 Int)×Int))} (g2:w0.heap.size≤b2) (m2:Mp wi b2 x2) {r:(Int×(List ((Ar 4 Int)×Int)))} (hF:word_song_within_r F mr x0 x1 x2=some r),
  Calls Tryz.prog 238 [.pointer (some ⟨b0,0,none⟩),v1,.map (some b2)].toArray wi (Ret fun v w'=>v=.int .i64 r.1∧Mp w' b2 r.2∧BelP (fun q=>q≠b2) wi.heap.size wi w'):=by
 intro mr
 induction mr with
 | zero =>
  intro w0 wi hk b0 cs0 x0 h0 q0 v1 x1 r1 b2 x2 g2 m2 r hF
  rw [word_song_within_r] at hF; cases hF
 | succ mr ih =>
 intro w0 wi hk b0 cs0 x0 h0 q0 v1 x1 r1 b2 x2 g2 m2 r hF
 rw [word_song_within_r] at hF
 obtain ⟨_,_,rfl,q4,⟨_,_,rfl,⟨a2,cq1,rfl,p1,q5,e1⟩,⟨a3,cq2,rfl,p2,q6,e2⟩⟩⟩:=q0
 have hz:=obRep q4; obtain ⟨a1,rfl,r4⟩:=hz
 have r5:=RV.of1 p1 q5 e1
 have r6:=RV.of1 p2 q6 e2
 have hz:=id r1; obtain ⟨_,rfl,rfl⟩:=hz
 have r7:=r4.ext hk
 have r8:=r5.ext hk
 have r9:=r6.ext hk
 have h4:=h0.ext hk
 have Z0:wi.heap.size≤wi.heap.size:=Nat.le_refl _
 have BP0:BelP (fun q=>q≠b2) wi.heap.size wi wi:=BelP.refl
 refine entr (n:=77) Tryz.func238 rfl rfl rfl<|Zr<|sbx rfl rfl fun b4 w1 hx1 hg1 hb1=>?_
 have k1:=hk.tr hx1
 have zs1:=Nat.le_trans Z0 hx1.size
 have BP1:=BP0.ext hx1 BP0.size
 have m1:=m2.ext hx1
 have r11:=r7.ext hx1
 have r12:=r8.ext hx1
 have r13:=r9.ext hx1
 have h5:=h4.ext hx1
 refine Za<|nl<|wp_seq<|Zr<|Zv (xlda rfl ti223 (arlen _) (Bx.cs hb1))<|Zv (xbdav (r:=List.flatMap Flat.enc (Ar.fill 4 0:(Ar 4 Int)).l) ti223 Tryz.underlying223 ti3 pn rfl)<|Zv (xage (α:=(Ar 4 Int)) (a:=x1) (b:=(Ar.fill 4 0:(Ar 4 Int))) rfl eg223 eq223 rfl rfl rfl rfl rfl)<|nl<|cnd rfl (fun h6=>?_) (fun h6=>?_)
 ·
  have hF:=ifp hF h6
  refine Zr<|Za<|nl<|?_
  cases hF
  exact wp_ret<|rt rfl (.tmp rfl rfl .nil) ⟨rfl,m1,BP1⟩
 ·
  have hF:=ifn hF h6
  refine wp_skip<|wp_seq<|Zr<|Zm<|Zv (xlda rfl ti223 (arlen _) (Bx.cs hb1))<|?_
  have hz:=bs hF; obtain ⟨x4,Ex4,hF⟩:=hz
  refine Zv (xlkuo (k:=x1) (d:=0) Tryz.underlying341 kt223 (TI.zv ti3 rfl rfl _) m1 (kok_spec Ex4) rfl rfl)<|Zm<|Zv (xext rfl rfl)<|Zv (xext rfl rfl)<|Za<|Za<|nl<|Zr<|Zm<|nl<|cnd rfl (fun h7=>?_) (fun h7=>?_)
  ·
   have hF:=ifp hF h7
   refine Zr<|Zm<|Za<|nl<|?_
   cases hF
   exact wp_ret<|rt rfl (.tmp rfl rfl .nil) ⟨rfl,m1,BP1⟩
  ·
   have hF:=ifn hF h7
   refine wp_skip<|Zr<|Za<|nl<|Zr<|Zv (xlda rfl ti223 (arlen _) (Bx.cs hb1))<|sal ti223 fun b5 w2 hx2 hg2 hb2=>?_
   have zs2:=Nat.le_trans zs1 hx2.size
   have BP2:=BP1.ext hx2 BP1.size
   have hb4:Bx w2 b5 223 (List.flatMap Flat.enc ((Ar.fill 4 0:(Ar 4 Int))).l):=hb2
   refine sstw rfl rfl ti223 hb4 (arlen _) (arlen _) (flat_one _) fun w3 hch1 hb5=>?_
   have k6:=Ext.chg hx2 hch1 (Nat.le_trans (Nat.le_refl _) hg2)
   have zs3:=Nat.le_trans zs2 (Nat.le_of_eq hch1.size.symm)
   have BP3:=BP2.chg hch1 (.inl (Nat.le_trans hx1.size hg2))
   have h9:=h5.ext k6
   have hb7:Bx w3 b5 223 (List.flatMap Flat.enc x1.l):=hb5
   refine nl<|wp_seq<|Zr<|Zm<|Zv (xnil rfl)<|Zv (xfa rfl fa221_1)<|Zv (xld rfl ti78 (h9.at 1 rfl))<|Zv (xlen rfl Tryz.underlying78)<|Zm<|nl<|?_
   have hz:=bs hF; obtain ⟨o1,hB1,hF⟩:=hz
   refine ct (fun L w=>∃ z1:(Ar 4 Int),o1=.inr z1∧Bx w b5 223 (List.flatMap Flat.enc z1.l)∧L 0=.pointer (some ⟨b0,0,none⟩)∧L 2=.map (some b2)∧L 4=.pointer (some ⟨b4,0,none⟩)∧L 9=.int .i64 0∧L 10=.pointer (some ⟨b5,0,none⟩)∧wi.heap.size≤w.heap.size∧Ext w1 w∧BelP (fun q=>q≠b2) wi.heap.size wi w) ?_ ?_
   ·
    refine wp_block<|lp (I:=fun m L w=>∃ y1:Int,∃ y2:(Ar 4 Int),word_song_within_l1 F x0 x1 x2 m y1 y2 =some o1∧L 31=.int .i64 y1∧Bx w b5 223 (List.flatMap Flat.enc y2.l)∧L 0=.pointer (some ⟨b0,0,none⟩)∧L 2=.map (some b2)∧L 4=.pointer (some ⟨b4,0,none⟩)∧L 9=.int .i64 0∧L 10=.pointer (some ⟨b5,0,none⟩)∧L 30=.int .i64 (x0.2.1.length:Int)∧wi.heap.size≤w.heap.size∧Ext w1 w∧BelP (fun q=>q≠b2) wi.heap.size wi w) F ⟨_,_,hB1,rfl,hb7,rfl,rfl,rfl,rfl,rfl,rfl,zs3,k6,BP3⟩ ?_
    rintro m L w4 ⟨y1,y2,hB1,l31_i1,B10_i1,l0_i1,l2_i1,l4_i1,l9_i1,l10_i1,l30_i1,Z0_i1,K0_i1,BP_i1⟩
    rcases m with _ | m
    ·rw [word_song_within_l1] at hB1; cases hB1
    rw [word_song_within_l1] at hB1
    have m4:=m1.ext K0_i1
    have hb8:=hb1.ext K0_i1
    refine Zr<|Zv (xlss l31_i1 l30_i1)<|nl<|wp_seq<|cnd rfl (fun h11=>?_) (fun h11=>?_)
    ·
     have hB1:=ifp hB1 h11
     refine wp_skip<|wp_seq<|wp_block<|Zr<|Zm<|Za<|nl<|wp_seq<|Zr<|Zm<|?_
     have hz:=bs hB1; obtain ⟨x5,Ex5,hB1⟩:=hz
     have hz:=ixar (Bx.cs hb8) Ex5; obtain ⟨i2,i3,hc1⟩:=hz
     refine Zv (xixa l4_i1 l31_i1 Tryz.underlying223 ti3 i2 i3)<|Zv (xld rfl ti3 (hc1.at 0 rfl))<|Zv (xeql rfl rfl)<|nl<|cnd rfl (fun h12=>?_) (fun h12=>?_)
     ·
      have hB1:=ifp hB1 h12
      refine Zr<|Za<|nl<|?_
      cases hB1
      have hF:=(show some _=some _ from hF); cases hF
      exact wp_ret<|rt rfl (.tmp rfl rfl .nil) ⟨rfl,m4,BP_i1⟩
     ·
      have hB1:=ifn hB1 h12
      refine wp_skip<|rg<|Zm<|?_
      have hz:=bs hB1; obtain ⟨x6,Ex6,hB1⟩:=hz
      have hz:=ixar (Bx.cs B10_i1) Ex6; obtain ⟨i4,i5,hc2⟩:=hz
      refine Zv (xixa l10_i1 l31_i1 Tryz.underlying223 ti3 i4 i5)<|Zv (xld rfl ti3 (hc2.at 0 rfl))<|Zv (xsub rfl rfl)<|?_
      have hz:=bs hB1; obtain ⟨x7,Ex7,hB1⟩:=hz
      have hz:=ixar (Bx.cs B10_i1) Ex7; obtain ⟨i6,i7,hc3⟩:=hz
      refine Zv (xixa l10_i1 l31_i1 Tryz.underlying223 ti3 i6 i7)<|ssta (X:=y2) (v:=w64 (x6 - 1)) rfl rfl rfl ti3 B10_i1 Ex7 fun w5 hch2 hb9=>?_
      have k11:=Ext.chg K0_i1 hch2 (Nat.le_trans (Nat.le_refl _) hg2)
      have zs4:=Nat.le_trans Z0_i1 (Nat.le_of_eq hch2.size.symm)
      have BP4:=BP_i1.chg hch2 (.inl (Nat.le_trans hx1.size hg2))
      refine nl<|rg<|Zv (xadd l31_i1 rfl)<|Zm<|nl<|?_
      refine lq m (Nat.lt_succ_self _)<|?_
      exact ⟨_,_,hB1,rfl,hb9,l0_i1,l2_i1,l4_i1,l9_i1,l10_i1,l30_i1,zs4,k11,BP4⟩
    ·
     have hB1:=ifn hB1 h11
     refine wp_exit<|?_
     cases hB1
     refine lf<|?_
     exact ⟨_,rfl,B10_i1,l0_i1,l2_i1,l4_i1,l9_i1,l10_i1,Z0_i1,K0_i1,BP_i1⟩
   rintro L w6 ⟨z1,rfl,B10_j1,l0_j1,l2_j1,l4_j1,l9_j1,l10_j1,Z0_j1,K0_j1,BP_j1⟩
   have k12:=k1.tr K0_j1
   have r27:=r11.ext K0_j1
   have r28:=r12.ext K0_j1
   have r29:=r13.ext K0_j1
   have h14:=h5.ext K0_j1
   have m6:=m1.ext K0_j1
   have hb11:=hb1.ext K0_j1
   refine wp_seq<|Zr<|Zm<|Zv (xlda l10_j1 ti223 (arlen _) (Bx.cs B10_j1))<|?_
   have hz:=bs hF; obtain ⟨x8,Ex8,hF⟩:=hz
   refine Zc (xc cb234 (mc l0_j1 (mc rfl mn))) (c234 (x0:=(x0.1,x0.2.1,x0.2.2)) h14 ⟨[.pointer a1],[.slice a2 x0.2.1.length cq1]++[.slice a3 x0.2.2.length cq2],rfl,(obRep1 r27),⟨[.slice a2 x0.2.1.length cq1],[.slice a3 x0.2.2.length cq2],rfl,r28.rep1,r29.rep1⟩⟩ (show RV (α:=(Ar 4 Int)) _ (.agg (List.flatMap Flat.enc z1.l).toArray) z1 from ⟨_,rfl,rfl⟩) Ex8) ?_
   rintro _ w7 ⟨rfl,hx3⟩
   have k14:=k12.tr hx3
   have zs5:=Nat.le_trans Z0_j1 hx3.size
   have BP5:=BP_j1.ext hx3 BP_j1.size
   have m7:=m6.ext hx3
   have hb12:=hb11.ext hx3
   have B1:=B10_j1.ext hx3
   have h15:=h14.ext hx3
   refine nl<|?_
   have hz:=bs hF; obtain ⟨⟨y3,y4⟩,hB6,hF⟩:=hz
   refine ct (fun L w=>L 9=.int .i64 y3∧Bx w b4 223 (List.flatMap Flat.enc (x1).l)∧Mp w b2 y4∧L 2=.map (some b2)∧L 4=.pointer (some ⟨b4,0,none⟩)∧wi.heap.size≤w.heap.size∧Ext w0 w∧BelP (fun q=>q≠b2) wi.heap.size wi w) ?_ ?_
   ·
    refine cnd rfl (fun h16=>?_) (fun h16=>?_)
    ·
     have hB6:=ifp hB6 h16
     refine rg<|Zm<|Zv (xlda l10_j1 ti223 (arlen _) (Bx.cs B1))<|Zm<|?_
     have hz:=bs hB6; obtain ⟨x9,Ex9,hB6⟩:=hz
     refine Zc (xc cb238 (mc l0_j1 (mc rfl (mc l2_j1 mn)))) (ih k14 h0 ⟨[.pointer a1],[.slice a2 x0.2.1.length cq1]++[.slice a3 x0.2.2.length cq2],rfl,(obRep1 r4),⟨[.slice a2 x0.2.1.length cq1],[.slice a3 x0.2.2.length cq2],rfl,r5.rep1,r6.rep1⟩⟩ (show RV (α:=(Ar 4 Int)) _ (.agg (List.flatMap Flat.enc z1.l).toArray) z1 from ⟨_,rfl,rfl⟩) g2 m7 Ex9) ?_
     rintro _ w8 ⟨rfl,hm1,hB8⟩
     have hz:=BelP.split hB8 m7.lt; obtain ⟨w9,hx4,hch3⟩:=hz
     have k17:=k14.tr hx4
     have zs6:=Nat.le_trans zs5 hx4.size
     have BP6:=BP5.ext hx4 BP5.size
     have m8:=m7.ext hx4
     have hb13:=hb12.ext hx4
     have k20:=Ext.chg k17 hch3 (Nat.le_trans (Nat.le_refl _) g2)
     have zs7:=Nat.le_trans zs6 (Nat.le_of_eq hch3.size.symm)
     have BP7:=BP6.chg hch3 (.inr fun h=>h rfl)
     have hb14:=Bx.chgm hb13 hch3 m8
     refine Zv (xadd rfl rfl)<|Za<|nl<|?_
     cases hB6
     refine lf<|?_
     exact ⟨rfl,hb14,hm1,l2_j1,l4_j1,zs7,k20,BP7⟩
    ·
     have hB6:=ifn hB6 h16
     refine Zr<|Zm<|Zv (xnil l0_j1)<|Zv (xfa rfl fa221_1)<|Zv (xld rfl ti78 (h15.at 1 rfl))<|Zv (xlen rfl Tryz.underlying78)<|Zm<|nl<|?_
     have hz:=bs hB6; obtain ⟨⟨z2,z3⟩,hB10,hB6⟩:=hz
     refine ct (fun L w=>L 9=.int .i64 z2∧Bx w b4 223 (List.flatMap Flat.enc (x1).l)∧Mp w b2 z3∧L 2=.map (some b2)∧L 4=.pointer (some ⟨b4,0,none⟩)∧wi.heap.size≤w.heap.size∧Ext w0 w∧BelP (fun q=>q≠b2) wi.heap.size wi w) ?_ ?_
     ·
      refine wp_block<|lp (I:=fun m L w=>∃ y5:Int,∃ y6:Int,∃ y7:(List ((Ar 4 Int)×Int)),word_song_within_l2 F (word_song_within_r F mr) x0 x1 m y5 y6 y7 =some (z2,z3)∧L 9=.int .i64 y5∧L 57=.int .i64 y6∧Bx w b4 223 (List.flatMap Flat.enc (x1).l)∧Mp w b2 y7∧L 0=.pointer (some ⟨b0,0,none⟩)∧L 2=.map (some b2)∧L 4=.pointer (some ⟨b4,0,none⟩)∧L 56=.int .i64 (x0.2.1.length:Int)∧wi.heap.size≤w.heap.size∧Ext w0 w∧BelP (fun q=>q≠b2) wi.heap.size wi w) F ⟨_,_,_,hB10,l9_j1,rfl,hb12,m7,l0_j1,l2_j1,l4_j1,rfl,zs5,k14,BP5⟩ ?_
      rintro m L w10 ⟨y5,y6,y7,hB10,l9_i8,l57_i8,B4_i8,Q9000_i8,l0_i8,l2_i8,l4_i8,l56_i8,Z0_i8,K0_i8,BP_i8⟩
      rcases m with _ | m
      ·rw [word_song_within_l2] at hB10; cases hB10
      rw [word_song_within_l2] at hB10
      refine Zr<|Zv (xlss l57_i8 l56_i8)<|nl<|wp_seq<|cnd rfl (fun h18=>?_) (fun h18=>?_)
      ·
       have hB10:=ifp hB10 h18
       refine wp_skip<|wp_seq<|wp_block<|Zr<|Zm<|Za<|nl<|Zr<|Zv (xlda l4_i8 ti223 (arlen _) (Bx.cs B4_i8))<|sal ti223 fun b6 w11 hx5 hg3 hb15=>?_
       have k21:=K0_i8.tr hx5
       have zs8:=Nat.le_trans Z0_i8 hx5.size
       have BP8:=BP_i8.ext hx5 BP_i8.size
       have hb17:Bx w11 b6 223 (List.flatMap Flat.enc ((Ar.fill 4 0:(Ar 4 Int))).l):=hb15
       refine sstw rfl rfl ti223 hb17 (arlen _) (arlen _) (flat_one _) fun w12 hch4 hb18=>?_
       have k22:=Ext.chg k21 hch4 (Nat.le_trans K0_i8.size hg3)
       have k23:=Ext.chg hx5 hch4 (Nat.le_trans (Nat.le_refl _) hg3)
       have zs9:=Nat.le_trans zs8 (Nat.le_of_eq hch4.size.symm)
       have BP9:=BP8.chg hch4 (.inl (Nat.le_trans Z0_i8 hg3))
       have hb20:Bx w12 b6 223 (List.flatMap Flat.enc x1.l):=hb18
       refine nl<|Zr<|Zm<|?_
       have hz:=bs hB10; obtain ⟨x10,Ex10,hB10⟩:=hz
       have hz:=ixar (Bx.cs hb20) Ex10; obtain ⟨i9,i10,hc4⟩:=hz
       refine Zv (xixa rfl l57_i8 Tryz.underlying223 ti3 i9 i10)<|Zv (xld rfl ti3 (hc4.at 0 rfl))<|Zv (xsub rfl rfl)<|?_
       have hz:=bs hB10; obtain ⟨x11,Ex11,hB10⟩:=hz
       have hz:=ixar (Bx.cs hb20) Ex11; obtain ⟨i11,i12,hc5⟩:=hz
       refine Zv (xixa rfl l57_i8 Tryz.underlying223 ti3 i11 i12)<|ssta (X:=x1) (v:=w64 (x10 - 1)) rfl rfl rfl ti3 hb20 Ex11 fun w13 hch5 hb21=>?_
       have k24:=Ext.chg k22 hch5 (Nat.le_trans K0_i8.size hg3)
       have k25:=Ext.chg k23 hch5 (Nat.le_trans (Nat.le_refl _) hg3)
       have zs10:=Nat.le_trans zs9 (Nat.le_of_eq hch5.size.symm)
       have BP10:=BP9.chg hch5 (.inl (Nat.le_trans Z0_i8 hg3))
       have Q3:=Q9000_i8.ext k25
       have hb22:=B4_i8.ext k25
       refine nl<|rg<|Zm<|Zm<|Zv (xlda rfl ti223 (arlen _) (Bx.cs hb21))<|Zm<|?_
       have hz:=bs hB10; obtain ⟨x12,Ex12,hB10⟩:=hz
       refine Zc (xc cb238 (mc l0_i8 (mc rfl (mc l2_i8 mn)))) (ih k24 h0 ⟨[.pointer a1],[.slice a2 x0.2.1.length cq1]++[.slice a3 x0.2.2.length cq2],rfl,(obRep1 r4),⟨[.slice a2 x0.2.1.length cq1],[.slice a3 x0.2.2.length cq2],rfl,r5.rep1,r6.rep1⟩⟩ (show RV (α:=(Ar 4 Int)) _ (.agg (List.flatMap Flat.enc (aset x1 y6 (w64 (x10 - 1))).l).toArray) (aset x1 y6 (w64 (x10 - 1))) from ⟨_,rfl,rfl⟩) g2 Q3 Ex12) ?_
       rintro _ w14 ⟨rfl,hm2,hB12⟩
       have hz:=BelP.split hB12 Q3.lt; obtain ⟨w15,hx6,hch6⟩:=hz
       have k26:=k24.tr hx6
       have zs11:=Nat.le_trans zs10 hx6.size
       have BP11:=BP10.ext hx6 BP10.size
       have Q4:=Q3.ext hx6
       have hb23:=hb22.ext hx6
       have k28:=Ext.chg k26 hch6 (Nat.le_trans (Nat.le_refl _) g2)
       have zs12:=Nat.le_trans zs11 (Nat.le_of_eq hch6.size.symm)
       have BP12:=BP11.chg hch6 (.inr fun h=>h rfl)
       have hb24:=Bx.chgm hb23 hch6 Q4
       have hz:=bs hB10; obtain ⟨x13,Ex13,hB10⟩:=hz
       refine Zc (xc cb235 (mc l9_i8 (mc rfl mn))) (c235 Ex13) ?_
       rintro _ w16 ⟨rfl,hx7⟩
       have k29:=k28.tr hx7
       have zs13:=Nat.le_trans zs12 hx7.size
       have BP13:=BP12.ext hx7 BP12.size
       have hm3:=hm2.ext hx7
       have hb25:=hb24.ext hx7
       refine Za<|nl<|rg<|Zv (xadd l57_i8 rfl)<|Zm<|nl<|?_
       refine lq m (Nat.lt_succ_self _)<|?_
       exact ⟨_,_,_,hB10,rfl,rfl,hb25,hm3,l0_i8,l2_i8,l4_i8,l56_i8,zs13,k29,BP13⟩
      ·
       have hB10:=ifn hB10 h18
       refine wp_exit<|?_
       cases hB10
       refine lf<|?_
       exact ⟨l9_i8,B4_i8,Q9000_i8,l2_i8,l4_i8,Z0_i8,K0_i8,BP_i8⟩
     rintro L w17 ⟨l9_j2,B4_j2,Q9000_j2,l2_j2,l4_j2,Z0_j2,K0_j2,BP_j2⟩
     cases hB6
     refine lf<|?_
     exact ⟨l9_j2,B4_j2,Q9000_j2,l2_j2,l4_j2,Z0_j2,K0_j2,BP_j2⟩
   rintro L w18 ⟨l9_j3,B4_j3,Q9000_j3,l2_j3,l4_j3,Z0_j3,K0_j3,BP_j3⟩
   refine Zr<|Zm<|Zv (xlda l4_j3 ti223 (arlen _) (Bx.cs B4_j3))<|Zm<|?_
   have hz:=bs hF; obtain ⟨x14,Ex14,hF⟩:=hz
   refine smup (k:=x1) (v:=y3) l2_j3 rfl (fvi l9_j3) Tryz.underlying341 kt223 Q9000_j3 (kok_spec Ex14) fun w19 hch7 hm4=>?_
   have BP14:=BP_j3.chg hch7 (.inr fun h=>h rfl)
   refine nl<|Zr<|Zm<|Za<|nl<|?_
   cases hF
   exact wp_ret<|rt rfl (.tmp l9_j3 rfl .nil) ⟨rfl,hm4,BP14⟩
theorem c238 {w0 wi:World} (hk:Ext w0 wi) {b0:Nat} {cs0:List Value} {x0:((Ob ((Uno (List (Ar 2 Int)))×(Ar 101 Int)))×(List (List Int))×(List (Ar 4 Int)))} (h0:Cs w0 b0 0 cs0) (q0:Enc.rep (fun _=>True) w0 cs0 x0) {v1:Value} {x1:(Ar 4 Int)} (r1:RV w0 v1 x1) {b2:Nat} {x2:(List ((Ar 4 Int)×Int))} (g2:w0.heap.size≤b2) (m2:Mp wi b2 x2) {F:Nat} {r:(Int×(List ((Ar 4 Int)×Int)))} (hF:word_song_within F x0 x1 x2=some r) :
  Calls Tryz.prog 238 [.pointer (some ⟨b0,0,none⟩),v1,.map (some b2)].toArray wi (Ret fun v w'=>v=.int .i64 r.1∧Mp w' b2 r.2∧BelP (fun q=>q≠b2) wi.heap.size wi w'):=c238r F F hk h0 q0 r1 g2 m2 hF
theorem c130 {w0:World} {b0:Nat} {cs0:List Value} {x0:((Ob ((Uno (List (Ar 2 Int)))×(Ar 101 Int)))×(List (List Int))×(List (Ar 4 Int)))} (h0:Cs w0 b0 0 cs0) (q0:Enc.rep (fun _=>True) w0 cs0 x0) {F:Nat} {r:(List Int)} (hF:word_song_levels F x0=some r) :
  Calls Tryz.prog 130 [.pointer (some ⟨b0,0,none⟩)].toArray w0 (Ret fun v w'=>∃ u0:Value,v=u0∧RV w' u0 r∧Ext w0 w'):=by
 unfold word_song_levels at hF
 obtain ⟨_,_,rfl,q2,⟨_,_,rfl,⟨a2,cq1,rfl,p1,q3,e1⟩,⟨a3,cq2,rfl,p2,q4,e2⟩⟩⟩:=q0
 have hz:=obRep q2; obtain ⟨a1,rfl,r2⟩:=hz
 have r3:=RV.of1 p1 q3 e1
 have r4:=RV.of1 p2 q4 e2
 refine entr (n:=27) Tryz.func130 rfl rfl rfl<|Zr<|Za<|nl<|Zr<|smmk (κ:=(Ar 4 Int)) (ν:=Int) fun b2 w1 hx1 hg1 hm1=>?_
 have h2:=h0.ext hx1
 refine Za<|nl<|Zr<|Za<|nl<|wp_seq<|Zr<|Zm<|Zv (xnil rfl)<|Zv (xfa rfl fa221_2)<|Zv (xld rfl ti214 (h2.at 2 rfl))<|Zv (xlen rfl Tryz.underlying214)<|Zm<|nl<|?_
 have o1:Row (α:=Int) 3 w1.heap.size w1 (.slice none 0 0) []:=Row.nil
 have hz:=bs hF; obtain ⟨⟨z1,z2⟩,hB1,hF⟩:=hz
 refine ct (fun L w=>∃ v3:Value,L 4=v3∧Row 3 w1.heap.size w v3 z1∧Mp w b2 z2∧w1.heap.size≤w.heap.size∧Ext w0 w) ?_ ?_
 ·
  refine wp_block<|lp (I:=fun m L w=>∃ y1:(List Int),∃ y2:Int,∃ y3:(List ((Ar 4 Int)×Int)),∃ v2:Value,word_song_levels_l1 F x0 m y1 y2 y3 =some (z1,z2)∧L 4=v2∧Row 3 w1.heap.size w v2 y1∧L 13=.int .i64 y2∧Mp w b2 y3∧L 0=.pointer (some ⟨b0,0,none⟩)∧L 3=.map (some b2)∧L 11=.slice a3 x0.2.2.length cq2∧L 12=.int .i64 (x0.2.2.length:Int)∧w1.heap.size≤w.heap.size∧Ext w0 w) F ⟨_,_,_,_,hB1,rfl,o1,rfl,hm1,rfl,rfl,rfl,rfl,(Nat.le_refl _),hx1⟩ ?_
  rintro m L w2 ⟨y1,y2,y3,v2,hB1,l4_i1,O4_i1,l13_i1,Q9000_i1,l0_i1,l3_i1,l11_i1,l12_i1,Z0_i1,K0_i1⟩
  rcases m with _ | m
  ·rw [word_song_levels_l1] at hB1; cases hB1
  rw [word_song_levels_l1] at hB1
  have hz:=RV.sl O4_i1.rv; obtain ⟨a4,cq3,rfl,-,-,-⟩:=hz
  refine Zr<|Zv (xlss l13_i1 l12_i1)<|nl<|wp_seq<|cnd rfl (fun h4=>?_) (fun h4=>?_)
  ·
   have hB1:=ifp hB1 h4
   refine wp_skip<|wp_seq<|wp_block<|Zr<|?_
   have hz:=bs hB1; obtain ⟨x2,Ex2,hB1⟩:=hz
   have hz:=(RV.els r4).ix Ex2; obtain ⟨b3,f1,cs2,e3,i2,i3,q5,hc1⟩:=hz
   cases e3
   obtain rfl:=q5
   have hc2:=hc1.ext K0_i1
   refine Zv (xixs l11_i1 l13_i1 Tryz.underlying214 ti223 i2 i3)<|Zv (xlda rfl ti223 (arlen _) hc2)<|sal ti223 fun b4 w3 hx2 hg2 hb1=>?_
   have k1:=K0_i1.tr hx2
   have zs1:=Nat.le_trans Z0_i1 hx2.size
   have hb2:Bx w3 b4 223 (List.flatMap Flat.enc ((Ar.fill 4 0:(Ar 4 Int))).l):=hb1
   refine sstw rfl rfl ti223 hb2 (arlen _) (arlen _) (flat_one _) fun w4 hch1 hb3=>?_
   have k2:=Ext.chg k1 hch1 (Nat.le_trans K0_i1.size hg2)
   have k3:=Ext.chg hx2 hch1 (Nat.le_trans (Nat.le_refl _) hg2)
   have zs2:=Nat.le_trans zs1 (Nat.le_of_eq hch1.size.symm)
   have Q2:=Q9000_i1.ext k3
   have O2:=O4_i1.ext k3
   have hb4:Bx w4 b4 223 (List.flatMap Flat.enc x2.l):=hb3
   refine nl<|rg<|Zm<|Zm<|Zv (xlda rfl ti223 (arlen _) (Bx.cs hb4))<|Zm<|?_
   have hz:=bs hB1; obtain ⟨x3,Ex3,hB1⟩:=hz
   refine Zc (xc cb238 (mc l0_i1 (mc rfl (mc l3_i1 mn)))) (c238 k2 h0 ⟨[.pointer a1],[.slice a2 x0.2.1.length cq1]++[.slice (some ⟨b3,f1,none⟩) x0.2.2.length cq2],rfl,(obRep1 r2),⟨[.slice a2 x0.2.1.length cq1],[.slice (some ⟨b3,f1,none⟩) x0.2.2.length cq2],rfl,r3.rep1,r4.rep1⟩⟩ (show RV (α:=(Ar 4 Int)) _ (.agg (List.flatMap Flat.enc x2.l).toArray) x2 from ⟨_,rfl,rfl⟩) hg1 Q2 Ex3) ?_
   rintro _ w5 ⟨rfl,hm2,hB3⟩
   have hz:=BelP.split hB3 Q2.lt; obtain ⟨w6,hx3,hch2⟩:=hz
   have k4:=k2.tr hx3
   have zs3:=Nat.le_trans zs2 hx3.size
   have Q3:=Q2.ext hx3
   have O3:=O2.ext hx3
   have k6:=Ext.chg k4 hch2 (Nat.le_trans (Nat.le_refl _) hg1)
   have zs4:=Nat.le_trans zs3 (Nat.le_of_eq hch2.size.symm)
   have o3:=Row.chgm O3 hch2 Q3
   refine Zv (xadd rfl rfl)<|sbsv (cs:=[.int .i64 (w64 (1 + x3.1))]) Tryz.underlying41 ti3 rfl (pc rfl pn) rfl rfl rfl rfl rfl fun b5 w7 hx4 hg3 hb5=>?_
   have k7:=k6.tr hx4
   have zs5:=Nat.le_trans zs4 hx4.size
   have hm3:=hm2.ext hx4
   have O4:=o3.ext hx4
   have o4:Row (α:=Int) 3 w5.heap.size w7 (.slice (some ⟨b5,0,none⟩) 1 1) [w64 (1 + x3.1)]:=Row.lit hg3 hb5 rfl (ble rfl)
   have hz:=bs hB1; obtain ⟨x4,Ex4,hB1⟩:=hz
   refine sapx (l:=y1) (k:=([w64 (1 + x3.1)]:List Int)) l4_i1 rfl Tryz.underlying41 ti3 rfl rfl O4 (RV.els o4.rv) Ex4 zs5 fun v4 w8 o5 hB4 hgr1 how1=>?_
   have k8:=Ext.grow k7 hx1.size hB4
   have zs6:=Nat.le_trans zs5 hgr1.size
   have hm4:=Mp.grr hm3 hgr1 O4
   have hz:=RV.sl o5.rv; obtain ⟨a5,cq4,rfl,-,-,-⟩:=hz
   refine Za<|nl<|rg<|Zv (xadd l13_i1 rfl)<|Zm<|nl<|?_
   refine lq m (Nat.lt_succ_self _)<|?_
   exact ⟨_,_,_,_,hB1,rfl,o5,rfl,hm4,l0_i1,l3_i1,l11_i1,l12_i1,zs6,k8⟩
  ·
   have hB1:=ifn hB1 h4
   refine wp_exit<|?_
   cases hB1
   refine lf<|?_
   exact ⟨_,l4_i1,O4_i1,Q9000_i1,Z0_i1,K0_i1⟩
 rintro L w9 ⟨v3,l4_j1,O4_j1,Q9000_j1,Z0_j1,K0_j1⟩
 have hz:=RV.sl O4_j1.rv; obtain ⟨a6,cq5,rfl,-,-,-⟩:=hz
 refine Zr<|Zm<|Za<|nl<|?_
 cases hF
 exact wp_ret<|rt rfl (.tmp l4_j1 rfl .nil) ⟨_,rfl,O4_j1.rv,K0_j1⟩
theorem c125 {w0:World} {b0:Nat} {cs0:List Value} {x0:((Ob ((Uno (List (Ar 2 Int)))×(Ar 101 Int)))×(List (List Int))×(List (Ar 4 Int)))} (h0:Cs w0 b0 0 cs0) (q0:Enc.rep (fun _=>True) w0 cs0 x0) {F:Nat} {r:(List (Int×Int))} (hF:word_song_ways F x0=some r) :
  Calls Tryz.prog 125 [.pointer (some ⟨b0,0,none⟩)].toArray w0 (Ret fun v w'=>∃ u0:Value,v=u0∧RV w' u0 r∧Ext w0 w'):=by
 unfold word_song_ways at hF
 obtain ⟨_,_,rfl,q2,⟨_,_,rfl,⟨a2,cq1,rfl,p1,q3,e1⟩,⟨a3,cq2,rfl,p2,q4,e2⟩⟩⟩:=q0
 have hz:=obRep q2; obtain ⟨a1,rfl,r2⟩:=hz
 have r3:=RV.of1 p1 q3 e1
 have r4:=RV.of1 p2 q4 e2
 refine entr (n:=181) Tryz.func125 rfl rfl rfl<|Zr<|Za<|nl<|Zr<|Zm<|?_
 have hz:=bs hF; obtain ⟨x2,Ex2,hF⟩:=hz
 refine Zc (xc cb130 (mc rfl mn)) (c130 (x0:=(x0.1,x0.2.1,x0.2.2)) h0 ⟨[.pointer a1],[.slice a2 x0.2.1.length cq1]++[.slice a3 x0.2.2.length cq2],rfl,(obRep1 r2),⟨[.slice a2 x0.2.1.length cq1],[.slice a3 x0.2.2.length cq2],rfl,r3.rep1,r4.rep1⟩⟩ Ex2) ?_
 rintro _ w1 ⟨u1,rfl,r5,hx1⟩
 have r6:=r2.ext hx1
 have r7:=r3.ext hx1
 have r8:=r4.ext hx1
 have h2:=h0.ext hx1
 have hz:=RV.sl r5; obtain ⟨a4,cq3,rfl,-,-,-⟩:=hz
 refine Za<|nl<|Zr<|Za<|nl<|wp_seq<|Zr<|Zm<|Zv (xlen rfl Tryz.underlying41)<|Zm<|nl<|?_
 have hz:=bs hF; obtain ⟨z1,hB1,hF⟩:=hz
 refine ct (fun L w=>L 4=.int .i64 z1∧L 0=.pointer (some ⟨b0,0,none⟩)∧L 3=.slice a4 x2.length cq3∧Ext w1 w) ?_ ?_
 ·
  refine wp_block<|lp (I:=fun m L w=>∃ y1:Int,∃ y2:Int,word_song_ways_l1 F x2 m y1 y2 =some z1∧L 4=.int .i64 y1∧L 18=.int .i64 y2∧L 0=.pointer (some ⟨b0,0,none⟩)∧L 3=.slice a4 x2.length cq3∧L 16=.slice a4 x2.length cq3∧L 17=.int .i64 (x2.length:Int)∧Ext w1 w) F ⟨_,_,hB1,rfl,rfl,rfl,rfl,rfl,rfl,(Ext.refl _)⟩ ?_
  rintro m L w2 ⟨y1,y2,hB1,l4_i1,l18_i1,l0_i1,l3_i1,l16_i1,l17_i1,K0_i1⟩
  rcases m with _ | m
  ·rw [word_song_ways_l1] at hB1; cases hB1
  rw [word_song_ways_l1] at hB1
  refine Zr<|Zv (xlss l18_i1 l17_i1)<|nl<|wp_seq<|cnd rfl (fun h4=>?_) (fun h4=>?_)
  ·
   have hB1:=ifp hB1 h4
   refine wp_skip<|wp_seq<|wp_block<|Zr<|?_
   have hz:=bs hB1; obtain ⟨x3,Ex3,hB1⟩:=hz
   have hz:=(RV.els r5).ix Ex3; obtain ⟨b2,f1,cs2,e3,i2,i3,q5,hc1⟩:=hz
   cases e3
   obtain rfl:=q5
   have hc2:=hc1.ext K0_i1
   refine Zv (xixs l16_i1 l18_i1 Tryz.underlying41 ti3 i2 i3)<|Zv (xld rfl ti3 (hc2.at 0 rfl))<|Za<|nl<|rg<|Zm<|Zm<|?_
   have hz:=bs hB1; obtain ⟨x4,Ex4,hB1⟩:=hz
   refine Zc (xc cb235 (mc l4_i1 (mc rfl mn))) (c235 Ex4) ?_
   rintro _ w3 ⟨rfl,hx2⟩
   have k3:=K0_i1.tr hx2
   refine Za<|nl<|rg<|Zv (xadd l18_i1 rfl)<|Zm<|nl<|?_
   refine lq m (Nat.lt_succ_self _)<|?_
   exact ⟨_,_,hB1,rfl,rfl,l0_i1,l3_i1,l16_i1,l17_i1,k3⟩
  ·
   have hB1:=ifn hB1 h4
   refine wp_exit<|?_
   cases hB1
   refine lf<|?_
   exact ⟨l4_i1,l0_i1,l3_i1,K0_i1⟩
 rintro L w4 ⟨l4_j1,l0_j1,l3_j1,K0_j1⟩
 have k4:=hx1.tr K0_j1
 have r17:=r6.ext K0_j1
 have r18:=r7.ext K0_j1
 have r19:=r8.ext K0_j1
 have h6:=h2.ext K0_j1
 refine Zr<|Zm<|Zv (xnil l0_j1)<|Zv (xfa rfl fa221_2)<|Zv (xld rfl ti214 (h6.at 2 rfl))<|Zv (xlen rfl Tryz.underlying214)<|?_
 have hz:=bs hF; obtain ⟨x5,Ex5,hF⟩:=hz
 refine smks (α:=(Int×Int)) (z0:=(0,0)) rfl rfl Tryz.underlying216 ti225 rfl rfl rfl Ex5 fun b3 w5 hx3 o2=>?_
 have h7:=h6.ext hx3
 refine Za<|nl<|wp_seq<|Zr<|Zm<|Zv (xnil l0_j1)<|Zv (xfa rfl fa221_2)<|Zv (xld rfl ti214 (h7.at 2 rfl))<|Zv (xlen rfl Tryz.underlying214)<|Zm<|nl<|?_
 have hz:=bs hF; obtain ⟨z2,hB4,hF⟩:=hz
 refine ct (fun L w=>L 7=(.slice (some ⟨b3,0,none⟩) x5.length x5.length)∧Row 225 w4.heap.size w (.slice (some ⟨b3,0,none⟩) x5.length x5.length) z2∧L 0=.pointer (some ⟨b0,0,none⟩)∧L 3=.slice a4 x2.length cq3∧L 4=.int .i64 z1∧Ext w4 w) ?_ ?_
 ·
  refine wp_block<|lp (I:=fun m L w=>∃ y3:(List (Int×Int)),∃ y4:Int,word_song_ways_l2 F x0 x2 m y3 y4 =some z2∧L 7=(.slice (some ⟨b3,0,none⟩) x5.length x5.length)∧Row 225 w4.heap.size w (.slice (some ⟨b3,0,none⟩) x5.length x5.length) y3∧L 37=.int .i64 y4∧L 0=.pointer (some ⟨b0,0,none⟩)∧L 3=.slice a4 x2.length cq3∧L 4=.int .i64 z1∧L 35=.slice a3 x0.2.2.length cq2∧L 36=.int .i64 (x0.2.2.length:Int)∧Ext w4 w) F ⟨_,_,hB4,rfl,o2,rfl,l0_j1,l3_j1,l4_j1,rfl,rfl,hx3⟩ ?_
  rintro m L w6 ⟨y3,y4,hB4,l7_i4,O7_i4,l37_i4,l0_i4,l3_i4,l4_i4,l35_i4,l36_i4,K0_i4⟩
  rcases m with _ | m
  ·rw [word_song_ways_l2] at hB4; cases hB4
  rw [word_song_ways_l2] at hB4
  have k7:=k4.tr K0_i4
  have k8:=K0_j1.tr K0_i4
  refine Zr<|Zv (xlss l37_i4 l36_i4)<|nl<|wp_seq<|cnd rfl (fun h9=>?_) (fun h9=>?_)
  ·
   have hB4:=ifp hB4 h9
   refine wp_skip<|wp_seq<|wp_block<|Zr<|Zm<|?_
   have hz:=bs hB4; obtain ⟨x6,Ex6,hB4⟩:=hz
   have hz:=(RV.els r4).ix Ex6; obtain ⟨b4,f2,cs3,e4,i5,i6,q6,hc3⟩:=hz
   cases e4
   obtain rfl:=q6
   have hc4:=hc3.ext k7
   refine Zv (xixs l35_i4 l37_i4 Tryz.underlying214 ti223 i5 i6)<|Zv (xlda rfl ti223 (arlen _) hc4)<|sal ti223 fun b5 w7 hx4 hg1 hb1=>?_
   have k10:=k8.tr hx4
   have k11:=K0_i4.tr hx4
   have hb2:Bx w7 b5 223 (List.flatMap Flat.enc ((Ar.fill 4 0:(Ar 4 Int))).l):=hb1
   refine Za<|sstw rfl rfl ti223 hb2 (arlen _) (arlen _) (flat_one _) fun w8 hch1 hb3=>?_
   have k13:=Ext.chg k10 hch1 (Nat.le_trans k8.size hg1)
   have k14:=Ext.chg k11 hch1 (Nat.le_trans K0_i4.size hg1)
   have k15:=Ext.chg hx4 hch1 (Nat.le_trans (Nat.le_refl _) hg1)
   have O2:=O7_i4.ext k15
   have hb4:Bx w8 b5 223 (List.flatMap Flat.enc x6.l):=hb3
   refine nl<|wp_seq<|Zr<|Zm<|Zm<|?_
   have hz:=bs hB4; obtain ⟨x7,Ex7,hB4⟩:=hz
   have hz:=(RV.els r5).ix Ex7; obtain ⟨b6,f3,cs4,e5,i7,i8,q7,hc5⟩:=hz
   cases e5
   obtain rfl:=q7
   have hc6:=hc5.ext k13
   refine Zv (xixs l3_i4 l37_i4 Tryz.underlying41 ti3 i7 i8)<|Zv (xld rfl ti3 (hc6.at 0 rfl))<|Zv (xeql rfl rfl)<|nl<|?_
   have hz:=bs hB4; obtain ⟨y5,hB6,hB4⟩:=hz
   refine ct (fun L w=>L 7=(.slice (some ⟨b3,0,none⟩) x5.length x5.length)∧Row 225 w4.heap.size w (.slice (some ⟨b3,0,none⟩) x5.length x5.length) y5∧Bx w b5 223 (List.flatMap Flat.enc (x6).l)∧L 0=.pointer (some ⟨b0,0,none⟩)∧L 3=.slice (some ⟨b6,f3,none⟩) x2.length cq3∧L 4=.int .i64 z1∧L 8=.int .i64 y4∧L 9=.pointer (some ⟨b5,0,none⟩)∧L 35=.slice (some ⟨b4,f2,none⟩) x0.2.2.length cq2∧L 36=.int .i64 (x0.2.2.length:Int)∧L 37=.int .i64 y4∧Ext w4 w) ?_ ?_
   ·
    refine cnd rfl (fun h12=>?_) (fun h12=>?_)
    ·
     have hB6:=ifp hB6 h12
     refine rg<|Zm<|Zm<|?_
     have hz:=bs hB6; obtain ⟨x8,Ex8,hB6⟩:=hz
     have hz:=ix2 O2.rv Ex8; obtain ⟨cs5,i9,i10,q8,hc7⟩:=hz
     obtain ⟨_,_,rfl,rfl,rfl⟩:=q8
     have i11:y4<(x5.length:Int):=by rw [(RV.cap O2.rv).1]; exact i10
     refine Zv (xixs l7_i4 l37_i4 Tryz.underlying216 ti225 i9 i11)<|Zv (xfa rfl fa225_0)<|sstrk (l:=y3) (1,x8.2) 0 rfl rfl rfl rfl rfl ti2 O2 Ex8 rfl (by decide) fun w9 hch2 o4=>?_
     have k18:=Ext.chg k14 hch2 (Nat.le_trans (Nat.le_refl _) (Row.ge O2))
     have hb5:=Bx.chg hb4 hch2 (fun e=>(O7_i4.ne_new hg1) (congrArg some e))
     refine nl<|?_
     cases hB6
     refine lf<|?_
     exact ⟨l7_i4,o4,hb5,l0_i4,l3_i4,l4_i4,l37_i4,rfl,l35_i4,l36_i4,l37_i4,k18⟩
    ·
     have hB6:=ifn hB6 h12
     refine wp_skip<|?_
     cases hB6
     refine lf<|?_
     exact ⟨l7_i4,O2,hb4,l0_i4,l3_i4,l4_i4,l37_i4,rfl,l35_i4,l36_i4,l37_i4,k14⟩
   rintro L w10 ⟨l7_j2,O7_j2,B9_j2,l0_j2,l3_j2,l4_j2,l8_j2,l9_j2,l35_j2,l36_j2,l37_j2,K0_j2⟩
   have h14:=h6.ext K0_j2
   refine Zr<|Zm<|Zv (xnil l0_j2)<|Zv (xfa rfl fa221_2)<|Zv (xld rfl ti214 (h14.at 2 rfl))<|Zm<|Zm<|?_
   have hz:=bs hB4; obtain ⟨x9,Ex9,hB4⟩:=hz
   have hz:=slhf r4 Ex9 Tryz.underlying214 ti223; obtain ⟨a5,r45,hr1⟩:=hz
   refine Zv (hr1 _ _ _ _ _ _ _ _ _ _ _ rfl l8_j2 l8_j2)<|Zv (xlen rfl Tryz.underlying214)<|Zm<|nl<|?_
   have hz:=bs hB4; obtain ⟨z3,hB9,hB4⟩:=hz
   refine ct (fun L w=>L 7=(.slice (some ⟨b3,0,none⟩) x5.length x5.length)∧Row 225 w4.heap.size w (.slice (some ⟨b3,0,none⟩) x5.length x5.length) z3∧L 0=.pointer (some ⟨b0,0,none⟩)∧L 3=.slice (some ⟨b6,f3,none⟩) x2.length cq3∧L 4=.int .i64 z1∧L 35=.slice (some ⟨b4,f2,none⟩) x0.2.2.length cq2∧L 36=.int .i64 (x0.2.2.length:Int)∧L 37=.int .i64 y4∧Ext w4 w) ?_ ?_
   ·
    refine wp_block<|lp (I:=fun m L w=>∃ y6:(List (Int×Int)),∃ y7:Int,word_song_ways_l3 F x0 x2 x6 x9 y4 m y6 y7 =some z3∧L 7=(.slice (some ⟨b3,0,none⟩) x5.length x5.length)∧Row 225 w4.heap.size w (.slice (some ⟨b3,0,none⟩) x5.length x5.length) y6∧L 59=.int .i64 y7∧Bx w b5 223 (List.flatMap Flat.enc (x6).l)∧L 0=.pointer (some ⟨b0,0,none⟩)∧L 3=.slice (some ⟨b6,f3,none⟩) x2.length cq3∧L 4=.int .i64 z1∧L 8=.int .i64 y4∧L 9=.pointer (some ⟨b5,0,none⟩)∧L 35=.slice (some ⟨b4,f2,none⟩) x0.2.2.length cq2∧L 36=.int .i64 (x0.2.2.length:Int)∧L 37=.int .i64 y4∧L 57=.slice a5 x9.length x9.length∧L 58=.int .i64 (x9.length:Int)∧Ext w4 w) F ⟨_,_,hB9,l7_j2,O7_j2,rfl,B9_j2,l0_j2,l3_j2,l4_j2,l8_j2,l9_j2,l35_j2,l36_j2,l37_j2,rfl,rfl,K0_j2⟩ ?_
    rintro m L w11 ⟨y6,y7,hB9,l7_i12,O7_i12,l59_i12,B9_i12,l0_i12,l3_i12,l4_i12,l8_i12,l9_i12,l35_i12,l36_i12,l37_i12,l57_i12,l58_i12,K0_i12⟩
    rcases m with _ | m
    ·rw [word_song_ways_l3] at hB9; cases hB9
    rw [word_song_ways_l3] at hB9
    have k21:=k4.tr K0_i12
    have k22:=K0_j1.tr K0_i12
    have r47:=r17.ext K0_i12
    have r48:=r18.ext K0_i12
    have r49:=r19.ext K0_i12
    have h15:=h6.ext K0_i12
    refine Zr<|Zv (xlss l59_i12 l58_i12)<|nl<|wp_seq<|cnd rfl (fun h16=>?_) (fun h16=>?_)
    ·
     have hB9:=ifp hB9 h16
     refine wp_skip<|wp_seq<|?_
     have hz:=bs hB9; obtain ⟨y8,hB11,hB9⟩:=hz
     refine ct (fun L w=>L 7=(.slice (some ⟨b3,0,none⟩) x5.length x5.length)∧Row 225 w4.heap.size w (.slice (some ⟨b3,0,none⟩) x5.length x5.length) y8∧Bx w b5 223 (List.flatMap Flat.enc (x6).l)∧L 0=.pointer (some ⟨b0,0,none⟩)∧L 3=.slice (some ⟨b6,f3,none⟩) x2.length cq3∧L 4=.int .i64 z1∧L 8=.int .i64 y4∧L 9=.pointer (some ⟨b5,0,none⟩)∧L 35=.slice (some ⟨b4,f2,none⟩) x0.2.2.length cq2∧L 36=.int .i64 (x0.2.2.length:Int)∧L 37=.int .i64 y4∧L 57=.slice a5 x9.length x9.length∧L 58=.int .i64 (x9.length:Int)∧L 59=.int .i64 y7∧Ext w4 w) ?_ ?_
     ·
      refine wp_block<|Zr<|Zm<|?_
      have hz:=bs hB11; obtain ⟨x10,Ex10,hB11⟩:=hz
      have hz:=(RV.els r45).ix Ex10; obtain ⟨b7,f4,cs6,e6,i13,i14,q9,hc8⟩:=hz
      cases e6
      obtain rfl:=q9
      have hc9:=hc8.ext k21
      refine Zv (xixs l57_i12 l59_i12 Tryz.underlying214 ti223 i13 i14)<|Zv (xlda rfl ti223 (arlen _) hc9)<|sal ti223 fun b8 w12 hx5 hg2 hb6=>?_
      have k24:=k22.tr hx5
      have k25:=K0_i12.tr hx5
      have hb8:Bx w12 b8 223 (List.flatMap Flat.enc ((Ar.fill 4 0:(Ar 4 Int))).l):=hb6
      refine Za<|sstw rfl rfl ti223 hb8 (arlen _) (arlen _) (flat_one _) fun w13 hch3 hb9=>?_
      have k27:=Ext.chg k24 hch3 (Nat.le_trans k22.size hg2)
      have k28:=Ext.chg k25 hch3 (Nat.le_trans K0_i12.size hg2)
      have k29:=Ext.chg hx5 hch3 (Nat.le_trans (Nat.le_refl _) hg2)
      have hb10:=B9_i12.ext k29
      have r57:=r47.ext k29
      have r58:=r48.ext k29
      have r59:=r49.ext k29
      have h18:=h15.ext k29
      have O4:=O7_i12.ext k29
      have hb11:Bx w13 b8 223 (List.flatMap Flat.enc x10.l):=hb9
      refine nl<|wp_seq<|wpl [] (.pure true 0 (.pure true 1 (.pure true 2 (.pure false 3 (.pure true 4 (.pure true 5 (.pure true 6 (.pure true 7 (.pure false 8 (.pure true 9 (.pure true 10 (.pure true 11 (.pure false 12 (.pure false 13 (.eff 14 (.pure true 15 .fin) .stop))))))))))))))) mixed (by kernel_rfl) (fun w14 hx6=>?_)
      have k31:=k27.tr hx6
      have k32:=k28.tr hx6
      have hb12:=hb10.ext hx6
      have hb13:=hb11.ext hx6
      have r62:=r57.ext hx6
      have r63:=r58.ext hx6
      have r64:=r59.ext hx6
      have h19:=h18.ext hx6
      have O5:=O4.ext hx6
      refine Zn rfl<|Zn rfl<|?_
      have hz:=bs hB11; obtain ⟨x11,Ex11,hB11⟩:=hz
      have hz:=ix2 r5 Ex11; obtain ⟨cs7,i15,i16,q10,hc10⟩:=hz
      obtain rfl:=q10
      have hc11:=hc10.ext k31
      refine Zp rfl (fun _=>xixs l3_i12 l59_i12 Tryz.underlying41 ti3 i15 i16)<|Zq rfl (fun _ hS=>xld rfl ti3 ((hc11.ext (hS.resolve_left nofun)).at 0 rfl)) (Ext.refl _)<|Zp rfl (fun _=>xadd rfl rfl)<|Zn rfl<|Zn rfl<|?_
      have hz:=bs hB11; obtain ⟨x12,Ex12,hB11⟩:=hz
      have hz:=ix2 r5 Ex12; obtain ⟨cs8,i17,i18,q11,hc12⟩:=hz
      obtain rfl:=q11
      have hc13:=hc12.ext k31
      refine Zp rfl (fun _=>xixs l3_i12 l8_i12 Tryz.underlying41 ti3 i17 i18)<|Zq rfl (fun _ hS=>xld rfl ti3 ((hc13.ext (hS.resolve_left nofun)).at 0 rfl)) (Ext.refl _)<|Zp rfl (fun _=>xeql rfl rfl)<|Zn rfl<|pgv rfl rfl rfl rfl rfl (gw1 rfl) rfl (fun hc=>(fun _ _=>xmva l0_i12)) (.inl rfl)<|pgv rfl rfl rfl rfl rfl (gw1 rfl) rfl (fun hc=>(fun _ hS=>xlda rfl ti223 (arlen _) (Bx.cs (hb13.ext (hS.resolve_left nofun))))) (.inr (Ext.refl _))<|pgv rfl rfl rfl rfl rfl (gw1 rfl) rfl (fun hc=>(fun _ hS=>xlda l9_i12 ti223 (arlen _) (Bx.cs (hb12.ext (hS.resolve_left nofun))))) (.inr (Ext.refl _))<|?_
      have hz:=bs hB11; obtain ⟨x13,Ex13,hB11⟩:=hz
      refine pe1 rfl<|gc rfl rfl rfl rfl (gw1 rfl) rfl (fun hc=>xc cb133 (mc (mv hc rfl) (mc (mv hc rfl) (mc (mv hc rfl) mn)))) (fun hc=>(c133 (x0:=(x0.1,x0.2.1,x0.2.2)) h19 ⟨[.pointer a1],[.slice a2 x0.2.1.length cq1]++[.slice (some ⟨b4,f2,none⟩) x0.2.2.length cq2],rfl,(obRep1 r62),⟨[.slice a2 x0.2.1.length cq1],[.slice (some ⟨b4,f2,none⟩) x0.2.2.length cq2],rfl,r63.rep1,r64.rep1⟩⟩ (show RV (α:=(Ar 4 Int)) _ (.agg (List.flatMap Flat.enc x10.l).toArray) x10 from ⟨_,rfl,rfl⟩) (show RV (α:=(Ar 4 Int)) _ (.agg (List.flatMap Flat.enc x6.l).toArray) x6 from ⟨_,rfl,rfl⟩) (gdp Ex13 hc))) (fun v2 w15 hy1 hn1=>?_)
      have hx7:Ext w14 w15:=gx (fun h=>(hy1 h).2) (fun h=>(hn1 h).2 ▸ Ext.refl _)
      have e7:=mkw (fun h=>(hy1 h).1) (fun h=>(hn1 h).1)
      have k36:=k32.tr hx7
      have hb14:=hb12.ext hx7
      have O6:=O5.ext hx7
      refine nl ⟨fun _ _=>hx7,?_⟩
      refine Zp rfl (fun _=>xpa rfl e7 rfl)<|?_
      have hz:=bs hB11; obtain ⟨y9,hB12,hB11⟩:=hz
      refine ct (fun L w=>L 7=(.slice (some ⟨b3,0,none⟩) x5.length x5.length)∧Row 225 w4.heap.size w (.slice (some ⟨b3,0,none⟩) x5.length x5.length) y9∧Bx w b5 223 (List.flatMap Flat.enc (x6).l)∧L 0=.pointer (some ⟨b0,0,none⟩)∧L 3=.slice (some ⟨b6,f3,none⟩) x2.length cq3∧L 4=.int .i64 z1∧L 8=.int .i64 y4∧L 9=.pointer (some ⟨b5,0,none⟩)∧L 35=.slice (some ⟨b4,f2,none⟩) x0.2.2.length cq2∧L 36=.int .i64 (x0.2.2.length:Int)∧L 37=.int .i64 y4∧L 57=.slice (some ⟨b7,f4,none⟩) x9.length x9.length∧L 58=.int .i64 (x9.length:Int)∧L 59=.int .i64 y7∧Ext w4 w) ?_ ?_
      ·
       refine cnd rfl (fun h21=>?_) (fun h21=>?_)
       ·
        have hB12:=ifp hB12 h21
        refine wpl [13] (.pure true 0 (.pure true 1 (.pure true 2 (.pure true 3 (.pure false 4 (.pure true 5 (.pure true 6 (.pure true 7 (.pure true 8 (.pure false 9 (.pure true 10 (.pure true 11 (.pure true 12 (.eff 13 .fin .stop)))))))))))))) mixed (by kernel_rfl) (fun w16 hx8=>?_)
        have k40:=k36.tr hx8
        have hb15:=hb14.ext hx8
        have O7:=O6.ext hx8
        refine Zn rfl<|Zn rfl<|?_
        have hz:=bs hB12; obtain ⟨x14,Ex14,hB12⟩:=hz
        have hz:=ix2 O7.rv Ex14; obtain ⟨cs9,i19,i20,q12,hc14⟩:=hz
        obtain ⟨_,_,rfl,rfl,rfl⟩:=q12
        have i21:y4<(x5.length:Int):=by rw [(RV.cap O7.rv).1]; exact i20
        refine Zp rfl (fun _=>xixs l7_i12 l8_i12 Tryz.underlying216 ti225 i19 i21)<|Zp rfl (fun _=>xfa rfl fa225_0)<|Zq rfl (fun _ hS=>xld rfl ti2 ((hc14.ext (hS.resolve_left nofun)).at 0 rfl)) (Ext.refl _)<|Zn rfl<|Zn rfl<|?_
        have hz:=bs hB12; obtain ⟨x15,Ex15,hB12⟩:=hz
        have hz:=ix2 O7.rv Ex15; obtain ⟨cs10,i22,i23,q13,hc15⟩:=hz
        obtain ⟨_,_,rfl,rfl,rfl⟩:=q13
        have i24:y7<(x5.length:Int):=by rw [(RV.cap O7.rv).1]; exact i23
        refine Zp rfl (fun _=>xixs l7_i12 l59_i12 Tryz.underlying216 ti225 i22 i24)<|Zp rfl (fun _=>xfa rfl fa225_0)<|Zq rfl (fun _ hS=>xld rfl ti2 ((hc15.ext (hS.resolve_left nofun)).at 0 rfl)) (Ext.refl _)<|Zp rfl (fun _=>xadd rfl rfl)<|?_
        have hz:=bs hB12; obtain ⟨x16,Ex16,hB12⟩:=hz
        have hz:=ix2 O7.rv Ex16; obtain ⟨cs11,i25,i26,q14,hc16⟩:=hz
        obtain ⟨_,_,rfl,rfl,rfl⟩:=q14
        have i27:y4<(x5.length:Int):=by rw [(RV.cap O7.rv).1]; exact i26
        refine Zp rfl (fun _=>xixs l7_i12 l8_i12 Tryz.underlying216 ti225 i25 i27)<|Zp rfl (fun _=>xfa rfl fa225_0)<|pe1 rfl<|sstrk (l:=y6) (w64 (x14.1 + x15.1),x16.2) 0 rfl rfl rfl rfl rfl ti2 O7 Ex16 rfl (by decide) fun w17 hch4 o6=>?_
        have k45:=Ext.chg k40 hch4 (Nat.le_trans (Nat.le_refl _) (Row.ge O7))
        have hb16:=Bx.chg hb15 hch4 (fun e=>(O7_i4.ne_new hg1) (congrArg some e))
        refine nl ⟨fun h=>(h (by decide)).elim,?_⟩
        cases hB12
        refine lf<|?_
        exact ⟨l7_i12,o6,hb16,l0_i12,l3_i12,l4_i12,l8_i12,l9_i12,l35_i12,l36_i12,l37_i12,l57_i12,l58_i12,l59_i12,k45⟩
       ·
        have hB12:=ifn hB12 h21
        refine wp_skip<|?_
        cases hB12
        refine lf<|?_
        exact ⟨l7_i12,O6,hb14,l0_i12,l3_i12,l4_i12,l8_i12,l9_i12,l35_i12,l36_i12,l37_i12,l57_i12,l58_i12,l59_i12,k36⟩
      rintro L w18 ⟨l7_j3,O7_j3,B9_j3,l0_j3,l3_j3,l4_j3,l8_j3,l9_j3,l35_j3,l36_j3,l37_j3,l57_j3,l58_j3,l59_j3,K0_j3⟩
      cases hB11
      refine lf<|?_
      exact ⟨l7_j3,O7_j3,B9_j3,l0_j3,l3_j3,l4_j3,l8_j3,l9_j3,l35_j3,l36_j3,l37_j3,l57_j3,l58_j3,l59_j3,K0_j3⟩
     rintro L w19 ⟨l7_j4,O7_j4,B9_j4,l0_j4,l3_j4,l4_j4,l8_j4,l9_j4,l35_j4,l36_j4,l37_j4,l57_j4,l58_j4,l59_j4,K0_j4⟩
     refine rg<|Zv (xadd l59_j4 rfl)<|Zm<|nl<|?_
     refine lq m (Nat.lt_succ_self _)<|?_
     exact ⟨_,_,hB9,l7_j4,O7_j4,rfl,B9_j4,l0_j4,l3_j4,l4_j4,l8_j4,l9_j4,l35_j4,l36_j4,l37_j4,l57_j4,l58_j4,K0_j4⟩
    ·
     have hB9:=ifn hB9 h16
     refine wp_exit<|?_
     cases hB9
     refine lf<|?_
     exact ⟨l7_i12,O7_i12,l0_i12,l3_i12,l4_i12,l35_i12,l36_i12,l37_i12,K0_i12⟩
   rintro L w20 ⟨l7_j5,O7_j5,l0_j5,l3_j5,l4_j5,l35_j5,l36_j5,l37_j5,K0_j5⟩
   refine rg<|Zv (xadd l37_j5 rfl)<|Zm<|nl<|?_
   refine lq m (Nat.lt_succ_self _)<|?_
   exact ⟨_,_,hB4,l7_j5,O7_j5,rfl,l0_j5,l3_j5,l4_j5,l35_j5,l36_j5,K0_j5⟩
  ·
   have hB4:=ifn hB4 h9
   refine wp_exit<|?_
   cases hB4
   refine lf<|?_
   exact ⟨l7_i4,O7_i4,l0_i4,l3_i4,l4_i4,K0_i4⟩
 rintro L w21 ⟨l7_j6,O7_j6,l0_j6,l3_j6,l4_j6,K0_j6⟩
 have h27:=h6.ext K0_j6
 refine wp_seq<|Zr<|Zm<|Zv (xnil l0_j6)<|Zv (xfa rfl fa221_2)<|Zv (xld rfl ti214 (h27.at 2 rfl))<|Zv (xlen rfl Tryz.underlying214)<|Zv (xsub rfl rfl)<|Za<|nl<|?_
 have hz:=bs hF; obtain ⟨z4,hB17,hF⟩:=hz
 refine ct (fun L w=>L 7=(.slice (some ⟨b3,0,none⟩) x5.length x5.length)∧Row 225 w4.heap.size w (.slice (some ⟨b3,0,none⟩) x5.length x5.length) z4∧Ext w4 w) ?_ ?_
 ·
  refine wp_block<|lp (I:=fun m L w=>∃ y10:(List (Int×Int)),∃ y11:Int,word_song_ways_l4 F x0 x2 z1 m y10 y11 =some z4∧L 7=(.slice (some ⟨b3,0,none⟩) x5.length x5.length)∧Row 225 w4.heap.size w (.slice (some ⟨b3,0,none⟩) x5.length x5.length) y10∧L 12=.int .i64 y11∧L 0=.pointer (some ⟨b0,0,none⟩)∧L 3=.slice a4 x2.length cq3∧L 4=.int .i64 z1∧Ext w4 w) F ⟨_,_,hB17,l7_j6,O7_j6,rfl,l0_j6,l3_j6,l4_j6,K0_j6⟩ ?_
  rintro m L w22 ⟨y10,y11,hB17,l7_i28,O7_i28,l12_i28,l0_i28,l3_i28,l4_i28,K0_i28⟩
  rcases m with _ | m
  ·rw [word_song_ways_l4] at hB17; cases hB17
  rw [word_song_ways_l4] at hB17
  have k55:=K0_j1.tr K0_i28
  refine wp_seq<|Zr<|Zm<|Zv (xgeq l12_i28 rfl)<|nl<|cnd rfl (fun h29=>?_) (fun h29=>?_)
  ·
   have hB17:=ifp hB17 h29
   refine wp_skip<|wp_seq<|wp_block<|wp_seq<|Zr<|Zm<|Zm<|?_
   have hz:=bs hB17; obtain ⟨x17,Ex17,hB17⟩:=hz
   have hz:=(RV.els r5).ix Ex17; obtain ⟨b9,f5,cs12,e8,i29,i30,q15,hc17⟩:=hz
   cases e8
   obtain rfl:=q15
   have hc18:=hc17.ext k55
   refine Zv (xixs l3_i28 l12_i28 Tryz.underlying41 ti3 i29 i30)<|Zv (xld rfl ti3 (hc18.at 0 rfl))<|Zm<|Zv (xeql rfl l4_i28)<|nl<|?_
   have hz:=bs hB17; obtain ⟨y12,hB19,hB17⟩:=hz
   refine ct (fun L w=>L 7=(.slice (some ⟨b3,0,none⟩) x5.length x5.length)∧Row 225 w4.heap.size w (.slice (some ⟨b3,0,none⟩) x5.length x5.length) y12∧L 0=.pointer (some ⟨b0,0,none⟩)∧L 3=.slice (some ⟨b9,f5,none⟩) x2.length cq3∧L 4=.int .i64 z1∧L 12=.int .i64 y11∧Ext w4 w) ?_ ?_
   ·
    refine cnd rfl (fun h30=>?_) (fun h30=>?_)
    ·
     have hB19:=ifp hB19 h30
     refine rg<|Zm<|Zm<|?_
     have hz:=bs hB19; obtain ⟨x18,Ex18,hB19⟩:=hz
     have hz:=ix2 O7_i28.rv Ex18; obtain ⟨cs13,i31,i32,q16,hc19⟩:=hz
     obtain ⟨_,_,rfl,rfl,rfl⟩:=q16
     have i33:y11<(x5.length:Int):=by rw [(RV.cap O7_i28.rv).1]; exact i32
     refine Zv (xixs l7_i28 l12_i28 Tryz.underlying216 ti225 i31 i33)<|Zv (xfa rfl fa225_1)<|sstrk (l:=y10) (x18.1,1) 1 rfl rfl rfl rfl rfl ti2 O7_i28 Ex18 rfl (by decide) fun w23 hch5 o8=>?_
     have k58:=Ext.chg K0_i28 hch5 (Nat.le_trans (Nat.le_refl _) (Row.ge O7_i28))
     refine nl<|?_
     cases hB19
     refine lf<|?_
     exact ⟨l7_i28,o8,l0_i28,l3_i28,l4_i28,l12_i28,k58⟩
    ·
     have hB19:=ifn hB19 h30
     refine wp_skip<|?_
     cases hB19
     refine lf<|?_
     exact ⟨l7_i28,O7_i28,l0_i28,l3_i28,l4_i28,l12_i28,K0_i28⟩
   rintro L w24 ⟨l7_j7,O7_j7,l0_j7,l3_j7,l4_j7,l12_j7,K0_j7⟩
   refine Zr<|Zm<|Zv (xadd l12_j7 rfl)<|Za<|nl<|?_
   have hz:=bs hB17; obtain ⟨z5,hB22,hB17⟩:=hz
   refine ct (fun L w=>L 7=(.slice (some ⟨b3,0,none⟩) x5.length x5.length)∧Row 225 w4.heap.size w (.slice (some ⟨b3,0,none⟩) x5.length x5.length) z5∧L 0=.pointer (some ⟨b0,0,none⟩)∧L 3=.slice (some ⟨b9,f5,none⟩) x2.length cq3∧L 4=.int .i64 z1∧L 12=.int .i64 y11∧Ext w4 w) ?_ ?_
   ·
    refine wp_block<|lp (I:=fun m L w=>∃ y13:(List (Int×Int)),∃ y14:Int,word_song_ways_l5 F x0 x2 y11 m y13 y14 =some z5∧L 7=(.slice (some ⟨b3,0,none⟩) x5.length x5.length)∧Row 225 w4.heap.size w (.slice (some ⟨b3,0,none⟩) x5.length x5.length) y13∧L 13=.int .i64 y14∧L 0=.pointer (some ⟨b0,0,none⟩)∧L 3=.slice (some ⟨b9,f5,none⟩) x2.length cq3∧L 4=.int .i64 z1∧L 12=.int .i64 y11∧Ext w4 w) F ⟨_,_,hB22,l7_j7,O7_j7,rfl,l0_j7,l3_j7,l4_j7,l12_j7,K0_j7⟩ ?_
    rintro m L w25 ⟨y13,y14,hB22,l7_i34,O7_i34,l13_i34,l0_i34,l3_i34,l4_i34,l12_i34,K0_i34⟩
    rcases m with _ | m
    ·rw [word_song_ways_l5] at hB22; cases hB22
    rw [word_song_ways_l5] at hB22
    have k61:=k4.tr K0_i34
    have k62:=K0_j1.tr K0_i34
    have r112:=r17.ext K0_i34
    have r113:=r18.ext K0_i34
    have r114:=r19.ext K0_i34
    have h33:=h6.ext K0_i34
    refine wp_seq<|Zr<|Zm<|Zm<|Zv (xnil l0_i34)<|Zv (xfa rfl fa221_2)<|Zv (xld rfl ti214 (h33.at 2 rfl))<|Zv (xlen rfl Tryz.underlying214)<|Zv (xlss l13_i34 rfl)<|nl<|cnd rfl (fun h34=>?_) (fun h34=>?_)
    ·
     have hB22:=ifp hB22 h34
     refine wp_skip<|wp_seq<|?_
     have hz:=bs hB22; obtain ⟨y15,hB24,hB22⟩:=hz
     refine ct (fun L w=>L 7=(.slice (some ⟨b3,0,none⟩) x5.length x5.length)∧Row 225 w4.heap.size w (.slice (some ⟨b3,0,none⟩) x5.length x5.length) y15∧L 0=.pointer (some ⟨b0,0,none⟩)∧L 3=.slice (some ⟨b9,f5,none⟩) x2.length cq3∧L 4=.int .i64 z1∧L 12=.int .i64 y11∧L 13=.int .i64 y14∧Ext w4 w) ?_ ?_
     ·
      refine wp_block<|wp_seq<|?_
      have hz:=bs hB24; obtain ⟨y16,hB25,hB24⟩:=hz
      refine ct (fun L w=>L 166=.bool y16∧L 0=.pointer (some ⟨b0,0,none⟩)∧L 3=.slice (some ⟨b9,f5,none⟩) x2.length cq3∧L 4=.int .i64 z1∧L 7=.slice (some ⟨b3,0,none⟩) x5.length x5.length∧L 12=.int .i64 y11∧L 13=.int .i64 y14∧w4.heap.size≤w.heap.size∧Ext w25 w) ?_ ?_
      ·
       refine wpl [] (.pure true 0 (.pure true 1 (.pure true 2 (.pure false 3 (.pure true 4 (.pure true 5 (.pure true 6 (.pure true 7 (.pure false 8 (.pure true 9 (.pure true 10 (.pure true 11 (.pure true 12 (.pure true 13 (.pure true 14 (.pure false 15 (.pure true 16 (.pure true 17 (.pure true 18 (.pure true 19 (.pure false 20 (.pure true 21 (.pure true 22 (.pure true 23 (.pure true 24 (.pure true 25 (.pure true 26 (.pure true 27 (.pure false 28 (.pure true 29 (.pure true 30 (.pure false 31 (.pure true 32 (.pure true 33 (.pure true 34 (.pure false 35 (.pure true 36 (.pure true 37 (.pure false 38 (.eff 39 (.pure true 40 .fin) .stop)))))))))))))))))))))))))))))))))))))))) mixed (by kernel_rfl) (fun w27 hx10=>?_)
       have k66:=k61.tr hx10
       have k67:=k62.tr hx10
       have k68:=K0_i34.tr hx10
       have r120:=r112.ext hx10
       have r121:=r113.ext hx10
       have r122:=r114.ext hx10
       have h36:=h33.ext hx10
       have O9:=O7_i34.ext hx10
       refine Zn rfl<|Zn rfl<|?_
       have hz:=bs hB25; obtain ⟨x21,Ex21,hB25⟩:=hz
       have hz:=ix2 O9.rv Ex21; obtain ⟨cs16,i41,i42,q19,hc22⟩:=hz
       obtain ⟨_,_,rfl,rfl,rfl⟩:=q19
       have i43:y14<(x5.length:Int):=by rw [(RV.cap O9.rv).1]; exact i42
       refine Zp rfl (fun _=>xixs l7_i34 l13_i34 Tryz.underlying216 ti225 i41 i43)<|Zq rfl (fun _ hS=>xlda rfl ti225 rfl (hc22.ext (hS.resolve_left nofun))) (Ext.refl _)<|Zn rfl<|Zn rfl<|?_
       have hz:=bs hB25; obtain ⟨x22,Ex22,hB25⟩:=hz
       have hz:=ix2 O9.rv Ex22; obtain ⟨cs17,i44,i45,q20,hc23⟩:=hz
       obtain ⟨_,_,rfl,rfl,rfl⟩:=q20
       have i46:y14<(x5.length:Int):=by rw [(RV.cap O9.rv).1]; exact i45
       refine Zp rfl (fun _=>xixs l7_i34 l13_i34 Tryz.underlying216 ti225 i44 i46)<|Zp rfl (fun _=>xfa rfl fa225_0)<|Zq rfl (fun _ hS=>xld rfl ti2 ((hc23.ext (hS.resolve_left nofun)).at 0 rfl)) (Ext.refl _)<|Zp rfl (fun _=>xbdv (r:=[.int .i64 x22.1,.int .i64 0]) ti225 sp225 (pc rfl (pc rfl pn)) rfl)<|Zp rfl (fun _=>xagn (α:=(Int×Int)) (a:=(x21.1,x21.2)) (b:=(x22.1,0)) rfl eg225 eq225 rfl rfl rfl rfl rfl)<|Zn rfl<|?_
       refine Or.elim (Bool.eq_false_or_eq_true (!decide ((x21.1,x21.2)=(x22.1,0)))) (fun h37=>?_) (fun h37=>?_)
       ·
        have hB25:=ifp hB25 h37
        refine Zt rfl rfl rfl rfl (bt h37) (fun _=>xmv)<|Zt rfl rfl rfl rfl (bt h37) (fun _=>xmv)<|?_
        have hz:=bs hB25; obtain ⟨x23,Ex23,hB25⟩:=hz
        have hz:=ix2 r5 Ex23; obtain ⟨cs18,i47,i48,q21,hc24⟩:=hz
        obtain rfl:=q21
        have hc25:=hc24.ext k67
        refine Zt rfl rfl rfl rfl (bt h37) (fun _=>xixs l3_i34 l12_i34 Tryz.underlying41 ti3 i47 i48)<|pvt rfl rfl rfl rfl rfl rfl (bt h37) rfl (fun _ hS=>xld rfl ti3 ((hc25.ext (hS.resolve_left nofun)).at 0 rfl)) (.inr (Ext.refl _))<|Zt rfl rfl rfl rfl (bt h37) (fun _=>xadd rfl rfl)<|Zt rfl rfl rfl rfl (bt h37) (fun _=>xmv)<|Zt rfl rfl rfl rfl (bt h37) (fun _=>xmv)<|?_
        have hz:=bs hB25; obtain ⟨x24,Ex24,hB25⟩:=hz
        have hz:=ix2 r5 Ex24; obtain ⟨cs19,i49,i50,q22,hc26⟩:=hz
        obtain rfl:=q22
        have hc27:=hc26.ext k67
        refine Zt rfl rfl rfl rfl (bt h37) (fun _=>xixs l3_i34 l13_i34 Tryz.underlying41 ti3 i49 i50)<|pvt rfl rfl rfl rfl rfl rfl (bt h37) rfl (fun _ hS=>xld rfl ti3 ((hc27.ext (hS.resolve_left nofun)).at 0 rfl)) (.inr (Ext.refl _))<|Zt rfl rfl rfl rfl (bt h37) (fun _=>xeql rfl rfl)<|Zp rfl (fun _=>xpt rfl h37 rfl)<|Zn rfl<|?_
        refine Or.elim (Bool.eq_false_or_eq_true (decide ((w64 (x23 + 1))=x24))) (fun h38=>?_) (fun h38=>?_)
        ·
         have hB25:=ifp hB25 h38
         refine Zt rfl rfl rfl rfl (bt h38) (fun _=>xmv)<|Zt rfl rfl rfl rfl (bt h38) (fun _=>xmv)<|Zt rfl rfl rfl rfl (bt h38) (fun _=>xnil l0_i34)<|Zt rfl rfl rfl rfl (bt h38) (fun _=>xfa rfl fa221_2)<|pvt rfl rfl rfl rfl rfl rfl (bt h38) rfl (fun _ hS=>xld rfl ti214 ((h36.ext (hS.resolve_left nofun)).at 2 rfl)) (.inr (Ext.refl _))<|Zt rfl rfl rfl rfl (bt h38) (fun _=>xmv)<|?_
         have hz:=bs hB25; obtain ⟨x25,Ex25,hB25⟩:=hz
         have hz:=(RV.els r4).ix Ex25; obtain ⟨b10,f6,cs20,e9,i51,i52,q23,hc28⟩:=hz
         cases e9
         obtain rfl:=q23
         have hc29:=hc28.ext k66
         refine Zt rfl rfl rfl rfl (bt h38) (fun _=>xixs rfl l12_i34 Tryz.underlying214 ti223 i51 i52)<|pvt rfl rfl rfl rfl rfl rfl (bt h38) rfl (fun _ hS=>xlda rfl ti223 (arlen _) (hc29.ext (hS.resolve_left nofun))) (.inr (Ext.refl _))<|Zt rfl rfl rfl rfl (bt h38) (fun _=>xmv)<|Zt rfl rfl rfl rfl (bt h38) (fun _=>xnil l0_i34)<|Zt rfl rfl rfl rfl (bt h38) (fun _=>xfa rfl fa221_2)<|pvt rfl rfl rfl rfl rfl rfl (bt h38) rfl (fun _ hS=>xld rfl ti214 ((h36.ext (hS.resolve_left nofun)).at 2 rfl)) (.inr (Ext.refl _))<|Zt rfl rfl rfl rfl (bt h38) (fun _=>xmv)<|?_
         have hz:=bs hB25; obtain ⟨x26,Ex26,hB25⟩:=hz
         have hz:=ix2 r4 Ex26; obtain ⟨cs21,i53,i54,q24,hc30⟩:=hz
         obtain rfl:=q24
         have hc31:=hc30.ext k66
         refine Zt rfl rfl rfl rfl (bt h38) (fun _=>xixs rfl l13_i34 Tryz.underlying214 ti223 i53 i54)<|pvt rfl rfl rfl rfl rfl rfl (bt h38) rfl (fun _ hS=>xlda rfl ti223 (arlen _) (hc31.ext (hS.resolve_left nofun))) (.inr (Ext.refl _))<|?_
         have hz:=bs hB25; obtain ⟨x27,Ex27,hB25⟩:=hz
         refine pe1 rfl<|gtk rfl rfl rfl rfl rfl (bt h38)<|Zc (xc cb133 (mc l0_i34 (mc rfl (mc rfl mn)))) (c133 (x0:=(x0.1,x0.2.1,x0.2.2)) h36 ⟨[.pointer a1],[.slice a2 x0.2.1.length cq1]++[.slice (some ⟨b10,f6,none⟩) x0.2.2.length cq2],rfl,(obRep1 r120),⟨[.slice a2 x0.2.1.length cq1],[.slice (some ⟨b10,f6,none⟩) x0.2.2.length cq2],rfl,r121.rep1,r122.rep1⟩⟩ (show RV (α:=(Ar 4 Int)) _ (.agg (List.flatMap Flat.enc x25.l).toArray) x25 from ⟨_,rfl,rfl⟩) (show RV (α:=(Ar 4 Int)) _ (.agg (List.flatMap Flat.enc x26.l).toArray) x26 from ⟨_,rfl,rfl⟩) Ex27) ?_
         rintro _ w28 ⟨rfl,hx11⟩
         have k71:=k68.tr hx11
         have k72:=hx10.tr hx11
         refine nl ⟨fun _ _=>hx11,?_⟩
         refine Zp rfl (fun _=>xpt rfl h38 rfl)<|?_
         cases hB25
         refine lf<|?_
         exact ⟨rfl,l0_i34,l3_i34,l4_i34,l7_i34,l12_i34,l13_i34,k71.size,k72⟩
        ·
         have hB25:=ifn hB25 h38
         refine Zf rfl rfl rfl rfl (bft h38)<|Zf rfl rfl rfl rfl (bft h38)<|Zf rfl rfl rfl rfl (bft h38)<|Zf rfl rfl rfl rfl (bft h38)<|pvf rfl rfl rfl rfl rfl rfl (bft h38) rfl (.inr (Ext.refl _))<|Zf rfl rfl rfl rfl (bft h38)<|Zf rfl rfl rfl rfl (bft h38)<|pvf rfl rfl rfl rfl rfl rfl (bft h38) rfl (.inr (Ext.refl _))<|Zf rfl rfl rfl rfl (bft h38)<|Zf rfl rfl rfl rfl (bft h38)<|Zf rfl rfl rfl rfl (bft h38)<|pvf rfl rfl rfl rfl rfl rfl (bft h38) rfl (.inr (Ext.refl _))<|Zf rfl rfl rfl rfl (bft h38)<|Zf rfl rfl rfl rfl (bft h38)<|pvf rfl rfl rfl rfl rfl rfl (bft h38) rfl (.inr (Ext.refl _))<|pe1 rfl<|gfk rfl rfl rfl rfl rfl (bft h38) rfl<|nl ⟨fun _ _=>(Ext.refl _),?_⟩
         refine Zp rfl (fun _=>xpf rfl h38 rfl)<|?_
         cases hB25
         refine lf<|?_
         exact ⟨rfl,l0_i34,l3_i34,l4_i34,l7_i34,l12_i34,l13_i34,k68.size,hx10⟩
       ·
        have hB25:=ifn hB25 h37
        refine Zf rfl rfl rfl rfl (bft h37)<|Zf rfl rfl rfl rfl (bft h37)<|Zf rfl rfl rfl rfl (bft h37)<|pvf rfl rfl rfl rfl rfl rfl (bft h37) rfl (.inr (Ext.refl _))<|Zf rfl rfl rfl rfl (bft h37)<|Zf rfl rfl rfl rfl (bft h37)<|Zf rfl rfl rfl rfl (bft h37)<|Zf rfl rfl rfl rfl (bft h37)<|pvf rfl rfl rfl rfl rfl rfl (bft h37) rfl (.inr (Ext.refl _))<|Zf rfl rfl rfl rfl (bft h37)<|Zp rfl (fun _=>xpf rfl h37 rfl)<|Zn rfl<|?_
        refine Or.elim (Bool.eq_false_or_eq_true false) (fun h40=>?_) (fun h40=>?_)
        ·
         have hB25:=ifp hB25 h40
         refine Zt rfl rfl rfl rfl (bt h40) (fun _=>xmv)<|Zt rfl rfl rfl rfl (bt h40) (fun _=>xmv)<|Zt rfl rfl rfl rfl (bt h40) (fun _=>xnil l0_i34)<|Zt rfl rfl rfl rfl (bt h40) (fun _=>xfa rfl fa221_2)<|pvt rfl rfl rfl rfl rfl rfl (bt h40) rfl (fun _ hS=>xld rfl ti214 ((h36.ext (hS.resolve_left nofun)).at 2 rfl)) (.inr (Ext.refl _))<|Zt rfl rfl rfl rfl (bt h40) (fun _=>xmv)<|?_
         have hz:=bs hB25; obtain ⟨x28,Ex28,hB25⟩:=hz
         have hz:=(RV.els r4).ix Ex28; obtain ⟨b11,f7,cs22,e10,i55,i56,q25,hc32⟩:=hz
         cases e10
         obtain rfl:=q25
         have hc33:=hc32.ext k66
         refine Zt rfl rfl rfl rfl (bt h40) (fun _=>xixs rfl l12_i34 Tryz.underlying214 ti223 i55 i56)<|pvt rfl rfl rfl rfl rfl rfl (bt h40) rfl (fun _ hS=>xlda rfl ti223 (arlen _) (hc33.ext (hS.resolve_left nofun))) (.inr (Ext.refl _))<|Zt rfl rfl rfl rfl (bt h40) (fun _=>xmv)<|Zt rfl rfl rfl rfl (bt h40) (fun _=>xnil l0_i34)<|Zt rfl rfl rfl rfl (bt h40) (fun _=>xfa rfl fa221_2)<|pvt rfl rfl rfl rfl rfl rfl (bt h40) rfl (fun _ hS=>xld rfl ti214 ((h36.ext (hS.resolve_left nofun)).at 2 rfl)) (.inr (Ext.refl _))<|Zt rfl rfl rfl rfl (bt h40) (fun _=>xmv)<|?_
         have hz:=bs hB25; obtain ⟨x29,Ex29,hB25⟩:=hz
         have hz:=ix2 r4 Ex29; obtain ⟨cs23,i57,i58,q26,hc34⟩:=hz
         obtain rfl:=q26
         have hc35:=hc34.ext k66
         refine Zt rfl rfl rfl rfl (bt h40) (fun _=>xixs rfl l13_i34 Tryz.underlying214 ti223 i57 i58)<|pvt rfl rfl rfl rfl rfl rfl (bt h40) rfl (fun _ hS=>xlda rfl ti223 (arlen _) (hc35.ext (hS.resolve_left nofun))) (.inr (Ext.refl _))<|?_
         have hz:=bs hB25; obtain ⟨x30,Ex30,hB25⟩:=hz
         refine pe1 rfl<|gtk rfl rfl rfl rfl rfl (bt h40)<|Zc (xc cb133 (mc l0_i34 (mc rfl (mc rfl mn)))) (c133 (x0:=(x0.1,x0.2.1,x0.2.2)) h36 ⟨[.pointer a1],[.slice a2 x0.2.1.length cq1]++[.slice (some ⟨b11,f7,none⟩) x0.2.2.length cq2],rfl,(obRep1 r120),⟨[.slice a2 x0.2.1.length cq1],[.slice (some ⟨b11,f7,none⟩) x0.2.2.length cq2],rfl,r121.rep1,r122.rep1⟩⟩ (show RV (α:=(Ar 4 Int)) _ (.agg (List.flatMap Flat.enc x28.l).toArray) x28 from ⟨_,rfl,rfl⟩) (show RV (α:=(Ar 4 Int)) _ (.agg (List.flatMap Flat.enc x29.l).toArray) x29 from ⟨_,rfl,rfl⟩) Ex30) ?_
         rintro _ w29 ⟨rfl,hx12⟩
         have k75:=k68.tr hx12
         have k76:=hx10.tr hx12
         refine nl ⟨fun _ _=>hx12,?_⟩
         refine Zp rfl (fun _=>xpt rfl h40 rfl)<|?_
         cases hB25
         refine lf<|?_
         exact ⟨rfl,l0_i34,l3_i34,l4_i34,l7_i34,l12_i34,l13_i34,k75.size,k76⟩
        ·
         have hB25:=ifn hB25 h40
         refine Zf rfl rfl rfl rfl (bft h40)<|Zf rfl rfl rfl rfl (bft h40)<|Zf rfl rfl rfl rfl (bft h40)<|Zf rfl rfl rfl rfl (bft h40)<|pvf rfl rfl rfl rfl rfl rfl (bft h40) rfl (.inr (Ext.refl _))<|Zf rfl rfl rfl rfl (bft h40)<|Zf rfl rfl rfl rfl (bft h40)<|pvf rfl rfl rfl rfl rfl rfl (bft h40) rfl (.inr (Ext.refl _))<|Zf rfl rfl rfl rfl (bft h40)<|Zf rfl rfl rfl rfl (bft h40)<|Zf rfl rfl rfl rfl (bft h40)<|pvf rfl rfl rfl rfl rfl rfl (bft h40) rfl (.inr (Ext.refl _))<|Zf rfl rfl rfl rfl (bft h40)<|Zf rfl rfl rfl rfl (bft h40)<|pvf rfl rfl rfl rfl rfl rfl (bft h40) rfl (.inr (Ext.refl _))<|pe1 rfl<|gfk rfl rfl rfl rfl rfl (bft h40) rfl<|nl ⟨fun _ _=>(Ext.refl _),?_⟩
         refine Zp rfl (fun _=>xpf rfl h40 rfl)<|?_
         cases hB25
         refine lf<|?_
         exact ⟨rfl,l0_i34,l3_i34,l4_i34,l7_i34,l12_i34,l13_i34,k68.size,hx10⟩
      rintro L w30 ⟨l166_j8,l0_j8,l3_j8,l4_j8,l7_j8,l12_j8,l13_j8,Z0_j8,K0_j8⟩
      have k79:=K0_i34.tr K0_j8
      have O12:=O7_i34.ext K0_j8
      have hz:=bs hB24; obtain ⟨y17,hB26,hB24⟩:=hz
      refine ct (fun L w=>L 7=(.slice (some ⟨b3,0,none⟩) x5.length x5.length)∧Row 225 w4.heap.size w (.slice (some ⟨b3,0,none⟩) x5.length x5.length) y17∧L 0=.pointer (some ⟨b0,0,none⟩)∧L 3=.slice (some ⟨b9,f5,none⟩) x2.length cq3∧L 4=.int .i64 z1∧L 12=.int .i64 y11∧L 13=.int .i64 y14∧Ext w4 w) ?_ ?_
      ·
       refine cnd l166_j8 (fun h43=>?_) (fun h43=>?_)
       ·
        have hB26:=ifp hB26 h43
        refine wpl [13] (.pure true 0 (.pure true 1 (.pure true 2 (.pure true 3 (.pure false 4 (.pure true 5 (.pure true 6 (.pure true 7 (.pure true 8 (.pure false 9 (.pure true 10 (.pure true 11 (.pure true 12 (.eff 13 .fin .stop)))))))))))))) mixed (by kernel_rfl) (fun w31 hx13=>?_)
        have k82:=k79.tr hx13
        have O13:=O12.ext hx13
        refine Zn rfl<|Zn rfl<|?_
        have hz:=bs hB26; obtain ⟨x31,Ex31,hB26⟩:=hz
        have hz:=ix2 O13.rv Ex31; obtain ⟨cs24,i59,i60,q27,hc36⟩:=hz
        obtain ⟨_,_,rfl,rfl,rfl⟩:=q27
        have i61:y11<(x5.length:Int):=by rw [(RV.cap O13.rv).1]; exact i60
        refine Zp rfl (fun _=>xixs l7_j8 l12_j8 Tryz.underlying216 ti225 i59 i61)<|Zp rfl (fun _=>xfa rfl fa225_1)<|Zq rfl (fun _ hS=>xld rfl ti2 ((hc36.ext (hS.resolve_left nofun)).at 1 rfl)) (Ext.refl _)<|Zn rfl<|Zn rfl<|?_
        have hz:=bs hB26; obtain ⟨x32,Ex32,hB26⟩:=hz
        have hz:=ix2 O13.rv Ex32; obtain ⟨cs25,i62,i63,q28,hc37⟩:=hz
        obtain ⟨_,_,rfl,rfl,rfl⟩:=q28
        have i64:y14<(x5.length:Int):=by rw [(RV.cap O13.rv).1]; exact i63
        refine Zp rfl (fun _=>xixs l7_j8 l13_j8 Tryz.underlying216 ti225 i62 i64)<|Zp rfl (fun _=>xfa rfl fa225_1)<|Zq rfl (fun _ hS=>xld rfl ti2 ((hc37.ext (hS.resolve_left nofun)).at 1 rfl)) (Ext.refl _)<|Zp rfl (fun _=>xadd rfl rfl)<|?_
        have hz:=bs hB26; obtain ⟨x33,Ex33,hB26⟩:=hz
        have hz:=ix2 O13.rv Ex33; obtain ⟨cs26,i65,i66,q29,hc38⟩:=hz
        obtain ⟨_,_,rfl,rfl,rfl⟩:=q29
        have i67:y11<(x5.length:Int):=by rw [(RV.cap O13.rv).1]; exact i66
        refine Zp rfl (fun _=>xixs l7_j8 l12_j8 Tryz.underlying216 ti225 i65 i67)<|Zp rfl (fun _=>xfa rfl fa225_1)<|pe1 rfl<|sstrk (l:=y13) (x33.1,w64 (x31.2 + x32.2)) 1 rfl rfl rfl rfl rfl ti2 O13 Ex33 rfl (by decide) fun w32 hch6 o10=>?_
        have k86:=Ext.chg k82 hch6 (Nat.le_trans (Nat.le_refl _) (Row.ge O13))
        refine nl ⟨fun h=>(h (by decide)).elim,?_⟩
        cases hB26
        refine lf<|?_
        exact ⟨l7_j8,o10,l0_j8,l3_j8,l4_j8,l12_j8,l13_j8,k86⟩
       ·
        have hB26:=ifn hB26 h43
        refine wp_skip<|?_
        cases hB26
        refine lf<|?_
        exact ⟨l7_j8,O12,l0_j8,l3_j8,l4_j8,l12_j8,l13_j8,k79⟩
      rintro L w33 ⟨l7_j9,O7_j9,l0_j9,l3_j9,l4_j9,l12_j9,l13_j9,K0_j9⟩
      cases hB24
      refine lf<|?_
      exact ⟨l7_j9,O7_j9,l0_j9,l3_j9,l4_j9,l12_j9,l13_j9,K0_j9⟩
     rintro L w34 ⟨l7_j10,O7_j10,l0_j10,l3_j10,l4_j10,l12_j10,l13_j10,K0_j10⟩
     refine rg<|Zm<|Zv (xadd l13_j10 rfl)<|Za<|nl<|?_
     refine lq m (Nat.lt_succ_self _)<|?_
     exact ⟨_,_,hB22,l7_j10,O7_j10,rfl,l0_j10,l3_j10,l4_j10,l12_j10,K0_j10⟩
    ·
     have hB22:=ifn hB22 h34
     refine wp_exit<|?_
     cases hB22
     refine lf<|?_
     exact ⟨l7_i34,O7_i34,l0_i34,l3_i34,l4_i34,l12_i34,K0_i34⟩
   rintro L w35 ⟨l7_j11,O7_j11,l0_j11,l3_j11,l4_j11,l12_j11,K0_j11⟩
   refine rg<|Zm<|Zv (xsub l12_j11 rfl)<|Za<|nl<|?_
   refine lq m (Nat.lt_succ_self _)<|?_
   exact ⟨_,_,hB17,l7_j11,O7_j11,rfl,l0_j11,l3_j11,l4_j11,K0_j11⟩
  ·
   have hB17:=ifn hB17 h29
   refine wp_exit<|?_
   cases hB17
   refine lf<|?_
   exact ⟨l7_i28,O7_i28,K0_i28⟩
 rintro L w36 ⟨l7_j12,O7_j12,K0_j12⟩
 have k93:=k4.tr K0_j12
 refine Zr<|Zm<|Za<|nl<|?_
 cases hF
 exact wp_ret<|rt rfl (.tmp l7_j12 rfl .nil) ⟨_,rfl,O7_j12.rv,k93⟩
theorem c124 {w0:World} {b0:Nat} {cs0:List Value} {x0:((Ob ((Uno (List (Ar 2 Int)))×(Ar 101 Int)))×(List (List Int))×(List (Ar 4 Int)))} (h0:Cs w0 b0 0 cs0) (q0:Enc.rep (fun _=>True) w0 cs0 x0) {F:Nat} {r:(List (Ar 4 Int))} (hF:word_song_longest F x0=some r) :
  Calls Tryz.prog 124 [.pointer (some ⟨b0,0,none⟩)].toArray w0 (Ret fun v w'=>∃ u0:Value,v=u0∧RV w' u0 r∧Ext w0 w'):=by
 unfold word_song_longest at hF
 obtain ⟨_,_,rfl,q2,⟨_,_,rfl,⟨a2,cq1,rfl,p1,q3,e1⟩,⟨a3,cq2,rfl,p2,q4,e2⟩⟩⟩:=q0
 have hz:=obRep q2; obtain ⟨a1,rfl,r2⟩:=hz
 have r3:=RV.of1 p1 q3 e1
 have r4:=RV.of1 p2 q4 e2
 refine entr (n:=65) Tryz.func124 rfl rfl rfl<|Zr<|Za<|nl<|Zr<|Zm<|?_
 have hz:=bs hF; obtain ⟨x2,Ex2,hF⟩:=hz
 refine Zc (xc cb125 (mc rfl mn)) (c125 (x0:=(x0.1,x0.2.1,x0.2.2)) h0 ⟨[.pointer a1],[.slice a2 x0.2.1.length cq1]++[.slice a3 x0.2.2.length cq2],rfl,(obRep1 r2),⟨[.slice a2 x0.2.1.length cq1],[.slice a3 x0.2.2.length cq2],rfl,r3.rep1,r4.rep1⟩⟩ Ex2) ?_
 rintro _ w1 ⟨u1,rfl,r5,hx1⟩
 have r6:=r2.ext hx1
 have r7:=r3.ext hx1
 have r8:=r4.ext hx1
 have h2:=h0.ext hx1
 have hz:=RV.sl r5; obtain ⟨a4,cq3,rfl,-,-,-⟩:=hz
 refine Za<|nl<|Zr<|Zm<|?_
 have hz:=bs hF; obtain ⟨x3,Ex3,hF⟩:=hz
 refine Zc (xc cb130 (mc rfl mn)) (c130 (x0:=(x0.1,x0.2.1,x0.2.2)) h2 ⟨[.pointer a1],[.slice a2 x0.2.1.length cq1]++[.slice a3 x0.2.2.length cq2],rfl,(obRep1 r6),⟨[.slice a2 x0.2.1.length cq1],[.slice a3 x0.2.2.length cq2],rfl,r7.rep1,r8.rep1⟩⟩ Ex3) ?_
 rintro _ w2 ⟨u2,rfl,r9,hx2⟩
 have k1:=hx1.tr hx2
 have r10:=r6.ext hx2
 have r11:=r7.ext hx2
 have r12:=r8.ext hx2
 have h3:=h2.ext hx2
 have r13:=r5.ext hx2
 have hz:=RV.sl r9; obtain ⟨a5,cq4,rfl,-,-,-⟩:=hz
 refine Za<|nl<|Zr<|Za<|nl<|wp_seq<|Zr<|Zm<|Zv (xnil rfl)<|Zv (xfa rfl fa221_2)<|Zv (xld rfl ti214 (h3.at 2 rfl))<|Zv (xlen rfl Tryz.underlying214)<|Zm<|nl<|?_
 have o1:Row (α:=(Ar 4 Int)) 223 w2.heap.size w2 (.slice none 0 0) []:=Row.nil
 have hz:=bs hF; obtain ⟨z1,hB1,hF⟩:=hz
 refine ct (fun L w=>∃ v3:Value,L 5=v3∧Row 223 w2.heap.size w v3 z1∧Ext w2 w) ?_ ?_
 ·
  refine wp_block<|lp (I:=fun m L w=>∃ y1:(List (Ar 4 Int)),∃ y2:Int,∃ v2:Value,word_song_longest_l1 F x0 x2 x3 m y1 y2 =some z1∧L 5=v2∧Row 223 w2.heap.size w v2 y1∧L 17=.int .i64 y2∧L 0=.pointer (some ⟨b0,0,none⟩)∧L 3=.slice a4 x2.length cq3∧L 4=.slice a5 x3.length cq4∧L 15=.slice a3 x0.2.2.length cq2∧L 16=.int .i64 (x0.2.2.length:Int)∧Ext w2 w) F ⟨_,_,_,hB1,rfl,o1,rfl,rfl,rfl,rfl,rfl,rfl,(Ext.refl _)⟩ ?_
  rintro m L w3 ⟨y1,y2,v2,hB1,l5_i1,O5_i1,l17_i1,l0_i1,l3_i1,l4_i1,l15_i1,l16_i1,K0_i1⟩
  rcases m with _ | m
  ·rw [word_song_longest_l1] at hB1; cases hB1
  rw [word_song_longest_l1] at hB1
  have k2:=k1.tr K0_i1
  have r14:=r10.ext K0_i1
  have r15:=r11.ext K0_i1
  have r16:=r12.ext K0_i1
  have h4:=h3.ext K0_i1
  have hz:=RV.sl O5_i1.rv; obtain ⟨a6,cq5,rfl,-,-,-⟩:=hz
  refine Zr<|Zv (xlss l17_i1 l16_i1)<|nl<|wp_seq<|cnd rfl (fun h5=>?_) (fun h5=>?_)
  ·
   have hB1:=ifp hB1 h5
   refine wp_skip<|wp_seq<|?_
   have hz:=bs hB1; obtain ⟨y3,hB3,hB1⟩:=hz
   refine ct (fun L w=>∃ v4:Value,L 5=v4∧Row 223 w2.heap.size w v4 y3∧L 0=.pointer (some ⟨b0,0,none⟩)∧L 3=.slice a4 x2.length cq3∧L 4=.slice a5 x3.length cq4∧L 15=.slice a3 x0.2.2.length cq2∧L 16=.int .i64 (x0.2.2.length:Int)∧L 17=.int .i64 y2∧Ext w2 w) ?_ ?_
   ·
    refine wp_block<|Zr<|Zm<|?_
    have hz:=bs hB3; obtain ⟨x4,Ex4,hB3⟩:=hz
    have hz:=(RV.els r4).ix Ex4; obtain ⟨b2,f1,cs2,e3,i2,i3,q5,hc1⟩:=hz
    cases e3
    obtain rfl:=q5
    have hc2:=hc1.ext k2
    refine Zv (xixs l15_i1 l17_i1 Tryz.underlying214 ti223 i2 i3)<|Zv (xlda rfl ti223 (arlen _) hc2)<|sal ti223 fun b3 w4 hx3 hg1 hb1=>?_
    have k4:=K0_i1.tr hx3
    have hb2:Bx w4 b3 223 (List.flatMap Flat.enc ((Ar.fill 4 0:(Ar 4 Int))).l):=hb1
    refine Za<|sstw rfl rfl ti223 hb2 (arlen _) (arlen _) (flat_one _) fun w5 hch1 hb3=>?_
    have k6:=Ext.chg k4 hch1 (Nat.le_trans K0_i1.size hg1)
    have k7:=Ext.chg hx3 hch1 (Nat.le_trans (Nat.le_refl _) hg1)
    have r24:=r14.ext k7
    have r25:=r15.ext k7
    have r26:=r16.ext k7
    have h7:=h4.ext k7
    have O2:=O5_i1.ext k7
    have hb4:Bx w5 b3 223 (List.flatMap Flat.enc x4.l):=hb3
    refine nl<|wp_seq<|?_
    have hz:=bs hB3; obtain ⟨y4,hB4,hB3⟩:=hz
    refine ct (fun L w=>L 53=.bool y4∧L 0=.pointer (some ⟨b0,0,none⟩)∧L 3=.slice a4 x2.length cq3∧L 4=.slice a5 x3.length cq4∧L 5=.slice a6 y1.length cq5∧L 7=.pointer (some ⟨b3,0,none⟩)∧L 15=.slice (some ⟨b2,f1,none⟩) x0.2.2.length cq2∧L 16=.int .i64 (x0.2.2.length:Int)∧L 17=.int .i64 y2∧w2.heap.size≤w.heap.size∧Ext w5 w) ?_ ?_
    ·
     refine wpl [] (.pure true 0 (.pure true 1 (.pure true 2 (.pure true 3 (.pure false 4 (.pure true 5 (.pure true 6 (.pure true 7 (.pure true 8 (.pure true 9 (.pure false 10 (.pure true 11 (.pure false 12 (.pure true 13 (.pure true 14 (.pure true 15 (.pure true 16 (.pure true 17 (.pure false 18 (.pure true 19 (.pure true 20 (.pure true 21 (.pure true 22 (.pure true 23 (.pure false 24 (.pure true 25 (.pure true 26 (.pure false 27 (.pure false 28 (.eff 29 (.pure true 30 (.pure true 31 .fin)) .stop)))))))))))))))))))))))))))))) mixed (by kernel_rfl) (fun w7 hx5=>?_)
     have k12:=k6.tr hx5
     have hb6:=hb4.ext hx5
     have r34:=r24.ext hx5
     have r35:=r25.ext hx5
     have r36:=r26.ext hx5
     have h9:=h7.ext hx5
     have O4:=O2.ext hx5
     refine Zn rfl<|Zn rfl<|?_
     have hz:=bs hB4; obtain ⟨x6,Ex6,hB4⟩:=hz
     have hz:=(RV.els r13).ix Ex6; obtain ⟨b5,f3,cs4,e5,i6,i7,q7,hc5⟩:=hz
     cases e5
     obtain ⟨_,_,rfl,rfl,rfl⟩:=q7
     have hc6:=hc5.ext k12
     refine Zp rfl (fun _=>xixs l3_i1 l17_i1 Tryz.underlying216 ti225 i6 i7)<|Zp rfl (fun _=>xfa rfl fa225_1)<|Zq rfl (fun _ hS=>xld rfl ti2 ((hc6.ext (hS.resolve_left nofun)).at 1 rfl)) (Ext.refl _)<|Zp rfl (fun _=>xgtr rfl rfl)<|Zn rfl<|?_
     refine Or.elim (Bool.eq_false_or_eq_true (decide (0<x6.2))) (fun h10=>?_) (fun h10=>?_)
     ·
      have hB4:=ifp hB4 h10
      refine Zt rfl rfl rfl rfl (bt h10) (fun _=>xmv)<|Zt rfl rfl rfl rfl (bt h10) (fun _=>xmv)<|?_
      have hz:=bs hB4; obtain ⟨x7,Ex7,hB4⟩:=hz
      have hz:=(RV.els r9).ix Ex7; obtain ⟨b6,f4,cs5,e6,i8,i9,q8,hc7⟩:=hz
      cases e6
      obtain rfl:=q8
      have hc8:=hc7.ext k12
      refine Zt rfl rfl rfl rfl (bt h10) (fun _=>xixs l4_i1 l17_i1 Tryz.underlying41 ti3 i8 i9)<|pvt rfl rfl rfl rfl rfl rfl (bt h10) rfl (fun _ hS=>xld rfl ti3 ((hc8.ext (hS.resolve_left nofun)).at 0 rfl)) (.inr (Ext.refl _))<|Zt rfl rfl rfl rfl (bt h10) (fun _=>xmv)<|pvt rfl rfl rfl rfl rfl rfl (bt h10) rfl (fun _ hS=>xlen l5_i1 Tryz.underlying214) (.inr (Ext.refl _))<|Zt rfl rfl rfl rfl (bt h10) (fun _=>xadd rfl rfl)<|Zt rfl rfl rfl rfl (bt h10) (fun _=>xeql rfl rfl)<|Zp rfl (fun _=>xpt rfl h10 rfl)<|Zn rfl<|?_
      refine Or.elim (Bool.eq_false_or_eq_true (decide (x7=(w64 ((y1.length:Int) + 1))))) (fun h11=>?_) (fun h11=>?_)
      ·
       have hB4:=ifp hB4 h11
       refine Zt rfl rfl rfl rfl (bt h11) (fun _=>xmv)<|pvt rfl rfl rfl rfl rfl rfl (bt h11) rfl (fun _ hS=>xlen l5_i1 Tryz.underlying214) (.inr (Ext.refl _))<|Zt rfl rfl rfl rfl (bt h11) (fun _=>xeql rfl rfl)<|Zt rfl rfl rfl rfl (bt h11) (fun _=>xmv)<|?_
       refine Or.elim (Bool.eq_false_or_eq_true (decide ((y1.length:Int)=0))) (fun h12=>?_) (fun h12=>?_)
       ·
        have hB4:=ifp hB4 h12
        refine Zf rfl rfl rfl rfl (btf h12)<|Zf rfl rfl rfl rfl (btf h12)<|Zf rfl rfl rfl rfl (btf h12)<|pvf rfl rfl rfl rfl rfl rfl (btf h12) rfl (.inr (Ext.refl _))<|Zf rfl rfl rfl rfl (btf h12)<|Zf rfl rfl rfl rfl (btf h12)<|pvf rfl rfl rfl rfl rfl rfl (btf h12) rfl (.inr (Ext.refl _))<|pvf rfl rfl rfl rfl rfl rfl (btf h12) rfl (.inr (Ext.refl _))<|pe1 rfl<|gfk rfl rfl rfl rfl rfl (btf h12) rfl<|nl ⟨fun _ _=>(Ext.refl _),?_⟩
        refine Zt rfl rfl rfl rfl (bt h11) (fun _=>xpt rfl h12 rfl)<|Zp rfl (fun _=>xpt rfl h11 rfl)<|?_
        cases hB4
        refine lf<|?_
        exact ⟨rfl,l0_i1,l3_i1,l4_i1,l5_i1,rfl,l15_i1,l16_i1,l17_i1,k12.size,hx5⟩
       ·
        have hB4:=ifn hB4 h12
        refine Zt rfl rfl rfl rfl (bf h12) (fun _=>xmv)<|Zt rfl rfl rfl rfl (bf h12) (fun _=>xmv)<|Zt rfl rfl rfl rfl (bf h12) (fun _=>xmv)<|pvt rfl rfl rfl rfl rfl rfl (bf h12) rfl (fun _ hS=>xlen l5_i1 Tryz.underlying214) (.inr (Ext.refl _))<|Zt rfl rfl rfl rfl (bf h12) (fun _=>xsub rfl rfl)<|?_
        have hz:=bs hB4; obtain ⟨x8,Ex8,hB4⟩:=hz
        have hz:=(RV.els O4.rv).ix Ex8; obtain ⟨b7,f5,cs6,e7,i10,i11,q9,hc9⟩:=hz
        cases e7
        obtain rfl:=q9
        refine Zt rfl rfl rfl rfl (bf h12) (fun _=>xixs l5_i1 rfl Tryz.underlying214 ti223 i10 i11)<|pvt rfl rfl rfl rfl rfl rfl (bf h12) rfl (fun _ hS=>xlda rfl ti223 (arlen _) (hc9.ext (hS.resolve_left nofun))) (.inr (Ext.refl _))<|pvt rfl rfl rfl rfl rfl rfl (bf h12) rfl (fun _ hS=>xlda rfl ti223 (arlen _) (Bx.cs (hb6.ext (hS.resolve_left nofun)))) (.inr (Ext.refl _))<|?_
        have hz:=bs hB4; obtain ⟨x9,Ex9,hB4⟩:=hz
        refine pe1 rfl<|gtk rfl rfl rfl rfl rfl (bf h12)<|Zc (xc cb133 (mc l0_i1 (mc rfl (mc rfl mn)))) (c133 (x0:=(x0.1,x0.2.1,x0.2.2)) h9 ⟨[.pointer a1],[.slice a2 x0.2.1.length cq1]++[.slice (some ⟨b2,f1,none⟩) x0.2.2.length cq2],rfl,(obRep1 r34),⟨[.slice a2 x0.2.1.length cq1],[.slice (some ⟨b2,f1,none⟩) x0.2.2.length cq2],rfl,r35.rep1,r36.rep1⟩⟩ (show RV (α:=(Ar 4 Int)) _ (.agg (List.flatMap Flat.enc x8.l).toArray) x8 from ⟨_,rfl,rfl⟩) (show RV (α:=(Ar 4 Int)) _ (.agg (List.flatMap Flat.enc x4.l).toArray) x4 from ⟨_,rfl,rfl⟩) Ex9) ?_
        rintro _ w8 ⟨rfl,hx6⟩
        have k15:=k12.tr hx6
        have k17:=hx5.tr hx6
        refine nl ⟨fun _ _=>hx6,?_⟩
        refine Zt rfl rfl rfl rfl (bt h11) (fun _=>xpf rfl h12 rfl)<|Zp rfl (fun _=>xpt rfl h11 rfl)<|?_
        cases hB4
        refine lf<|?_
        exact ⟨rfl,l0_i1,l3_i1,l4_i1,l5_i1,rfl,l15_i1,l16_i1,l17_i1,k15.size,k17⟩
      ·
       have hB4:=ifn hB4 h11
       refine Zf rfl rfl rfl rfl (bft h11)<|pvf rfl rfl rfl rfl rfl rfl (bft h11) rfl (.inr (Ext.refl _))<|Zf rfl rfl rfl rfl (bft h11)<|Zf rfl rfl rfl rfl (bft h11)<|Zf rfl rfl rfl rfl bu<|Zf rfl rfl rfl rfl bu<|Zf rfl rfl rfl rfl bu<|pvf rfl rfl rfl rfl rfl rfl bu rfl (.inr (Ext.refl _))<|Zf rfl rfl rfl rfl bu<|Zf rfl rfl rfl rfl bu<|pvf rfl rfl rfl rfl rfl rfl bu rfl (.inr (Ext.refl _))<|pvf rfl rfl rfl rfl rfl rfl bu rfl (.inr (Ext.refl _))<|pe1 rfl<|gfk rfl rfl rfl rfl rfl bu rfl<|nl ⟨fun _ _=>(Ext.refl _),?_⟩
       refine Zf rfl rfl rfl rfl (bft h11)<|Zp rfl (fun _=>xpf rfl h11 rfl)<|?_
       cases hB4
       refine lf<|?_
       exact ⟨rfl,l0_i1,l3_i1,l4_i1,l5_i1,rfl,l15_i1,l16_i1,l17_i1,k12.size,hx5⟩
     ·
      have hB4:=ifn hB4 h10
      refine Zf rfl rfl rfl rfl (bft h10)<|Zf rfl rfl rfl rfl (bft h10)<|Zf rfl rfl rfl rfl (bft h10)<|pvf rfl rfl rfl rfl rfl rfl (bft h10) rfl (.inr (Ext.refl _))<|Zf rfl rfl rfl rfl (bft h10)<|pvf rfl rfl rfl rfl rfl rfl (bft h10) rfl (.inr (Ext.refl _))<|Zf rfl rfl rfl rfl (bft h10)<|Zf rfl rfl rfl rfl (bft h10)<|Zp rfl (fun _=>xpf rfl h10 rfl)<|Zn rfl<|?_
      refine Or.elim (Bool.eq_false_or_eq_true false) (fun h14=>?_) (fun h14=>?_)
      ·
       have hB4:=ifp hB4 h14
       refine Zt rfl rfl rfl rfl (bt h14) (fun _=>xmv)<|pvt rfl rfl rfl rfl rfl rfl (bt h14) rfl (fun _ hS=>xlen l5_i1 Tryz.underlying214) (.inr (Ext.refl _))<|Zt rfl rfl rfl rfl (bt h14) (fun _=>xeql rfl rfl)<|Zt rfl rfl rfl rfl (bt h14) (fun _=>xmv)<|?_
       refine Or.elim (Bool.eq_false_or_eq_true (decide ((y1.length:Int)=0))) (fun h15=>?_) (fun h15=>?_)
       ·
        have hB4:=ifp hB4 h15
        refine Zf rfl rfl rfl rfl (btf h15)<|Zf rfl rfl rfl rfl (btf h15)<|Zf rfl rfl rfl rfl (btf h15)<|pvf rfl rfl rfl rfl rfl rfl (btf h15) rfl (.inr (Ext.refl _))<|Zf rfl rfl rfl rfl (btf h15)<|Zf rfl rfl rfl rfl (btf h15)<|pvf rfl rfl rfl rfl rfl rfl (btf h15) rfl (.inr (Ext.refl _))<|pvf rfl rfl rfl rfl rfl rfl (btf h15) rfl (.inr (Ext.refl _))<|pe1 rfl<|gfk rfl rfl rfl rfl rfl (btf h15) rfl<|nl ⟨fun _ _=>(Ext.refl _),?_⟩
        refine Zt rfl rfl rfl rfl (bt h14) (fun _=>xpt rfl h15 rfl)<|Zp rfl (fun _=>xpt rfl h14 rfl)<|?_
        cases hB4
        refine lf<|?_
        exact ⟨rfl,l0_i1,l3_i1,l4_i1,l5_i1,rfl,l15_i1,l16_i1,l17_i1,k12.size,hx5⟩
       ·
        have hB4:=ifn hB4 h15
        refine Zt rfl rfl rfl rfl (bf h15) (fun _=>xmv)<|Zt rfl rfl rfl rfl (bf h15) (fun _=>xmv)<|Zt rfl rfl rfl rfl (bf h15) (fun _=>xmv)<|pvt rfl rfl rfl rfl rfl rfl (bf h15) rfl (fun _ hS=>xlen l5_i1 Tryz.underlying214) (.inr (Ext.refl _))<|Zt rfl rfl rfl rfl (bf h15) (fun _=>xsub rfl rfl)<|?_
        have hz:=bs hB4; obtain ⟨x10,Ex10,hB4⟩:=hz
        have hz:=(RV.els O4.rv).ix Ex10; obtain ⟨b8,f6,cs7,e8,i12,i13,q10,hc10⟩:=hz
        cases e8
        obtain rfl:=q10
        refine Zt rfl rfl rfl rfl (bf h15) (fun _=>xixs l5_i1 rfl Tryz.underlying214 ti223 i12 i13)<|pvt rfl rfl rfl rfl rfl rfl (bf h15) rfl (fun _ hS=>xlda rfl ti223 (arlen _) (hc10.ext (hS.resolve_left nofun))) (.inr (Ext.refl _))<|pvt rfl rfl rfl rfl rfl rfl (bf h15) rfl (fun _ hS=>xlda rfl ti223 (arlen _) (Bx.cs (hb6.ext (hS.resolve_left nofun)))) (.inr (Ext.refl _))<|?_
        have hz:=bs hB4; obtain ⟨x11,Ex11,hB4⟩:=hz
        refine pe1 rfl<|gtk rfl rfl rfl rfl rfl (bf h15)<|Zc (xc cb133 (mc l0_i1 (mc rfl (mc rfl mn)))) (c133 (x0:=(x0.1,x0.2.1,x0.2.2)) h9 ⟨[.pointer a1],[.slice a2 x0.2.1.length cq1]++[.slice (some ⟨b2,f1,none⟩) x0.2.2.length cq2],rfl,(obRep1 r34),⟨[.slice a2 x0.2.1.length cq1],[.slice (some ⟨b2,f1,none⟩) x0.2.2.length cq2],rfl,r35.rep1,r36.rep1⟩⟩ (show RV (α:=(Ar 4 Int)) _ (.agg (List.flatMap Flat.enc x10.l).toArray) x10 from ⟨_,rfl,rfl⟩) (show RV (α:=(Ar 4 Int)) _ (.agg (List.flatMap Flat.enc x4.l).toArray) x4 from ⟨_,rfl,rfl⟩) Ex11) ?_
        rintro _ w9 ⟨rfl,hx7⟩
        have k19:=k12.tr hx7
        have k21:=hx5.tr hx7
        refine nl ⟨fun _ _=>hx7,?_⟩
        refine Zt rfl rfl rfl rfl (bt h14) (fun _=>xpf rfl h15 rfl)<|Zp rfl (fun _=>xpt rfl h14 rfl)<|?_
        cases hB4
        refine lf<|?_
        exact ⟨rfl,l0_i1,l3_i1,l4_i1,l5_i1,rfl,l15_i1,l16_i1,l17_i1,k19.size,k21⟩
      ·
       have hB4:=ifn hB4 h14
       refine Zf rfl rfl rfl rfl (bft h14)<|pvf rfl rfl rfl rfl rfl rfl (bft h14) rfl (.inr (Ext.refl _))<|Zf rfl rfl rfl rfl (bft h14)<|Zf rfl rfl rfl rfl (bft h14)<|Zf rfl rfl rfl rfl bu<|Zf rfl rfl rfl rfl bu<|Zf rfl rfl rfl rfl bu<|pvf rfl rfl rfl rfl rfl rfl bu rfl (.inr (Ext.refl _))<|Zf rfl rfl rfl rfl bu<|Zf rfl rfl rfl rfl bu<|pvf rfl rfl rfl rfl rfl rfl bu rfl (.inr (Ext.refl _))<|pvf rfl rfl rfl rfl rfl rfl bu rfl (.inr (Ext.refl _))<|pe1 rfl<|gfk rfl rfl rfl rfl rfl bu rfl<|nl ⟨fun _ _=>(Ext.refl _),?_⟩
       refine Zf rfl rfl rfl rfl (bft h14)<|Zp rfl (fun _=>xpf rfl h14 rfl)<|?_
       cases hB4
       refine lf<|?_
       exact ⟨rfl,l0_i1,l3_i1,l4_i1,l5_i1,rfl,l15_i1,l16_i1,l17_i1,k12.size,hx5⟩
    rintro L w10 ⟨l53_j1,l0_j1,l3_j1,l4_j1,l5_j1,l7_j1,l15_j1,l16_j1,l17_j1,Z0_j1,K0_j1⟩
    have k23:=k6.tr K0_j1
    have O7:=O2.ext K0_j1
    have hb9:=hb4.ext K0_j1
    have hz:=bs hB3; obtain ⟨y5,hB5,hB3⟩:=hz
    refine ct (fun L w=>∃ v5:Value,L 5=v5∧Row 223 w2.heap.size w v5 y5∧L 0=.pointer (some ⟨b0,0,none⟩)∧L 3=.slice a4 x2.length cq3∧L 4=.slice a5 x3.length cq4∧L 15=.slice (some ⟨b2,f1,none⟩) x0.2.2.length cq2∧L 16=.int .i64 (x0.2.2.length:Int)∧L 17=.int .i64 y2∧Ext w2 w) ?_ ?_
    ·
     refine cnd l53_j1 (fun h18=>?_) (fun h18=>?_)
     ·
      have hB5:=ifp hB5 h18
      refine wpl [] (.pure true 0 (.pure true 1 (.pure false 2 (.pure true 3 (.pure false 4 (.pure true 5 (.pure false 6 (.eff 7 (.eff 8 (.pure true 9 .fin) .stop) .stop)))))))) mixed (by kernel_rfl) (fun w11 hx8=>?_)
      have k26:=k23.tr hx8
      have hb10:=hb9.ext hx8
      have O8:=O7.ext hx8
      refine Zn rfl<|Zn rfl<|Zq rfl (fun _ hS=>xlen l5_j1 Tryz.underlying214) (Ext.refl _)<|Zn rfl<|Zq rfl (fun _ hS=>xlen l5_j1 Tryz.underlying214) (Ext.refl _)<|?_
      have r59:=RV.full O8.rv
      refine Zp rfl (fun _=>xslf l5_j1 (RV.cap O8.rv).2.1 Tryz.underlying214 ti223 rfl rfl)<|Zq rfl (fun _ hS=>xlda l7_j1 ti223 (arlen _) (Bx.cs (hb10.ext (hS.resolve_left nofun)))) (Ext.refl _)<|pe1 rfl<|sbsv (r:=[(0,.agg (List.flatMap Flat.enc x4.l).toArray)]) (cs:=(List.flatMap Flat.enc x4.l++[])) Tryz.underlying214 ti223 rfl (pc rfl pn) rfl rfl rfl (arall1 x4 rfl) rfl fun b9 w12 hx9 hg2 hb11=>?_
      have k30:=k26.tr hx9
      have r65:=r59.ext hx9
      have o3:Row (α:=(Ar 4 Int)) 223 w11.heap.size w12 (.slice (some ⟨b9,0,none⟩) 1 1) [x4]:=Row.lit hg2 hb11 rfl (ble rfl)
      refine nl ⟨fun _ _=>hx9,?_⟩
      have hz:=bs hB5; obtain ⟨x12,Ex12,hB5⟩:=hz
      refine pe1 rfl<|sapf (l:=y1) (k:=([x4]:List (Ar 4 Int))) rfl rfl Tryz.underlying214 ti223 rfl rfl r65 o3.rv rfl Ex12 fun v6 w13 o4 hx10=>?_
      have k35:=k30.tr hx10
      have k39:=hx9.tr hx10
      have hz:=RV.sl o4.rv; obtain ⟨a7,cq6,rfl,-,-,-⟩:=hz
      refine nl ⟨fun _ _=>k39,?_⟩
      refine Zp rfl (fun _=>xas)<|?_
      cases hB5
      refine lf<|?_
      exact ⟨_,rfl,(o4.bnd k30.size),l0_j1,l3_j1,l4_j1,l15_j1,l16_j1,l17_j1,k35⟩
     ·
      have hB5:=ifn hB5 h18
      refine wp_skip<|?_
      cases hB5
      refine lf<|?_
      exact ⟨_,l5_j1,O7,l0_j1,l3_j1,l4_j1,l15_j1,l16_j1,l17_j1,k23⟩
    rintro L w14 ⟨v5,l5_j2,O5_j2,l0_j2,l3_j2,l4_j2,l15_j2,l16_j2,l17_j2,K0_j2⟩
    have hz:=RV.sl O5_j2.rv; obtain ⟨a8,cq7,rfl,-,-,-⟩:=hz
    cases hB3
    refine lf<|?_
    exact ⟨_,l5_j2,O5_j2,l0_j2,l3_j2,l4_j2,l15_j2,l16_j2,l17_j2,K0_j2⟩
   rintro L w15 ⟨v4,l5_j3,O5_j3,l0_j3,l3_j3,l4_j3,l15_j3,l16_j3,l17_j3,K0_j3⟩
   have hz:=RV.sl O5_j3.rv; obtain ⟨a9,cq8,rfl,-,-,-⟩:=hz
   refine rg<|Zv (xadd l17_j3 rfl)<|Zm<|nl<|?_
   refine lq m (Nat.lt_succ_self _)<|?_
   exact ⟨_,_,_,hB1,l5_j3,O5_j3,rfl,l0_j3,l3_j3,l4_j3,l15_j3,l16_j3,K0_j3⟩
  ·
   have hB1:=ifn hB1 h5
   refine wp_exit<|?_
   cases hB1
   refine lf<|?_
   exact ⟨_,l5_i1,O5_i1,K0_i1⟩
 rintro L w16 ⟨v3,l5_j4,O5_j4,K0_j4⟩
 have k42:=k1.tr K0_j4
 have hz:=RV.sl O5_j4.rv; obtain ⟨a10,cq9,rfl,-,-,-⟩:=hz
 refine Zr<|Zm<|Za<|nl<|?_
 cases hF
 exact wp_ret<|rt rfl (.tmp l5_j4 rfl .nil) ⟨_,rfl,O5_j4.rv,k42⟩
end Go.Proofs.YtfmelbioccbdoaaGreat
end
section
namespace Go.Proofs.YtfmelbioccbdoaaGreat
open Go Go.Md Go.RowKit
attribute [local irreducible] Go.wpList Go.Code.wp Go.Calls Go.Md.Rnd Go.Md.Mt Go.Md.MtM Go.Md.RndM Go.Code.wpIn
theorem CheckLevels_l2_true {F:Nat} {x2:List Int} {x5:((Ob ((Uno (List (Ar 2 Int)))×(Ar 101 Int)))×(List (List Int))×(List (Ar 4 Int)))} {x7:Ar 4 Int} {x8:List (Ar 4 Int)} {y2:Int}:∀ (m:Nat) {y4:Int} {z:Bool},word_CheckLevels_l2 F x2 x5 x7 x8 y2 m true y4=some z→z=true:=by
 intro m
 induction m with
 | zero=>intro y4 z h; rw [word_CheckLevels_l2] at h; cases h
 | succ m ih =>
  intro y4 z h
  rw [word_CheckLevels_l2] at h
  split at h
  ·have hz:=bs h; obtain ⟨_,_,h⟩:=hz
   have hz:=bs h; obtain ⟨_,_,h⟩:=hz
   have hz:=bs h; obtain ⟨_,_,h⟩:=hz
   have hz:=bs h; obtain ⟨_,_,h⟩:=hz
   split at h
   ·cases h; rfl
   ·exact ih h
  ·cases h; rfl
theorem CheckLevels_l1_true {F:Nat} {x2:List Int} {x5:((Ob ((Uno (List (Ar 2 Int)))×(Ar 101 Int)))×(List (List Int))×(List (Ar 4 Int)))}:∀ (m:Nat) {y2:Int} {z:Bool},word_CheckLevels_l1 F x2 x5 m true y2=some z→z=true:=by
 intro m
 induction m with
 | zero=>intro y4 z h; rw [word_CheckLevels_l1] at h; cases h
 | succ m ih =>
  intro y4 z h
  rw [word_CheckLevels_l1] at h
  split at h
  ·have hz:=bs h; obtain ⟨_,_,h⟩:=hz
   have hz:=bs h; obtain ⟨_,_,h⟩:=hz
   have hz:=bs h; obtain ⟨b,hb,h⟩:=hz
   rw [CheckLevels_l2_true _ hb] at h
   exact ih h
  ·cases h; rfl
theorem c53 {w0:World} {v0:Value} {x0:(Uno (List (Ar 2 Int)))} (r0:RV w0 v0 x0) {v1:Value} {x1:(List (List Int))} (r1:RV w0 v1 x1) {v2:Value} {x2:(List Int)} (r2:RV w0 v2 x2) {F:Nat} {r:(Int×Int)} (hF:word_CheckLevels F x0 x1 x2=some r) :
  Calls Tryz.prog 53 [v0,v1,v2].toArray w0 (Ret fun v w'=>v=.tuple #[.int .i64 r.1,.int .i64 r.2]∧Ext w0 w'):=by
 unfold word_CheckLevels at hF
 have hz:=id r0; obtain ⟨_,rfl,⟨a1,cq1,rfl,p1,q4,e1⟩⟩:=hz
 have r4:=RV.of1 p1 q4 e1
 have hz:=r1.sl; obtain ⟨a2,cq2,rfl,-,-,-⟩:=hz
 have hz:=r2.sl; obtain ⟨a3,cq3,rfl,-,-,-⟩:=hz
 refine entr (n:=85) Tryz.func53 rfl rfl rfl<|Zr<|sbx rfl rfl fun b4 w1 hx1 hg1 hb1=>?_
 have r5:=r1.ext hx1
 have r6:=r2.ext hx1
 have r7:=r4.ext hx1
 refine Za<|Za<|nl<|wp_scope_straight<|Zr<|Zv (xlda rfl ti84 rfl (Bx.cs hb1))<|Zm<|?_
 have hz:=bs hF; obtain ⟨x4,Ex4,hF⟩:=hz
 refine Zc (xc cb122 (mc rfl (mc rfl mn))) (c122 (show RV (α:=(Uno (List (Ar 2 Int)))) _ (.agg [.slice a1 x0.v.length cq1].toArray) (⟨x0.v⟩:(Uno (List (Ar 2 Int)))) from ⟨_,rfl,r7.rep1⟩) r5 Ex4) ?_
 rintro _ w2 ⟨u1,rfl,r9,hx2⟩
 have k1:=hx1.tr hx2
 have r10:=r6.ext hx2
 have hz:=obPtr r9; obtain ⟨a4,rfl⟩:=hz
 refine Zm<|Zv (xext rfl rfl)<|Zv (xext rfl rfl)<|Za<|Za<|nl<|wp_seq<|wp_block<|Zr<|Zm<|Zv (xneq rfl rfl)<|Za<|nl<|cnd rfl (fun h4=>?_) (fun h4=>?_)
 ·
  have hF:=ifp hF h4
  refine Zr<|Zm<|Za<|Za<|nl<|?_
  cases hF
  exact wp_ret<|rt rfl (.tmp rfl rfl (.tmp rfl rfl .nil)) ⟨rfl,k1⟩
 ·
  have hF:=ifn hF h4
  refine Zr<|Zm<|Zv (xlen rfl Tryz.underlying41)<|Zm<|?_
  have hz:=bs hF; obtain ⟨x5,Ex5,hF⟩:=hz
  have hz:=obGet r9 Ex5; obtain ⟨b5,cs4,e2,q5,hc1⟩:=hz
  cases e2
  obtain ⟨_,_,rfl,q6,⟨_,_,rfl,⟨a6,cq4,rfl,p2,q7,e3⟩,⟨a7,cq5,rfl,p3,q8,e4⟩⟩⟩:=q5
  have hz:=obRep q6; obtain ⟨a5,rfl,r11⟩:=hz
  have r12:=RV.of1 p2 q7 e3
  have r13:=RV.of1 p3 q8 e4
  refine Zv (xnil rfl)<|Zv (xfa rfl fa221_2)<|Zv (xld rfl ti214 (hc1.at 2 rfl))<|Zv (xlen rfl Tryz.underlying214)<|Zv (xneq rfl rfl)<|Za<|nl<|cnd rfl (fun h5=>?_) (fun h5=>?_)
  ·
   have hF:=ifp hF h5
   refine Zr<|Za<|Za<|nl<|?_
   cases hF
   exact wp_ret<|rt rfl (.tmp rfl rfl (.tmp rfl rfl .nil)) ⟨rfl,k1⟩
  ·
   have hF:=ifn hF h5
   refine Zr<|Zm<|Zv (xlen rfl Tryz.underlying41)<|Zv (xeql rfl rfl)<|Za<|nl<|cnd rfl (fun h6=>?_) (fun h6=>?_)
   ·
    have hF:=ifp hF h6
    refine Zr<|Za<|Za<|nl<|?_
    cases hF
    exact wp_ret<|rt rfl (.tmp rfl rfl (.tmp rfl rfl .nil)) ⟨rfl,k1⟩
   ·
    have hF:=ifn hF h6
    refine Zr<|Zm<|?_
    have hz:=bs hF; obtain ⟨x6,Ex6,hF⟩:=hz
    refine Zc (xc cb132 (mc rfl mn)) (c132 r10 Ex6) ?_
    rintro _ w3 ⟨rfl,hx3⟩
    have k2:=k1.tr hx3
    have r14:=r10.ext hx3
    have r15:=r11.ext hx3
    have r16:=r12.ext hx3
    have r17:=r13.ext hx3
    have hc2:=hc1.ext hx3
    refine Zv (xlss rfl rfl)<|Za<|nl<|cnd rfl (fun h7=>?_) (fun h7=>?_)
    ·
     have hF:=ifp hF h7
     refine Zr<|Za<|Za<|nl<|?_
     cases hF
     exact wp_ret<|rt rfl (.tmp rfl rfl (.tmp rfl rfl .nil)) ⟨rfl,k2⟩
    ·
     have hF:=ifn hF h7
     refine wp_skip<|Zr<|Za<|nl<|wp_seq<|wp_label<|wp_seq<|Zr<|Zm<|Zv (xnil rfl)<|Zv (xfa rfl fa221_2)<|Zv (xld rfl ti214 (hc2.at 2 rfl))<|Zv (xlen rfl Tryz.underlying214)<|Zm<|nl<|?_
     have hz:=bs hF; obtain ⟨z1,hB1,hF⟩:=hz
     refine ct (fun L w=>L 10=.bool z1∧L 2=.slice a3 x2.length cq3∧Ext w3 w) ?_ ?_
     ·
      refine wp_block<|lp (I:=fun m L w=>∃ y1:Bool,∃ y2:Int,word_CheckLevels_l1 F x2 x5 m y1 y2 =some z1∧L 10=.bool y1∧L 47=.int .i64 y2∧L 2=.slice a3 x2.length cq3∧L 8=.pointer (some ⟨b5,0,none⟩)∧L 45=.slice a7 x5.2.2.length cq5∧L 46=.int .i64 (x5.2.2.length:Int)∧Ext w3 w) F ⟨_,_,hB1,rfl,rfl,rfl,rfl,rfl,rfl,(Ext.refl _)⟩ ?_
      rintro m L w4 ⟨y1,y2,hB1,l10_i1,l47_i1,l2_i1,l8_i1,l45_i1,l46_i1,K0_i1⟩
      rcases m with _ | m
      ·rw [word_CheckLevels_l1] at hB1; cases hB1
      rw [word_CheckLevels_l1] at hB1
      have k3:=k2.tr K0_i1
      have r19:=r15.ext K0_i1
      have r20:=r16.ext K0_i1
      have r21:=r17.ext K0_i1
      have hc3:=hc2.ext K0_i1
      refine Zr<|Zv (xlss l47_i1 l46_i1)<|nl<|wp_seq<|cnd rfl (fun h8=>?_) (fun h8=>?_)
      ·
       have hB1:=ifp hB1 h8
       refine wp_skip<|wp_seq<|wp_block<|Zr<|Zm<|?_
       have hz:=bs hB1; obtain ⟨x7,Ex7,hB1⟩:=hz
       have hz:=(RV.els r17).ix Ex7; obtain ⟨b6,f1,cs5,e5,i2,i3,q9,hc4⟩:=hz
       cases e5
       obtain rfl:=q9
       have hc5:=hc4.ext K0_i1
       refine Zv (xixs l45_i1 l47_i1 Tryz.underlying214 ti223 i2 i3)<|Zv (xlda rfl ti223 (arlen _) hc5)<|sal ti223 fun b7 w5 hx4 hg2 hb2=>?_
       have k4:=k3.tr hx4
       have k5:=K0_i1.tr hx4
       have hb3:Bx w5 b7 223 (List.flatMap Flat.enc ((Ar.fill 4 0:(Ar 4 Int))).l):=hb2
       refine Za<|sstw rfl rfl ti223 hb3 (arlen _) (arlen _) (flat_one _) fun w6 hch1 hb4=>?_
       have k6:=Ext.chg k4 hch1 (Nat.le_trans k3.size hg2)
       have k7:=Ext.chg k5 hch1 (Nat.le_trans K0_i1.size hg2)
       have k8:=Ext.chg hx4 hch1 (Nat.le_trans (Nat.le_refl _) hg2)
       have r27:=r19.ext k8
       have r28:=r20.ext k8
       have r29:=r21.ext k8
       have hc7:=hc3.ext k8
       have hb5:Bx w6 b7 223 (List.flatMap Flat.enc x7.l):=hb4
       refine nl<|Zr<|Zm<|Zv (xnil l8_i1)<|Zv (xfa rfl fa221_2)<|Zv (xld rfl ti214 (hc7.at 2 rfl))<|Zm<|Zm<|?_
       have hz:=bs hB1; obtain ⟨x8,Ex8,hB1⟩:=hz
       have hz:=slhf r17 Ex8 Tryz.underlying214 ti223; obtain ⟨a8,r30,hr1⟩:=hz
       refine Zv (hr1 _ _ _ _ _ _ _ _ _ _ _ rfl l47_i1 l47_i1)<|Zv (xlen rfl Tryz.underlying214)<|Zm<|nl<|?_
       have hz:=bs hB1; obtain ⟨z2,hB3,hB1⟩:=hz
       refine ct (fun L w=>L 10=.bool z2∧L 2=.slice a3 x2.length cq3∧L 8=.pointer (some ⟨b5,0,none⟩)∧L 45=.slice (some ⟨b6,f1,none⟩) x5.2.2.length cq5∧L 46=.int .i64 (x5.2.2.length:Int)∧L 47=.int .i64 y2∧Ext w6 w) ?_ ?_
       ·
        refine wp_block<|lp (I:=fun m L w=>∃ y3:Bool,∃ y4:Int,word_CheckLevels_l2 F x2 x5 x7 x8 y2 m y3 y4 =some z2∧L 10=.bool y3∧L 60=.int .i64 y4∧L 2=.slice a3 x2.length cq3∧L 8=.pointer (some ⟨b5,0,none⟩)∧L 11=.int .i64 y2∧L 12=.pointer (some ⟨b7,0,none⟩)∧L 45=.slice (some ⟨b6,f1,none⟩) x5.2.2.length cq5∧L 46=.int .i64 (x5.2.2.length:Int)∧L 47=.int .i64 y2∧L 58=.slice a8 x8.length x8.length∧L 59=.int .i64 (x8.length:Int)∧Ext w6 w) F ⟨_,_,hB3,l10_i1,rfl,l2_i1,l8_i1,l47_i1,rfl,l45_i1,l46_i1,l47_i1,rfl,rfl,(Ext.refl _)⟩ ?_
        rintro m L w7 ⟨y3,y4,hB3,l10_i4,l60_i4,l2_i4,l8_i4,l11_i4,l12_i4,l45_i4,l46_i4,l47_i4,l58_i4,l59_i4,K0_i4⟩
        rcases m with _ | m
        ·rw [word_CheckLevels_l2] at hB3; cases hB3
        rw [word_CheckLevels_l2] at hB3
        have k9:=k6.tr K0_i4
        have k10:=k7.tr K0_i4
        have r33:=r27.ext K0_i4
        have r34:=r28.ext K0_i4
        have r35:=r29.ext K0_i4
        have hc8:=hc7.ext K0_i4
        have hb6:=hb5.ext K0_i4
        refine Zr<|Zv (xlss l60_i4 l59_i4)<|nl<|wp_seq<|cnd rfl (fun h9=>?_) (fun h9=>?_)
        ·
         have hB3:=ifp hB3 h9
         refine wp_skip<|wp_seq<|wp_block<|Zr<|Zm<|?_
         have hz:=bs hB3; obtain ⟨x9,Ex9,hB3⟩:=hz
         have hz:=(RV.els r30).ix Ex9; obtain ⟨b8,f2,cs6,e6,i5,i6,q10,hc9⟩:=hz
         cases e6
         obtain rfl:=q10
         have hc10:=hc9.ext k10
         refine Zv (xixs l58_i4 l60_i4 Tryz.underlying214 ti223 i5 i6)<|Zv (xlda rfl ti223 (arlen _) hc10)<|sal ti223 fun b9 w8 hx5 hg3 hb7=>?_
         have k12:=k9.tr hx5
         have k13:=k10.tr hx5
         have k15:=K0_i4.tr hx5
         have hb9:Bx w8 b9 223 (List.flatMap Flat.enc ((Ar.fill 4 0:(Ar 4 Int))).l):=hb7
         refine Za<|sstw rfl rfl ti223 hb9 (arlen _) (arlen _) (flat_one _) fun w9 hch2 hb10=>?_
         have k16:=Ext.chg k12 hch2 (Nat.le_trans k9.size hg3)
         have k17:=Ext.chg k13 hch2 (Nat.le_trans k10.size hg3)
         have k19:=Ext.chg k15 hch2 (Nat.le_trans K0_i4.size hg3)
         have k20:=Ext.chg hx5 hch2 (Nat.le_trans (Nat.le_refl _) hg3)
         have hb11:=hb6.ext k20
         have r43:=r33.ext k20
         have r44:=r34.ext k20
         have r45:=r35.ext k20
         have hc12:=hc8.ext k20
         have hb12:Bx w9 b9 223 (List.flatMap Flat.enc x9.l):=hb10
         refine nl<|wp_seq<|wpl [] (.pure true 0 (.pure true 1 (.pure true 2 (.pure false 3 (.pure true 4 (.pure true 5 (.pure true 6 (.pure false 7 (.pure true 8 (.pure true 9 (.pure true 10 (.pure false 11 (.pure false 12 (.eff 13 (.pure true 14 .fin) .stop)))))))))))))) mixed (by kernel_rfl) (fun w10 hx6=>?_)
         have k21:=k16.tr hx6
         have k22:=k17.tr hx6
         have k24:=k19.tr hx6
         have hb13:=hb11.ext hx6
         have hb14:=hb12.ext hx6
         have r48:=r43.ext hx6
         have r49:=r44.ext hx6
         have r50:=r45.ext hx6
         have hc13:=hc12.ext hx6
         refine Zn rfl<|Zn rfl<|?_
         have hz:=bs hB3; obtain ⟨x10,Ex10,hB3⟩:=hz
         have hz:=(RV.els r2).ix Ex10; obtain ⟨b10,f3,cs7,e7,i7,i8,q11,hc14⟩:=hz
         cases e7
         obtain rfl:=q11
         have hc15:=hc14.ext k21
         refine Zp rfl (fun _=>xixs l2_i4 l60_i4 Tryz.underlying41 ti3 i7 i8)<|Zq rfl (fun _ hS=>xld rfl ti3 ((hc15.ext (hS.resolve_left nofun)).at 0 rfl)) (Ext.refl _)<|Zn rfl<|Zn rfl<|?_
         have hz:=bs hB3; obtain ⟨x11,Ex11,hB3⟩:=hz
         have hz:=ix2 r2 Ex11; obtain ⟨cs8,i9,i10,q12,hc16⟩:=hz
         obtain rfl:=q12
         have hc17:=hc16.ext k21
         refine Zp rfl (fun _=>xixs l2_i4 l11_i4 Tryz.underlying41 ti3 i9 i10)<|Zq rfl (fun _ hS=>xld rfl ti3 ((hc17.ext (hS.resolve_left nofun)).at 0 rfl)) (Ext.refl _)<|Zp rfl (fun _=>xgeq rfl rfl)<|Zn rfl<|pgv rfl rfl rfl rfl rfl (gw1 rfl) rfl (fun hc=>(fun _ _=>xmva l8_i4)) (.inl rfl)<|pgv rfl rfl rfl rfl rfl (gw1 rfl) rfl (fun hc=>(fun _ hS=>xlda rfl ti223 (arlen _) (Bx.cs (hb14.ext (hS.resolve_left nofun))))) (.inr (Ext.refl _))<|pgv rfl rfl rfl rfl rfl (gw1 rfl) rfl (fun hc=>(fun _ hS=>xlda l12_i4 ti223 (arlen _) (Bx.cs (hb13.ext (hS.resolve_left nofun))))) (.inr (Ext.refl _))<|?_
         have hz:=bs hB3; obtain ⟨x12,Ex12,hB3⟩:=hz
         refine pe1 rfl<|gc rfl rfl rfl rfl (gw1 rfl) rfl (fun hc=>xc cb133 (mc (mv hc rfl) (mc (mv hc rfl) (mc (mv hc rfl) mn)))) (fun hc=>(c133 (x0:=(x5.1,x5.2.1,x5.2.2)) hc13 ⟨[.pointer a5],[.slice a6 x5.2.1.length cq4]++[.slice (some ⟨b6,f1,none⟩) x5.2.2.length cq5],rfl,(obRep1 r48),⟨[.slice a6 x5.2.1.length cq4],[.slice (some ⟨b6,f1,none⟩) x5.2.2.length cq5],rfl,r49.rep1,r50.rep1⟩⟩ (show RV (α:=(Ar 4 Int)) _ (.agg (List.flatMap Flat.enc x9.l).toArray) x9 from ⟨_,rfl,rfl⟩) (show RV (α:=(Ar 4 Int)) _ (.agg (List.flatMap Flat.enc x7.l).toArray) x7 from ⟨_,rfl,rfl⟩) (gdp Ex12 hc))) (fun v4 w11 hy1 hn1=>?_)
         have hx7:Ext w10 w11:=gx (fun h=>(hy1 h).2) (fun h=>(hn1 h).2 ▸ Ext.refl _)
         have e8:=mkw (fun h=>(hy1 h).1) (fun h=>(hn1 h).1)
         have k27:=k22.tr hx7
         have k29:=k24.tr hx7
         refine nl ⟨fun _ _=>hx7,?_⟩
         refine Zp rfl (fun _=>xpa rfl e8 rfl)<|cnd rfl (fun h10=>?_) (fun h10=>?_)
         ·
          have hB3:=ifp hB3 h10
          refine Zr<|Za<|nl<|wp_exit<|?_
          cases hB3
          refine lf<|?_
          exact ⟨congrArg _ (CheckLevels_l1_true _ hB1).symm,l2_i4,k27⟩
         ·
          have hB3:=ifn hB3 h10
          refine wp_skip<|rg<|Zv (xadd l60_i4 rfl)<|Zm<|nl<|?_
          refine lq m (Nat.lt_succ_self _)<|?_
          exact ⟨_,_,hB3,l10_i4,rfl,l2_i4,l8_i4,l11_i4,l12_i4,l45_i4,l46_i4,l47_i4,l58_i4,l59_i4,k29⟩
        ·
         have hB3:=ifn hB3 h9
         refine wp_exit<|?_
         cases hB3
         refine lf<|?_
         exact ⟨l10_i4,l2_i4,l8_i4,l45_i4,l46_i4,l47_i4,K0_i4⟩
       rintro L w12 ⟨l10_j1,l2_j1,l8_j1,l45_j1,l46_j1,l47_j1,K0_j1⟩
       have k32:=k7.tr K0_j1
       refine rg<|Zv (xadd l47_j1 rfl)<|Zm<|nl<|?_
       refine lq m (Nat.lt_succ_self _)<|?_
       exact ⟨_,_,hB1,l10_j1,rfl,l2_j1,l8_j1,l45_j1,l46_j1,k32⟩
      ·
       have hB1:=ifn hB1 h8
       refine wp_exit<|?_
       cases hB1
       refine lf<|?_
       exact ⟨l10_i1,l2_i1,K0_i1⟩
     rintro L w13 ⟨l10_j2,l2_j2,K0_j2⟩
     have k34:=k2.tr K0_j2
     have r61:=r14.ext K0_j2
     refine wp_seq<|Zr<|Zm<|nl<|cnd l10_j2 (fun h11=>?_) (fun h11=>?_)
     ·
      have hF:=ifp hF h11
      refine Zr<|Za<|Za<|nl<|?_
      cases hF
      exact wp_ret<|rt rfl (.tmp rfl rfl (.tmp rfl rfl .nil)) ⟨rfl,k34⟩
     ·
      have hF:=ifn hF h11
      refine wp_skip<|Zr<|Zm<|?_
      have hz:=bs hF; obtain ⟨x13,Ex13,hF⟩:=hz
      refine Zc (xc cb134 (mc l2_j2 mn)) (c134 r61 Ex13) ?_
      rintro _ w14 ⟨rfl,hx8⟩
      have k35:=k34.tr hx8
      refine Za<|Za<|nl<|?_
      cases hF
      exact wp_ret<|rt rfl (.tmp rfl rfl (.tmp rfl rfl .nil)) ⟨rfl,k35⟩
theorem c41 {w0:World} {v0:Value} {x0:(Uno (List (Ar 2 Int)))} (r0:RV w0 v0 x0) {v1:Value} {x1:(List (List Int))} (r1:RV w0 v1 x1) {F:Nat} {r:((List (List Int))×Int)} (hF:word_Longest F x0 x1=some r) :
  Calls Tryz.prog 41 [v0,v1].toArray w0 (Ret fun v w'=>∃ u0:Value,v=.tuple #[u0,.int .i64 r.2]∧RV w' u0 r.1∧Ext w0 w'):=by
 unfold word_Longest at hF
 have hz:=id r0; obtain ⟨_,rfl,⟨a1,cq1,rfl,p1,q3,e1⟩⟩:=hz
 have r3:=RV.of1 p1 q3 e1
 have hz:=r1.sl; obtain ⟨a2,cq2,rfl,-,-,-⟩:=hz
 refine entr (n:=21) Tryz.func41 rfl rfl rfl<|Zr<|sbx rfl rfl fun b3 w1 hx1 hg1 hb1=>?_
 have r4:=r1.ext hx1
 have r5:=r3.ext hx1
 refine Za<|Za<|nl<|Zr<|Zv (xlda rfl ti84 rfl (Bx.cs hb1))<|Zm<|?_
 have hz:=bs hF; obtain ⟨x3,Ex3,hF⟩:=hz
 refine Zc (xc cb122 (mc rfl (mc rfl mn))) (c122 (show RV (α:=(Uno (List (Ar 2 Int)))) _ (.agg [.slice a1 x0.v.length cq1].toArray) (⟨x0.v⟩:(Uno (List (Ar 2 Int)))) from ⟨_,rfl,r5.rep1⟩) r4 Ex3) ?_
 rintro _ w2 ⟨u1,rfl,r7,hx2⟩
 have k1:=hx1.tr hx2
 have hz:=obPtr r7; obtain ⟨a3,rfl⟩:=hz
 refine Zm<|Zv (xext rfl rfl)<|Zv (xext rfl rfl)<|Za<|Za<|nl<|wp_seq<|Zr<|Zm<|Zv (xneq rfl rfl)<|nl<|cnd rfl (fun h3=>?_) (fun h3=>?_)
 ·
  have hF:=ifp hF h3
  refine Zr<|Zm<|Za<|Za<|nl<|?_
  cases hF
  exact wp_ret<|rt rfl (.tmp rfl rfl (.tmp rfl rfl .nil)) ⟨_,rfl,(RVo.nil (Nat.zero_le _)),k1⟩
 ·
  have hF:=ifn hF h3
  refine wp_skip<|Zr<|Zm<|Zm<|?_
  have hz:=bs hF; obtain ⟨x4,Ex4,hF⟩:=hz
  have hz:=obGet r7 Ex4; obtain ⟨b4,cs3,e2,q4,hc1⟩:=hz
  cases e2
  obtain ⟨_,_,rfl,q5,⟨_,_,rfl,⟨a5,cq3,rfl,p2,q6,e3⟩,⟨a6,cq4,rfl,p3,q7,e4⟩⟩⟩:=q4
  have hz:=obRep q5; obtain ⟨a4,rfl,r8⟩:=hz
  have r9:=RV.of1 p2 q6 e3
  have r10:=RV.of1 p3 q7 e4
  have hz:=bs hF; obtain ⟨x5,Ex5,hF⟩:=hz
  refine Zc (xc cb124 (mc rfl mn)) (c124 (x0:=(x4.1,x4.2.1,x4.2.2)) hc1 ⟨[.pointer a4],[.slice a5 x4.2.1.length cq3]++[.slice a6 x4.2.2.length cq4],rfl,(obRep1 r8),⟨[.slice a5 x4.2.1.length cq3],[.slice a6 x4.2.2.length cq4],rfl,r9.rep1,r10.rep1⟩⟩ Ex5) ?_
  rintro _ w3 ⟨u2,rfl,r11,hx3⟩
  have k2:=k1.tr hx3
  have r12:=r8.ext hx3
  have r13:=r9.ext hx3
  have r14:=r10.ext hx3
  have hc2:=hc1.ext hx3
  have hz:=RV.sl r11; obtain ⟨a7,cq5,rfl,-,-,-⟩:=hz
  have hz:=bs hF; obtain ⟨x6,Ex6,hF⟩:=hz
  refine Zc (xc cb123 (mc rfl (mc rfl mn))) (c123 (x0:=(x4.1,x4.2.1,x4.2.2)) hc2 ⟨[.pointer a4],[.slice a5 x4.2.1.length cq3]++[.slice a6 x4.2.2.length cq4],rfl,(obRep1 r12),⟨[.slice a5 x4.2.1.length cq3],[.slice a6 x4.2.2.length cq4],rfl,r13.rep1,r14.rep1⟩⟩ r11 Ex6) ?_
  rintro _ w4 ⟨u3,rfl,r15,hx4⟩
  have k3:=k2.tr hx4
  have hz:=RV.sl r15; obtain ⟨a8,cq6,rfl,-,-,-⟩:=hz
  refine Za<|Za<|nl<|?_
  cases hF
  exact wp_ret<|rt rfl (.tmp rfl rfl (.tmp rfl rfl .nil)) ⟨_,rfl,r15,k3⟩
theorem c49 {w0:World} {v0:Value} {x0:(Uno (List (Ar 2 Int)))} (r0:RV w0 v0 x0) {v1:Value} {x1:(List (List Int))} (r1:RV w0 v1 x1) {F:Nat} {r:((List Int)×Int)} (hF:word_Levels F x0 x1=some r) :
  Calls Tryz.prog 49 [v0,v1].toArray w0 (Ret fun v w'=>∃ u0:Value,v=.tuple #[u0,.int .i64 r.2]∧RV w' u0 r.1∧Ext w0 w'):=by
 unfold word_Levels at hF
 have hz:=id r0; obtain ⟨_,rfl,⟨a1,cq1,rfl,p1,q3,e1⟩⟩:=hz
 have r3:=RV.of1 p1 q3 e1
 have hz:=r1.sl; obtain ⟨a2,cq2,rfl,-,-,-⟩:=hz
 refine entr (n:=19) Tryz.func49 rfl rfl rfl<|Zr<|sbx rfl rfl fun b3 w1 hx1 hg1 hb1=>?_
 have r4:=r1.ext hx1
 have r5:=r3.ext hx1
 refine Za<|Za<|nl<|Zr<|Zv (xlda rfl ti84 rfl (Bx.cs hb1))<|Zm<|?_
 have hz:=bs hF; obtain ⟨x3,Ex3,hF⟩:=hz
 refine Zc (xc cb122 (mc rfl (mc rfl mn))) (c122 (show RV (α:=(Uno (List (Ar 2 Int)))) _ (.agg [.slice a1 x0.v.length cq1].toArray) (⟨x0.v⟩:(Uno (List (Ar 2 Int)))) from ⟨_,rfl,r5.rep1⟩) r4 Ex3) ?_
 rintro _ w2 ⟨u1,rfl,r7,hx2⟩
 have k1:=hx1.tr hx2
 have hz:=obPtr r7; obtain ⟨a3,rfl⟩:=hz
 refine Zm<|Zv (xext rfl rfl)<|Zv (xext rfl rfl)<|Za<|Za<|nl<|wp_seq<|Zr<|Zm<|Zv (xneq rfl rfl)<|nl<|cnd rfl (fun h3=>?_) (fun h3=>?_)
 ·
  have hF:=ifp hF h3
  refine Zr<|Zm<|Za<|Za<|nl<|?_
  cases hF
  exact wp_ret<|rt rfl (.tmp rfl rfl (.tmp rfl rfl .nil)) ⟨_,rfl,(RVo.nil (Nat.zero_le _)),k1⟩
 ·
  have hF:=ifn hF h3
  refine wp_skip<|Zr<|Zm<|?_
  have hz:=bs hF; obtain ⟨x4,Ex4,hF⟩:=hz
  have hz:=obGet r7 Ex4; obtain ⟨b4,cs3,e2,q4,hc1⟩:=hz
  cases e2
  obtain ⟨_,_,rfl,q5,⟨_,_,rfl,⟨a5,cq3,rfl,p2,q6,e3⟩,⟨a6,cq4,rfl,p3,q7,e4⟩⟩⟩:=q4
  have hz:=obRep q5; obtain ⟨a4,rfl,r8⟩:=hz
  have r9:=RV.of1 p2 q6 e3
  have r10:=RV.of1 p3 q7 e4
  have hz:=bs hF; obtain ⟨x5,Ex5,hF⟩:=hz
  refine Zc (xc cb130 (mc rfl mn)) (c130 (x0:=(x4.1,x4.2.1,x4.2.2)) hc1 ⟨[.pointer a4],[.slice a5 x4.2.1.length cq3]++[.slice a6 x4.2.2.length cq4],rfl,(obRep1 r8),⟨[.slice a5 x4.2.1.length cq3],[.slice a6 x4.2.2.length cq4],rfl,r9.rep1,r10.rep1⟩⟩ Ex5) ?_
  rintro _ w3 ⟨u2,rfl,r11,hx3⟩
  have k2:=k1.tr hx3
  have hz:=RV.sl r11; obtain ⟨a7,cq5,rfl,-,-,-⟩:=hz
  refine Za<|Za<|nl<|?_
  cases hF
  exact wp_ret<|rt rfl (.tmp rfl rfl (.tmp rfl rfl .nil)) ⟨_,rfl,r11,k2⟩
end Go.Proofs.YtfmelbioccbdoaaGreat
end
section
namespace Go.Proofs.YtfmelbioccbdoaaGreat
open Go Go.Md Go.RowKit
attribute [local irreducible] Go.wpList Go.Code.wp Go.Calls Go.Md.Rnd Go.Md.Mt Go.Md.MtM Go.Md.RndM Go.Code.wpIn
theorem c15 {w0:World}  {F:Nat} {r:Bool} (hF:top_works03 F=some r) :
  Calls Tryz.prog 15 [].toArray w0 (Ret fun v w'=>v=.bool r∧Ext w0 w'):=by
 unfold top_works03 at hF
 refine entr (n:=8) Tryz.func15 rfl rfl rfl<|Zr<|Za<|nl<|Zr<|?_
 have hz:=bs hF; obtain ⟨x1,Ex1,hF⟩:=hz
 refine Zc (xc cb86 mn) (c86z Ex1) ?_
 rintro _ w1 ⟨rfl,hx1⟩
 refine Zm<|?_
 have hz:=bs hF; obtain ⟨x2,Ex2,hF⟩:=hz
 refine gc rfl rfl rfl rfl (gw1 rfl) rfl (fun hc=>xc cb87 mn) (fun hc=>(c87z (gdp Ex2 hc))) (fun v1 w2 hy1 hn1=>?_)
 have hx2:Ext w1 w2:=gx (fun h=>(hy1 h).2) (fun h=>(hn1 h).2 ▸ Ext.refl _)
 have e1:=mkw (fun h=>(hy1 h).1) (fun h=>(hn1 h).1)
 have k1:=hx1.tr hx2
 refine Zv (xpa rfl e1 rfl)<|Zm<|?_
 have hz:=bs hF; obtain ⟨x3,Ex3,hF⟩:=hz
 refine gc rfl rfl rfl rfl (gw1 rfl) rfl (fun hc=>xc cb88 mn) (fun hc=>(c88z (gdp Ex3 hc))) (fun v2 w3 hy2 hn2=>?_)
 have hx3:Ext w2 w3:=gx (fun h=>(hy2 h).2) (fun h=>(hn2 h).2 ▸ Ext.refl _)
 have e2:=mkw (fun h=>(hy2 h).1) (fun h=>(hn2 h).1)
 have k2:=k1.tr hx3
 refine Zv (xpa rfl e2 rfl)<|Za<|nl<|?_
 cases hF
 exact wp_ret<|rt rfl (.tmp rfl rfl .nil) ⟨rfl,k2⟩
theorem c35 {w0:World}  {F:Nat} {r:Bool} (hF:top_works04 F=some r) :
  Calls Tryz.prog 35 [].toArray w0 (Ret fun v w'=>v=.bool r∧Ext w0 w'):=by
 unfold top_works04 at hF
 refine entr (n:=5) Tryz.func35 rfl rfl rfl<|Zr<|Za<|nl<|Zr<|?_
 have hz:=bs hF; obtain ⟨x1,Ex1,hF⟩:=hz
 refine Zc (xc cb15 mn) (c15 Ex1) ?_
 rintro _ w1 ⟨rfl,hx1⟩
 refine Zm<|?_
 have hz:=bs hF; obtain ⟨x2,Ex2,hF⟩:=hz
 refine gc rfl rfl rfl rfl (gw1 rfl) rfl (fun hc=>xc cb116 mn) (fun hc=>(c116z (gdp Ex2 hc))) (fun v1 w2 hy1 hn1=>?_)
 have hx2:Ext w1 w2:=gx (fun h=>(hy1 h).2) (fun h=>(hn1 h).2 ▸ Ext.refl _)
 have e1:=mkw (fun h=>(hy1 h).1) (fun h=>(hn1 h).1)
 have k1:=hx1.tr hx2
 refine Zv (xpa rfl e1 rfl)<|Za<|nl<|?_
 cases hF
 exact wp_ret<|rt rfl (.tmp rfl rfl .nil) ⟨rfl,k1⟩
theorem c7 {w0:World} {v0:Value} {x0:(Uno (List (Ar 2 Int)))} (r0:RV w0 v0 x0) {v1:Value} {x1:(List (List Int))} (r1:RV w0 v1 x1) {v2:Value} {x2:(List (KI .u8))} (r2:RV w0 v2 x2) {x3:Int} {F:Nat} {r:Bool} (hF:top_TopLeastLevels F x0 x1 x2 x3=some r) :
  Calls Tryz.prog 7 [v0,v1,v2,.int .u8 x3].toArray w0 (Ret fun v w'=>v=.bool r∧Ext w0 w'):=by
 unfold top_TopLeastLevels at hF
 have hz:=id r0; obtain ⟨_,rfl,⟨a1,cq1,rfl,p1,q5,e1⟩⟩:=hz
 have r5:=RV.of1 p1 q5 e1
 have hz:=r1.sl; obtain ⟨a2,cq2,rfl,-,-,-⟩:=hz
 have hz:=r2.sl; obtain ⟨a3,cq3,rfl,-,-,-⟩:=hz
 refine entr (n:=293) Tryz.func7 rfl rfl rfl<|Zr<|sbx rfl rfl fun b5 w1 hx1 hg1 hb1=>?_
 have r6:=r1.ext hx1
 have r8:=r5.ext hx1
 refine Za<|nl<|wp_seq<|Zr<|Zv (xlda rfl ti84 rfl (Bx.cs hb1))<|Zm<|?_
 have hz:=bs hF; obtain ⟨x5,Ex5,hF⟩:=hz
 refine Zc (xc cb46 (mc rfl (mc rfl (mc rfl mn)))) (c46 (show RV (α:=(Uno (List (Ar 2 Int)))) _ (.agg [.slice a1 x0.v.length cq1].toArray) (⟨x0.v⟩:(Uno (List (Ar 2 Int)))) from ⟨_,rfl,r8.rep1⟩) r6 Ex5) ?_
 rintro _ w2 ⟨rfl,hx2⟩
 have k1:=hx1.tr hx2
 have hb2:=hb1.ext hx2
 have r10:=r8.ext hx2
 have r11:=r6.ext hx2
 refine Zv (xnot rfl)<|nl<|cnd rfl (fun h5=>?_) (fun h5=>?_)
 ·
  have hF:=ifp hF h5
  refine Zr<|?_
  have hz:=bs hF; obtain ⟨x6,Ex6,hF⟩:=hz
  refine Zc (xc cb35 mn) (c35 Ex6) ?_
  rintro _ w3 ⟨rfl,hx3⟩
  have k2:=k1.tr hx3
  refine Za<|nl<|?_
  cases hF
  exact wp_ret<|rt rfl (.tmp rfl rfl .nil) ⟨rfl,k2⟩
 ·
  have hF:=ifn hF h5
  refine wp_skip<|Zr<|Zv (xlda rfl ti84 rfl (Bx.cs hb2))<|Zm<|?_
  have hz:=bs hF; obtain ⟨x7,Ex7,hF⟩:=hz
  refine Zc (xc cb47 (mc rfl (mc rfl mn))) (c47 (show RV (α:=(Uno (List (Ar 2 Int)))) _ (.agg [.slice a1 x0.v.length cq1].toArray) (⟨x0.v⟩:(Uno (List (Ar 2 Int)))) from ⟨_,rfl,r10.rep1⟩) r11 Ex7) ?_
  rintro _ w4 ⟨u1,rfl,r13,hx4⟩
  have k3:=k1.tr hx4
  have hb3:=hb2.ext hx4
  have r14:=r10.ext hx4
  have r15:=r11.ext hx4
  have hz:=RV.sl r13; obtain ⟨a4,cq4,rfl,-,-,-⟩:=hz
  refine Za<|nl<|Zr<|Zm<|Zv (xlen rfl Tryz.underlying85)<|Za<|nl<|wp_seq<|Zr<|Zm<|Zv (xlss rfl rfl)<|Zm<|Zg rfl rfl (gw0 rfl) (fun hc=>xmva rfl)<|Zg rfl rfl (gw0 rfl) (fun hc=>xgtr (mv hc rfl) rfl)<|Zv (xpo rfl rfl rfl)<|nl<|cnd rfl (fun h6=>?_) (fun h6=>?_)
  ·
   have hF:=ifp hF h6
   refine Zr<|?_
   have hz:=bs hF; obtain ⟨x8,Ex8,hF⟩:=hz
   refine Zc (xc cb35 mn) (c35 Ex8) ?_
   rintro _ w5 ⟨rfl,hx5⟩
   have k4:=k3.tr hx5
   refine Za<|nl<|?_
   cases hF
   exact wp_ret<|rt rfl (.tmp rfl rfl .nil) ⟨rfl,k4⟩
  ·
   have hF:=ifn hF h6
   refine wp_skip<|Zr<|Zm<|Zv (xbdv (r:=[.int .i64 (x7.length:Int),.slice none 0 0]) ti24 sp24 (pc rfl pn) rfl)<|sal ti24 fun b6 w6 hx6 hg2 hb4=>?_
   refine sst rfl rfl rfl ti24 hb4 rfl rfl (ble rfl) fun w7 hch1 hb6=>?_
   have k7:=Ext.chg hx6 hch1 (Nat.le_trans (Nat.le_refl _) hg2)
   have hb8:Bx w7 b6 24 [.int .i64 (x7.length:Int),.slice none 0 0]:=hb6
   refine nl<|wp_seq<|Zr<|Za<|nl<|?_
   have hz:=bs hF; obtain ⟨z1,hB1,hF⟩:=hz
   refine ct (fun L w=>∃ v6:Value,Bx w b6 24 [.int .i64 z1.1,v6]∧Row 58 w7.heap.size w v6 z1.2∧some b6≠Value.ownBlock v6∧L 1=.slice a2 x1.length cq2∧L 2=.slice a3 x2.length cq3∧L 3=.int .u8 x3∧L 4=.pointer (some ⟨b5,0,none⟩)∧L 10=.int .i64 (x7.length:Int)∧L 11=.pointer (some ⟨b6,0,none⟩)∧w7.heap.size≤w.heap.size∧Ext w4 w) ?_ ?_
   ·
    refine wp_block<|lp (I:=fun m L w=>∃ y1:Int,∃ y2:(Int×(List (Int×Int×Int))),∃ v5:Value,top_TopLeastLevels_l1 F x7 m y1 y2 =some z1∧L 12=.int .i64 y1∧Bx w b6 24 [.int .i64 y2.1,v5]∧Row 58 w7.heap.size w v5 y2.2∧some b6≠Value.ownBlock v5∧L 1=.slice a2 x1.length cq2∧L 2=.slice a3 x2.length cq3∧L 3=.int .u8 x3∧L 4=.pointer (some ⟨b5,0,none⟩)∧L 9=.slice a4 x7.length cq4∧L 10=.int .i64 (x7.length:Int)∧L 11=.pointer (some ⟨b6,0,none⟩)∧w7.heap.size≤w.heap.size∧Ext w4 w) F ⟨_,_,_,hB1,rfl,hb8,Row.nil,(fun e=>by cases e),rfl,rfl,rfl,rfl,rfl,rfl,rfl,(Nat.le_refl _),k7⟩ ?_
    rintro m L w8 ⟨y1,y2,v5,hB1,l12_i1,B11_i1,O11c1_i1,N11c1_i1,l1_i1,l2_i1,l3_i1,l4_i1,l9_i1,l10_i1,l11_i1,Z0_i1,K0_i1⟩
    rcases m with _ | m
    ·rw [top_TopLeastLevels_l1] at hB1; cases hB1
    rw [top_TopLeastLevels_l1] at hB1
    have hz:=RV.sl O11c1_i1.rv; obtain ⟨a5,cq5,rfl,-,-,-⟩:=hz
    refine wp_seq<|Zr<|Zm<|Zm<|Zv (xlss l12_i1 l10_i1)<|nl<|cnd rfl (fun h7=>?_) (fun h7=>?_)
    ·
     have hB1:=ifp hB1 h7
     refine wp_skip<|wp_seq<|wp_block<|Zr<|Zv (xfa l11_i1 fa24_1)<|Zv (xld rfl ti22 ((Bx.cs B11_i1).at 1 rfl))<|Zm<|Zv (xadd l12_i1 rfl)<|Zv (xbdv (r:=[.int .i64 (w64 (y1 + 1)),.int .i64 0,.int .i64 (-1)]) ti58 sp58 (pc rfl (pc rfl (pc rfl pn))) rfl)<|sbsv (cs:=[.int .i64 (w64 (y1 + 1)),.int .i64 0,.int .i64 (-1)]) Tryz.underlying22 ti58 rfl (pc rfl pn) rfl rfl rfl rfl rfl fun b7 w9 hx7 hg3 hb10=>?_
     have k10:=K0_i1.tr hx7
     have zs1:=Nat.le_trans Z0_i1 hx7.size
     have B1:=B11_i1.ext hx7
     have O1:=O11c1_i1.ext hx7
     have o2:Row (α:=(Int×Int×Int)) 58 w8.heap.size w9 (.slice (some ⟨b7,0,none⟩) 1 1) [(w64 (y1 + 1),0,(-1))]:=Row.lit hg3 hb10 rfl (ble rfl)
     have hz:=bs hB1; obtain ⟨x9,Ex9,hB1⟩:=hz
     refine sapx (l:=y2.2) (k:=([(w64 (y1 + 1),0,(-1))]:List (Int×Int×Int))) rfl rfl Tryz.underlying22 ti58 rfl rfl O1 (RV.els o2.rv) Ex9 zs1 fun v7 w10 o3 hB3 hgr1 how1=>?_
     have k12:=Ext.grow k10 k7.size hB3
     have zs2:=Nat.le_trans zs1 hgr1.size
     have ne1:=ne_app how1 N11c1_i1 B1.lt
     have hb13:=Bx.gr B1 hgr1 N11c1_i1
     have hz:=RV.sl o3.rv; obtain ⟨a6,cq6,rfl,-,-,-⟩:=hz
     refine Zv (xfa l11_i1 fa24_1)<|sst rfl rfl rfl ti22 hb13 rfl rfl (ble rfl) fun w11 hch2 hb14=>?_
     have k14:=Ext.chg k12 hch2 (Nat.le_trans (Nat.le_refl _) hg2)
     have zs3:=Nat.le_trans zs2 (Nat.le_of_eq hch2.size.symm)
     have o4:=Row.chgn o3 hch2 ne1
     have hb16:Bx w11 b6 24 [.int .i64 y2.1,.slice a6 x9.length cq6]:=hb14
     refine nl<|Zr<|Za<|nl<|?_
     have hz:=bs hB1; obtain ⟨z2,hB4,hB1⟩:=hz
     refine ct (fun L w=>∃ v9:Value,Bx w b6 24 [.int .i64 z2.1,v9]∧Row 58 w7.heap.size w v9 z2.2∧some b6≠Value.ownBlock v9∧L 1=.slice a2 x1.length cq2∧L 2=.slice a3 x2.length cq3∧L 3=.int .u8 x3∧L 4=.pointer (some ⟨b5,0,none⟩)∧L 9=.slice a4 x7.length cq4∧L 10=.int .i64 (x7.length:Int)∧L 11=.pointer (some ⟨b6,0,none⟩)∧L 12=.int .i64 y1∧w7.heap.size≤w.heap.size∧Ext w4 w) ?_ ?_
     ·
      refine wp_block<|lp (I:=fun m L w=>∃ y3:Int,∃ y4:(Int×(List (Int×Int×Int))),∃ v8:Value,top_TopLeastLevels_l2 F x7 y1 m y3 y4 =some z2∧L 13=.int .i64 y3∧Bx w b6 24 [.int .i64 y4.1,v8]∧Row 58 w7.heap.size w v8 y4.2∧some b6≠Value.ownBlock v8∧L 1=.slice a2 x1.length cq2∧L 2=.slice a3 x2.length cq3∧L 3=.int .u8 x3∧L 4=.pointer (some ⟨b5,0,none⟩)∧L 9=.slice a4 x7.length cq4∧L 10=.int .i64 (x7.length:Int)∧L 11=.pointer (some ⟨b6,0,none⟩)∧L 12=.int .i64 y1∧w7.heap.size≤w.heap.size∧Ext w4 w) F ⟨_,_,_,hB4,rfl,hb16,o4,ne1,l1_i1,l2_i1,l3_i1,l4_i1,l9_i1,l10_i1,l11_i1,l12_i1,zs3,k14⟩ ?_
      rintro m L w12 ⟨y3,y4,v8,hB4,l13_i2,B11_i2,O11c1_i2,N11c1_i2,l1_i2,l2_i2,l3_i2,l4_i2,l9_i2,l10_i2,l11_i2,l12_i2,Z0_i2,K0_i2⟩
      rcases m with _ | m
      ·rw [top_TopLeastLevels_l2] at hB4; cases hB4
      rw [top_TopLeastLevels_l2] at hB4
      have hz:=RV.sl O11c1_i2.rv; obtain ⟨a7,cq7,rfl,-,-,-⟩:=hz
      refine wp_seq<|Zr<|Zm<|Zm<|Zv (xlss l13_i2 l10_i2)<|nl<|cnd rfl (fun h8=>?_) (fun h8=>?_)
      ·
       have hB4:=ifp hB4 h8
       refine wp_skip<|wp_seq<|?_
       have hz:=bs hB4; obtain ⟨y5,hB6,hB4⟩:=hz
       refine ct (fun L w=>∃ v10:Value,Bx w b6 24 [.int .i64 y5.1,v10]∧Row 58 w7.heap.size w v10 y5.2∧some b6≠Value.ownBlock v10∧L 1=.slice a2 x1.length cq2∧L 2=.slice a3 x2.length cq3∧L 3=.int .u8 x3∧L 4=.pointer (some ⟨b5,0,none⟩)∧L 9=.slice a4 x7.length cq4∧L 10=.int .i64 (x7.length:Int)∧L 11=.pointer (some ⟨b6,0,none⟩)∧L 12=.int .i64 y1∧L 13=.int .i64 y3∧w7.heap.size≤w.heap.size∧Ext w4 w) ?_ ?_
       ·
        refine wp_block<|wp_seq<|wpl [] (.pure true 0 (.pure true 1 (.pure true 2 (.pure false 3 (.pure true 4 (.pure true 5 (.pure true 6 (.pure false 7 (.eff 8 .fin .stop))))))))) mixed (by kernel_rfl) (fun w13 hx8=>?_)
        have k17:=K0_i2.tr hx8
        have zs4:=Nat.le_trans Z0_i2 hx8.size
        have B2:=B11_i2.ext hx8
        have O2:=O11c1_i2.ext hx8
        refine Zn rfl<|Zn rfl<|?_
        have hz:=bs hB6; obtain ⟨x10,Ex10,hB6⟩:=hz
        have hz:=(RV.els r13).ix Ex10; obtain ⟨b8,f1,cs5,e2,i3,i4,q6,hc1⟩:=hz
        cases e2
        obtain ⟨a8,cq8,rfl,p2,q7,e3⟩:=q6
        have r50:=RV.of1 p2 q7 e3
        have hc2:=hc1.ext k17
        have r51:=r50.ext k17
        refine Zp rfl (fun _=>xixs l9_i2 l12_i2 Tryz.underlying85 ti98 i3 i4)<|Zq rfl (fun _ hS=>xld rfl ti98 ((hc2.ext (hS.resolve_left nofun)).at 0 rfl)) (Ext.refl _)<|Zn rfl<|Zn rfl<|?_
        have hz:=bs hB6; obtain ⟨x11,Ex11,hB6⟩:=hz
        have hz:=ix2 r13 Ex11; obtain ⟨cs6,i5,i6,q8,hc3⟩:=hz
        obtain ⟨a9,cq9,rfl,p3,q9,e4⟩:=q8
        have r52:=RV.of1 p3 q9 e4
        have hc4:=hc3.ext k17
        have r53:=r52.ext k17
        refine Zp rfl (fun _=>xixs l9_i2 l13_i2 Tryz.underlying85 ti98 i5 i6)<|Zq rfl (fun _ hS=>xld rfl ti98 ((hc4.ext (hS.resolve_left nofun)).at 0 rfl)) (Ext.refl _)<|?_
        have hz:=bs hB6; obtain ⟨x12,Ex12,hB6⟩:=hz
        refine pe1 rfl<|Zc (xc cb48 (mc rfl (mc rfl mn))) (c48 r51 r53 Ex12) ?_
        rintro _ w14 ⟨rfl,hx9⟩
        have k19:=k17.tr hx9
        have zs5:=Nat.le_trans zs4 hx9.size
        have B3:=B2.ext hx9
        have O3:=O2.ext hx9
        refine nl ⟨fun _ _=>hx9,?_⟩
        have hz:=bs hB6; obtain ⟨y6,hB7,hB6⟩:=hz
        refine ct (fun L w=>∃ v11:Value,Bx w b6 24 [.int .i64 y6.1,v11]∧Row 58 w7.heap.size w v11 y6.2∧some b6≠Value.ownBlock v11∧L 1=.slice a2 x1.length cq2∧L 2=.slice a3 x2.length cq3∧L 3=.int .u8 x3∧L 4=.pointer (some ⟨b5,0,none⟩)∧L 9=.slice (some ⟨b8,f1,none⟩) x7.length cq4∧L 10=.int .i64 (x7.length:Int)∧L 11=.pointer (some ⟨b6,0,none⟩)∧L 12=.int .i64 y1∧L 13=.int .i64 y3∧w7.heap.size≤w.heap.size∧Ext w4 w) ?_ ?_
        ·
         refine cnd rfl (fun h9=>?_) (fun h9=>?_)
         ·
          have hB7:=ifp hB7 h9
          refine rg<|Zv (xfa l11_i2 fa24_1)<|Zv (xld rfl ti22 ((Bx.cs B3).at 1 rfl))<|Zm<|Zv (xadd l13_i2 rfl)<|Zm<|Zv (xadd l12_i2 rfl)<|Zv (xbdv (r:=[.int .i64 (w64 (y3 + 1)),.int .i64 (w64 (y1 + 1)),.int .i64 (-1)]) ti58 sp58 (pc rfl (pc rfl (pc rfl pn))) rfl)<|sbsv (cs:=[.int .i64 (w64 (y3 + 1)),.int .i64 (w64 (y1 + 1)),.int .i64 (-1)]) Tryz.underlying22 ti58 rfl (pc rfl pn) rfl rfl rfl rfl rfl fun b9 w15 hx10 hg4 hb20=>?_
          have k22:=k19.tr hx10
          have zs6:=Nat.le_trans zs5 hx10.size
          have B4:=B3.ext hx10
          have O4:=O3.ext hx10
          have o6:Row (α:=(Int×Int×Int)) 58 w14.heap.size w15 (.slice (some ⟨b9,0,none⟩) 1 1) [(w64 (y3 + 1),w64 (y1 + 1),(-1))]:=Row.lit hg4 hb20 rfl (ble rfl)
          have hz:=bs hB7; obtain ⟨x13,Ex13,hB7⟩:=hz
          refine sapx (l:=y4.2) (k:=([(w64 (y3 + 1),w64 (y1 + 1),(-1))]:List (Int×Int×Int))) rfl rfl Tryz.underlying22 ti58 rfl rfl O4 (RV.els o6.rv) Ex13 zs6 fun v12 w16 o7 hB9 hgr2 how2=>?_
          have k26:=Ext.grow k22 k7.size hB9
          have zs7:=Nat.le_trans zs6 hgr2.size
          have ne2:=ne_app how2 N11c1_i2 B4.lt
          have hb23:=Bx.gr B4 hgr2 N11c1_i2
          have hz:=RV.sl o7.rv; obtain ⟨a10,cq10,rfl,-,-,-⟩:=hz
          refine Zv (xfa l11_i2 fa24_1)<|sst rfl rfl rfl ti22 hb23 rfl rfl (ble rfl) fun w17 hch3 hb24=>?_
          have k28:=Ext.chg k26 hch3 (Nat.le_trans (Nat.le_refl _) hg2)
          have zs8:=Nat.le_trans zs7 (Nat.le_of_eq hch3.size.symm)
          have o8:=Row.chgn o7 hch3 ne2
          have hb26:Bx w17 b6 24 [.int .i64 y4.1,.slice a10 x13.length cq10]:=hb24
          refine nl<|?_
          cases hB7
          refine lf<|?_
          exact ⟨_,hb26,o8,ne2,l1_i2,l2_i2,l3_i2,l4_i2,l9_i2,l10_i2,l11_i2,l12_i2,l13_i2,zs8,k28⟩
         ·
          have hB7:=ifn hB7 h9
          refine wp_skip<|?_
          cases hB7
          refine lf<|?_
          exact ⟨_,B3,O3,N11c1_i2,l1_i2,l2_i2,l3_i2,l4_i2,l9_i2,l10_i2,l11_i2,l12_i2,l13_i2,zs5,k19⟩
        rintro L w18 ⟨v11,B11_j1,O11c1_j1,N11c1_j1,l1_j1,l2_j1,l3_j1,l4_j1,l9_j1,l10_j1,l11_j1,l12_j1,l13_j1,Z0_j1,K0_j1⟩
        have hz:=RV.sl O11c1_j1.rv; obtain ⟨a11,cq11,rfl,-,-,-⟩:=hz
        cases hB6
        refine lf<|?_
        exact ⟨_,B11_j1,O11c1_j1,N11c1_j1,l1_j1,l2_j1,l3_j1,l4_j1,l9_j1,l10_j1,l11_j1,l12_j1,l13_j1,Z0_j1,K0_j1⟩
       rintro L w19 ⟨v10,B11_j2,O11c1_j2,N11c1_j2,l1_j2,l2_j2,l3_j2,l4_j2,l9_j2,l10_j2,l11_j2,l12_j2,l13_j2,Z0_j2,K0_j2⟩
       have hz:=RV.sl O11c1_j2.rv; obtain ⟨a12,cq12,rfl,-,-,-⟩:=hz
       refine rg<|Zm<|Zv (xadd l13_j2 rfl)<|Za<|nl<|?_
       refine lq m (Nat.lt_succ_self _)<|?_
       exact ⟨_,_,_,hB4,rfl,B11_j2,O11c1_j2,N11c1_j2,l1_j2,l2_j2,l3_j2,l4_j2,l9_j2,l10_j2,l11_j2,l12_j2,Z0_j2,K0_j2⟩
      ·
       have hB4:=ifn hB4 h8
       refine wp_exit<|?_
       cases hB4
       refine lf<|?_
       exact ⟨_,B11_i2,O11c1_i2,N11c1_i2,l1_i2,l2_i2,l3_i2,l4_i2,l9_i2,l10_i2,l11_i2,l12_i2,Z0_i2,K0_i2⟩
     rintro L w20 ⟨v9,B11_j3,O11c1_j3,N11c1_j3,l1_j3,l2_j3,l3_j3,l4_j3,l9_j3,l10_j3,l11_j3,l12_j3,Z0_j3,K0_j3⟩
     have hz:=RV.sl O11c1_j3.rv; obtain ⟨a13,cq13,rfl,-,-,-⟩:=hz
     refine rg<|Zm<|Zv (xadd l12_j3 rfl)<|Za<|nl<|?_
     refine lq m (Nat.lt_succ_self _)<|?_
     exact ⟨_,_,_,hB1,rfl,B11_j3,O11c1_j3,N11c1_j3,l1_j3,l2_j3,l3_j3,l4_j3,l9_j3,l10_j3,l11_j3,Z0_j3,K0_j3⟩
    ·
     have hB1:=ifn hB1 h7
     refine wp_exit<|?_
     cases hB1
     refine lf<|?_
     exact ⟨_,B11_i1,O11c1_i1,N11c1_i1,l1_i1,l2_i1,l3_i1,l4_i1,l10_i1,l11_i1,Z0_i1,K0_i1⟩
   rintro L w21 ⟨v6,B11_j4,O11c1_j4,N11c1_j4,l1_j4,l2_j4,l3_j4,l4_j4,l10_j4,l11_j4,Z0_j4,K0_j4⟩
   have k32:=k3.tr K0_j4
   have r83:=r15.ext K0_j4
   have r85:=r14.ext K0_j4
   have hb30:=hb3.ext K0_j4
   have hz:=RV.sl O11c1_j4.rv; obtain ⟨a14,cq14,rfl,-,-,-⟩:=hz
   refine wp_seq<|Zr<|Zv (xfa l11_j4 fa24_1)<|Zv (xld rfl ti22 ((Bx.cs B11_j4).at 1 rfl))<|Zv (xlen rfl Tryz.underlying22)<|Zv (xgtr rfl rfl)<|nl<|cnd rfl (fun h10=>?_) (fun h10=>?_)
   ·
    have hF:=ifp hF h10
    refine Zr<|?_
    have hz:=bs hF; obtain ⟨x14,Ex14,hF⟩:=hz
    refine Zc (xc cb35 mn) (c35 Ex14) ?_
    rintro _ w22 ⟨rfl,hx11⟩
    have k33:=k32.tr hx11
    refine Za<|nl<|?_
    cases hF
    exact wp_ret<|rt rfl (.tmp rfl rfl .nil) ⟨rfl,k33⟩
   ·
    have hF:=ifn hF h10
    refine wp_skip<|Zr<|Zv (xlda l4_j4 ti84 rfl (Bx.cs hb30))<|Zm<|?_
    have hz:=bs hF; obtain ⟨x15,Ex15,hF⟩:=hz
    refine Zc (xc cb49 (mc rfl (mc l1_j4 mn))) (c49 (show RV (α:=(Uno (List (Ar 2 Int)))) _ (.agg [.slice a1 x0.v.length cq1].toArray) (⟨x0.v⟩:(Uno (List (Ar 2 Int)))) from ⟨_,rfl,r85.rep1⟩) r83 Ex15) ?_
    rintro _ w23 ⟨u2,rfl,r86,hx12⟩
    have k35:=k32.tr hx12
    have zs10:=Nat.le_trans Z0_j4 hx12.size
    have hb31:=hb30.ext hx12
    have r87:=r85.ext hx12
    have B5:=B11_j4.ext hx12
    have O5:=O11c1_j4.ext hx12
    have r88:=r83.ext hx12
    have hz:=RV.sl r86; obtain ⟨a15,cq15,rfl,-,-,-⟩:=hz
    refine Zm<|Zv (xext rfl rfl)<|Zv (xext rfl rfl)<|Za<|Za<|nl<|Zr<|Zv (xlda l11_j4 ti24 rfl (Bx.cs B5))<|?_
    have hz:=bs hF; obtain ⟨x16,Ex16,hF⟩:=hz
    refine Zc (xc cb29 (mc rfl (mc rfl mn))) (c29 (show RV (α:=(Int×(List (Int×Int×Int)))) _ (.agg [.int .i64 z1.1,.slice a14 z1.2.length cq14].toArray) (z1.1,z1.2) from ⟨_,rfl,⟨[.int .i64 z1.1],[.slice a14 z1.2.length cq14],rfl,rfl,O5.rv.rep1⟩⟩) Ex16) ?_
    rintro _ w24 ⟨u3,rfl,r90,hx13⟩
    have k37:=k35.tr hx13
    have zs11:=Nat.le_trans zs10 hx13.size
    have hb32:=hb31.ext hx13
    have r91:=r87.ext hx13
    have B6:=B5.ext hx13
    have O6:=O5.ext hx13
    have r92:=r88.ext hx13
    have r94:=r86.ext hx13
    have hz:=RV.sl r90; obtain ⟨a16,cq16,rfl,-,-,-⟩:=hz
    refine Zm<|Zv (xext rfl rfl)<|Zv (xext rfl rfl)<|Za<|Za<|nl<|Zr<|Zv (xlda l11_j4 ti24 rfl (Bx.cs B6))<|?_
    have hz:=bs hF; obtain ⟨x17,Ex17,hF⟩:=hz
    refine Zc (xc cb30 (mc rfl mn)) (c30 (show RV (α:=(Int×(List (Int×Int×Int)))) _ (.agg [.int .i64 z1.1,.slice a14 z1.2.length cq14].toArray) (z1.1,z1.2) from ⟨_,rfl,⟨[.int .i64 z1.1],[.slice a14 z1.2.length cq14],rfl,rfl,O6.rv.rep1⟩⟩) Ex17) ?_
    rintro _ w25 ⟨u4,rfl,r95,hx14⟩
    have k39:=k37.tr hx14
    have zs12:=Nat.le_trans zs11 hx14.size
    have hb33:=hb32.ext hx14
    have r96:=r91.ext hx14
    have B7:=B6.ext hx14
    have O7:=O6.ext hx14
    have r97:=r92.ext hx14
    have r99:=r94.ext hx14
    have r100:=r90.ext hx14
    have hz:=RV.sl r95; obtain ⟨a17,cq17,rfl,-,-,-⟩:=hz
    refine Zm<|Zv (xext rfl rfl)<|Zv (xext rfl rfl)<|Za<|Za<|nl<|Zr<|Zv (xlda l4_j4 ti84 rfl (Bx.cs hb33))<|Zm<|?_
    have hz:=bs hF; obtain ⟨x18,Ex18,hF⟩:=hz
    refine Zc (xc cb41 (mc rfl (mc l1_j4 mn))) (c41 (show RV (α:=(Uno (List (Ar 2 Int)))) _ (.agg [.slice a1 x0.v.length cq1].toArray) (⟨x0.v⟩:(Uno (List (Ar 2 Int)))) from ⟨_,rfl,r96.rep1⟩) r97 Ex18) ?_
    rintro _ w26 ⟨u5,rfl,r101,hx15⟩
    have k41:=k39.tr hx15
    have zs13:=Nat.le_trans zs12 hx15.size
    have hb34:=hb33.ext hx15
    have r102:=r96.ext hx15
    have B8:=B7.ext hx15
    have O8:=O7.ext hx15
    have r103:=r97.ext hx15
    have r105:=r99.ext hx15
    have r106:=r100.ext hx15
    have hz:=RV.sl r101; obtain ⟨a18,cq18,rfl,-,-,-⟩:=hz
    refine Zm<|Zv (xext rfl rfl)<|Zv (xext rfl rfl)<|Za<|Za<|nl<|wp_seq<|wp_seq<|?_
    have hz:=bs hF; obtain ⟨y7,hB13,hF⟩:=hz
    refine ct (fun L w=>L 147=.bool y7∧L 1=.slice a2 x1.length cq2∧L 2=.slice a3 x2.length cq3∧L 3=.int .u8 x3∧L 4=.pointer (some ⟨b5,0,none⟩)∧L 10=.int .i64 (x7.length:Int)∧L 11=.pointer (some ⟨b6,0,none⟩)∧L 14=.slice a15 x15.1.length cq15∧L 16=.slice a16 x16.1.length cq16∧L 20=.slice a18 x18.1.length cq18∧w7.heap.size≤w.heap.size∧Ext w26 w) ?_ ?_
    ·
     refine rg<|Zm<|Zv (xneq rfl rfl)<|Zm<|?_
     have hz:=ifsn hB13; obtain ⟨h11,hB13⟩:=hz
     refine gtk rfl rfl rfl rfl rfl (bf h11)<|Zm<|gtk rfl rfl rfl rfl rfl (bf h11)<|Zv (xneq rfl rfl)<|Zv (xpf rfl h11 rfl)<|Zm<|?_
     have hz:=ifsn hB13; obtain ⟨h12,hB13⟩:=hz
     refine gtk rfl rfl rfl rfl rfl (bf h12)<|Zm<|gtk rfl rfl rfl rfl rfl (bf h12)<|Zv (xneq rfl rfl)<|Zv (xpf rfl h12 rfl)<|Zm<|?_
     have hz:=ifsn hB13; obtain ⟨h13,hB13⟩:=hz
     refine gtk rfl rfl rfl rfl rfl (bf h13)<|Zm<|gtk rfl rfl rfl rfl rfl (bf h13)<|Zv (xneq rfl rfl)<|Zv (xpf rfl h13 rfl)<|Zm<|?_
     have hz:=ifsn hB13; obtain ⟨h14,hB13⟩:=hz
     refine gtk rfl rfl rfl rfl rfl (bf h14)<|Zm<|gtk rfl rfl rfl rfl rfl (bf h14)<|Zv (xlen rfl Tryz.underlying41)<|gtk rfl rfl rfl rfl rfl (bf h14)<|Zm<|gtk rfl rfl rfl rfl rfl (bf h14)<|Zv (xneq rfl l10_j4)<|Zv (xpf rfl h14 rfl)<|Zm<|?_
     have hz:=ifsn hB13; obtain ⟨h15,hB13⟩:=hz
     refine gtk rfl rfl rfl rfl rfl (bf h15)<|Zm<|gtk rfl rfl rfl rfl rfl (bf h15)<|Zv (xlen rfl Tryz.underlying28)<|gtk rfl rfl rfl rfl rfl (bf h15)<|Zm<|gtk rfl rfl rfl rfl rfl (bf h15)<|Zv (xneq rfl l10_j4)<|Zv (xpf rfl h15 rfl)<|Zm<|?_
     have hz:=ifsn hB13; obtain ⟨h16,hB13⟩:=hz
     refine gtk rfl rfl rfl rfl rfl (bf h16)<|Zv (xlda l11_j4 ti24 rfl (Bx.cs B8))<|gtk rfl rfl rfl rfl rfl (bf h16)<|Zm<|?_
     have hz:=bs hB13; obtain ⟨x19,Ex19,hB13⟩:=hz
     refine gtk rfl rfl rfl rfl rfl (bf h16)<|Zc (xc cb31 (mc rfl (mc rfl mn))) (c31 (show RV (α:=(Int×(List (Int×Int×Int)))) _ (.agg [.int .i64 z1.1,.slice a14 z1.2.length cq14].toArray) (z1.1,z1.2) from ⟨_,rfl,⟨[.int .i64 z1.1],[.slice a14 z1.2.length cq14],rfl,rfl,O8.rv.rep1⟩⟩) r106 Ex19) ?_
     rintro _ w27 ⟨rfl,hx16⟩
     have zs14:=Nat.le_trans zs13 hx16.size
     refine gtk rfl rfl rfl rfl rfl (bf h16)<|Zv (xneq rfl rfl)<|Zv (xpf rfl h16 rfl)<|nl<|?_
     cases hB13
     refine lf<|?_
     exact ⟨rfl,l1_j4,l2_j4,l3_j4,l4_j4,l10_j4,l11_j4,rfl,rfl,rfl,zs14,hx16⟩
    rintro L w28 ⟨l147_j5,l1_j5,l2_j5,l3_j5,l4_j5,l10_j5,l11_j5,l14_j5,l16_j5,l20_j5,Z0_j5,K0_j5⟩
    have k45:=k41.tr K0_j5
    have r113:=r103.ext K0_j5
    have r115:=r102.ext K0_j5
    have hb36:=hb34.ext K0_j5
    have O10:=O8.ext K0_j5
    have B10:=B8.ext K0_j5
    refine cnd l147_j5 (fun h17=>?_) (fun h17=>?_)
    ·
     have hF:=ifp hF h17
     refine Zr<|Za<|nl<|?_
     cases hF
     exact wp_ret<|rt rfl (.tmp rfl rfl .nil) ⟨rfl,k45⟩
    ·
     have hF:=ifn hF h17
     refine wp_skip<|Zr<|Za<|nl<|wp_seq<|Zr<|Za<|nl<|?_
     have hz:=bs hF; obtain ⟨o9,hB14,hF⟩:=hz
     refine ct (fun L w=>∃ z3:Int,o9=.inr z3∧L 22=.int .i64 z3∧L 1=.slice a2 x1.length cq2∧L 2=.slice a3 x2.length cq3∧L 3=.int .u8 x3∧L 4=.pointer (some ⟨b5,0,none⟩)∧L 10=.int .i64 (x7.length:Int)∧L 11=.pointer (some ⟨b6,0,none⟩)∧L 14=.slice a15 x15.1.length cq15∧L 16=.slice a16 x16.1.length cq16∧L 20=.slice a18 x18.1.length cq18∧w7.heap.size≤w.heap.size∧Ext w28 w) ?_ ?_
     ·
      refine wp_block<|lp (I:=fun m L w=>∃ y8:Int,∃ y9:Int,top_TopLeastLevels_l3 F x7 x15 x16 m y8 y9 =some o9∧L 22=.int .i64 y8∧L 23=.int .i64 y9∧L 1=.slice a2 x1.length cq2∧L 2=.slice a3 x2.length cq3∧L 3=.int .u8 x3∧L 4=.pointer (some ⟨b5,0,none⟩)∧L 10=.int .i64 (x7.length:Int)∧L 11=.pointer (some ⟨b6,0,none⟩)∧L 14=.slice a15 x15.1.length cq15∧L 16=.slice a16 x16.1.length cq16∧L 20=.slice a18 x18.1.length cq18∧w7.heap.size≤w.heap.size∧Ext w28 w) F ⟨_,_,hB14,rfl,rfl,l1_j5,l2_j5,l3_j5,l4_j5,l10_j5,l11_j5,l14_j5,l16_j5,l20_j5,Z0_j5,(Ext.refl _)⟩ ?_
      rintro m L w29 ⟨y8,y9,hB14,l22_i7,l23_i7,l1_i7,l2_i7,l3_i7,l4_i7,l10_i7,l11_i7,l14_i7,l16_i7,l20_i7,Z0_i7,K0_i7⟩
      rcases m with _ | m
      ·rw [top_TopLeastLevels_l3] at hB14; cases hB14
      rw [top_TopLeastLevels_l3] at hB14
      have k47:=k45.tr K0_i7
      have k49:=K0_j5.tr K0_i7
      refine wp_seq<|Zr<|Zm<|Zm<|Zv (xlss l23_i7 l10_i7)<|nl<|cnd rfl (fun h18=>?_) (fun h18=>?_)
      ·
       have hB14:=ifp hB14 h18
       refine wp_skip<|wp_seq<|wp_block<|wp_seq<|wp_seq<|wpl [] (.pure true 0 (.pure true 1 (.pure true 2 (.pure false 3 (.pure true 4 (.pure true 5 (.pure true 6 (.pure false 7 (.pure true 8 .fin))))))))) mixed (by kernel_rfl) (fun w30 hx17=>?_)
       have k50:=k47.tr hx17
       have k52:=k49.tr hx17
       have k53:=K0_i7.tr hx17
       have zs15:=Nat.le_trans Z0_i7 hx17.size
       refine Zn rfl<|Zn rfl<|?_
       have hz:=bs hB14; obtain ⟨x20,Ex20,hB14⟩:=hz
       have hz:=(RV.els r105).ix Ex20; obtain ⟨b10,f2,cs7,e5,i8,i9,q10,hc5⟩:=hz
       cases e5
       obtain rfl:=q10
       have hc6:=hc5.ext k52
       refine Zp rfl (fun _=>xixs l14_i7 l23_i7 Tryz.underlying41 ti3 i8 i9)<|Zq rfl (fun _ hS=>xld rfl ti3 ((hc6.ext (hS.resolve_left nofun)).at 0 rfl)) (Ext.refl _)<|Zn rfl<|Zn rfl<|?_
       have hz:=bs hB14; obtain ⟨x21,Ex21,hB14⟩:=hz
       have hz:=(RV.els r106).ix Ex21; obtain ⟨b11,f3,cs8,e6,i10,i11,q11,hc7⟩:=hz
       cases e6
       obtain rfl:=q11
       have hc8:=hc7.ext k52
       refine Zp rfl (fun _=>xixs l16_i7 l23_i7 Tryz.underlying28 ti2 i10 i11)<|Zq rfl (fun _ hS=>xld rfl ti2 ((hc8.ext (hS.resolve_left nofun)).at 0 rfl)) (Ext.refl _)<|Zp rfl (fun _=>xneq rfl rfl)<|cnd rfl (fun h19=>?_) (fun h19=>?_)
       ·
        have hB14:=ifp hB14 h19
        refine Zr<|Za<|nl<|?_
        cases hB14
        have hF:=(show some _=some _ from hF); cases hF
        exact wp_ret<|rt rfl (.tmp rfl rfl .nil) ⟨rfl,k50⟩
       ·
        have hB14:=ifn hB14 h19
        refine wp_skip<|rg<|Zm<|Zm<|Zm<|?_
        have hz:=bs hB14; obtain ⟨x22,Ex22,hB14⟩:=hz
        have hz:=ix2 r106 Ex22; obtain ⟨cs9,i12,i13,q12,hc9⟩:=hz
        obtain rfl:=q12
        have hc10:=hc9.ext k52
        refine Zv (xixs l16_i7 l23_i7 Tryz.underlying28 ti2 i12 i13)<|Zv (xld rfl ti2 (hc10.at 0 rfl))<|Zv (xmax l22_i7 rfl)<|Za<|nl<|rg<|Zm<|Zv (xadd l23_i7 rfl)<|Za<|nl<|?_
        refine lq m (Nat.lt_succ_self _)<|?_
        exact ⟨_,_,hB14,rfl,rfl,l1_i7,l2_i7,l3_i7,l4_i7,l10_i7,l11_i7,l14_i7,l16_i7,l20_i7,zs15,k53⟩
      ·
       have hB14:=ifn hB14 h18
       refine wp_exit<|?_
       cases hB14
       refine lf<|?_
       exact ⟨_,rfl,l22_i7,l1_i7,l2_i7,l3_i7,l4_i7,l10_i7,l11_i7,l14_i7,l16_i7,l20_i7,Z0_i7,K0_i7⟩
     rintro L w31 ⟨z3,rfl,l22_j6,l1_j6,l2_j6,l3_j6,l4_j6,l10_j6,l11_j6,l14_j6,l16_j6,l20_j6,Z0_j6,K0_j6⟩
     have k54:=k45.tr K0_j6
     have k56:=K0_j5.tr K0_j6
     have r131:=r113.ext K0_j6
     have r133:=r115.ext K0_j6
     have hb39:=hb36.ext K0_j6
     have O13:=O10.ext K0_j6
     have B13:=B10.ext K0_j6
     refine Zr<|Zm<|Zv (xcvt l3_j6 Tryz.underlying5 Tryz.underlying3)<|Zm<|?_
     have hz:=bs hF; obtain ⟨x23,Ex23,hF⟩:=hz
     refine Zv (xremv rfl l10_j6 Ex23)<|Za<|nl<|Zr<|Zv (xlda l11_j6 ti24 rfl (Bx.cs B13))<|Zm<|Zv (xadd rfl rfl)<|?_
     have hz:=bs hF; obtain ⟨x24,Ex24,hF⟩:=hz
     refine Zc (xc cb50 (mc rfl (mc rfl mn))) (c50 (show RV (α:=(Int×(List (Int×Int×Int)))) _ (.agg [.int .i64 z1.1,.slice a14 z1.2.length cq14].toArray) (z1.1,z1.2) from ⟨_,rfl,⟨[.int .i64 z1.1],[.slice a14 z1.2.length cq14],rfl,rfl,O13.rv.rep1⟩⟩) Ex24) ?_
     rintro _ w32 ⟨u6,rfl,r137,hx18⟩
     have k57:=k54.tr hx18
     have k59:=k56.tr hx18
     have zs16:=Nat.le_trans Z0_j6 hx18.size
     have hb40:=hb39.ext hx18
     have r138:=r133.ext hx18
     have B14:=B13.ext hx18
     have O14:=O13.ext hx18
     have r139:=r131.ext hx18
     have hz:=id r137; obtain ⟨_,rfl,⟨_,_,rfl,rfl,rfl⟩⟩:=hz
     refine Zm<|Zv (xext rfl rfl)<|Zv (xext rfl rfl)<|sal ti35 fun b12 w33 hx19 hg5 hb41=>?_
     have k61:=k57.tr hx19
     have k63:=k59.tr hx19
     have zs17:=Nat.le_trans zs16 hx19.size
     refine sst rfl rfl rfl ti35 hb41 rfl rfl (ble rfl) fun w34 hch4 hb43=>?_
     have k65:=Ext.chg k61 hch4 (Nat.le_trans k57.size hg5)
     have k67:=Ext.chg k63 hch4 (Nat.le_trans k59.size hg5)
     have k69:=Ext.chg hx19 hch4 (Nat.le_trans (Nat.le_refl _) hg5)
     have zs18:=Nat.le_trans zs17 (Nat.le_of_eq hch4.size.symm)
     have hb44:=hb40.ext k69
     have r151:=r138.ext k69
     have B16:=B14.ext k69
     have O16:=O14.ext k69
     have r152:=r139.ext k69
     have hb45:Bx w34 b12 35 [.int .i64 x24.1.1,.int .i64 x24.1.2]:=hb43
     refine Za<|nl<|Zr<|Zv (xlda l11_j6 ti24 rfl (Bx.cs B16))<|Zm<|Zv (xadd rfl rfl)<|?_
     have hz:=bs hF; obtain ⟨x25,Ex25,hF⟩:=hz
     refine Zc (xc cb51 (mc rfl (mc rfl (mc rfl mn)))) (c51 (show RV (α:=(Int×(List (Int×Int×Int)))) _ (.agg [.int .i64 z1.1,.slice a14 z1.2.length cq14].toArray) (z1.1,z1.2) from ⟨_,rfl,⟨[.int .i64 z1.1],[.slice a14 z1.2.length cq14],rfl,rfl,O16.rv.rep1⟩⟩) Ex25) ?_
     rintro _ w35 ⟨u7,rfl,r157,hx20⟩
     have k70:=k65.tr hx20
     have k72:=k67.tr hx20
     have zs19:=Nat.le_trans zs18 hx20.size
     have hb46:=hb44.ext hx20
     have r158:=r151.ext hx20
     have B17:=B16.ext hx20
     have O17:=O16.ext hx20
     have hb47:=hb45.ext hx20
     have r159:=r152.ext hx20
     have hz:=RV.sl r157; obtain ⟨a19,cq19,rfl,-,-,-⟩:=hz
     refine Zm<|Zv (xext rfl rfl)<|Zv (xext rfl rfl)<|Zv (xext rfl rfl)<|Za<|Za<|Za<|nl<|Zr<|Zv (xlda l11_j6 ti24 rfl (Bx.cs B17))<|Zm<|Zv (xadd rfl rfl)<|Zm<|?_
     have hz:=bs hF; obtain ⟨x26,Ex26,hF⟩:=hz
     refine Zc (xc cb52 (mc rfl (mc rfl (mc rfl (mc rfl mn))))) (c52 (show RV (α:=(Int×(List (Int×Int×Int)))) _ (.agg [.int .i64 z1.1,.slice a14 z1.2.length cq14].toArray) (z1.1,z1.2) from ⟨_,rfl,⟨[.int .i64 z1.1],[.slice a14 z1.2.length cq14],rfl,rfl,O17.rv.rep1⟩⟩) r157 Ex26) ?_
     rintro _ w36 ⟨rfl,hx21⟩
     have k75:=k70.tr hx21
     have k77:=k72.tr hx21
     have zs20:=Nat.le_trans zs19 hx21.size
     have hb48:=hb46.ext hx21
     have r164:=r158.ext hx21
     have B18:=B17.ext hx21
     have O18:=O17.ext hx21
     have hb49:=hb47.ext hx21
     have r165:=r159.ext hx21
     refine Zm<|Zv (xext rfl rfl)<|Zv (xext rfl rfl)<|Za<|Za<|nl<|wp_seq<|wp_seq<|?_
     have hz:=bs hF; obtain ⟨y10,hB19,hF⟩:=hz
     refine ct (fun L w=>L 233=.bool y10∧L 1=.slice a2 x1.length cq2∧L 2=.slice a3 x2.length cq3∧L 4=.pointer (some ⟨b5,0,none⟩)∧L 10=.int .i64 (x7.length:Int)∧L 11=.pointer (some ⟨b6,0,none⟩)∧L 14=.slice a15 x15.1.length cq15∧w7.heap.size≤w.heap.size∧Ext w36 w) ?_ ?_
     ·
      refine wpl [] (.pure true 0 (.pure true 1 (.pure true 2 (.pure true 3 (.pure true 4 (.pure true 5 (.pure true 6 (.pure true 7 (.pure true 8 (.pure true 9 (.pure true 10 (.pure true 11 (.pure false 12 (.pure true 13 (.pure true 14 (.pure true 15 (.pure false 16 (.pure true 17 (.pure true 18 (.pure true 19 (.pure true 20 (.pure true 21 (.pure true 22 (.pure true 23 (.pure false 24 (.pure true 25 (.pure true 26 (.pure true 27 (.pure true 28 (.pure true 29 (.pure true 30 (.pure true 31 (.pure true 32 (.pure true 33 (.pure true 34 (.pure false 35 (.pure true 36 (.pure true 37 (.pure true 38 .fin))))))))))))))))))))))))))))))))))))))) mixed (by kernel_rfl) (fun w37 hx22=>?_)
      have k82:=k77.tr hx22
      have zs21:=Nat.le_trans zs20 hx22.size
      have hb51:=hb49.ext hx22
      refine Zn rfl<|Zp rfl (fun _=>xneq rfl rfl)<|Zn rfl<|?_
      have hz:=ifsn hB19; obtain ⟨h20,hB19⟩:=hz
      refine Zt rfl rfl rfl rfl (bf h20) (fun _=>xmv)<|Zt rfl rfl rfl rfl (bf h20) (fun _=>xneq rfl rfl)<|Zp rfl (fun _=>xpf rfl h20 rfl)<|Zn rfl<|?_
      have hz:=ifsn hB19; obtain ⟨h21,hB19⟩:=hz
      refine Zt rfl rfl rfl rfl (bf h21) (fun _=>xmv)<|Zt rfl rfl rfl rfl (bf h21) (fun _=>xneq rfl rfl)<|Zp rfl (fun _=>xpf rfl h21 rfl)<|Zn rfl<|?_
      have hz:=ifsn hB19; obtain ⟨h22,hB19⟩:=hz
      refine Zt rfl rfl rfl rfl (bf h22) (fun _=>xfa rfl fa35_0)<|pvt rfl rfl rfl rfl rfl rfl (bf h22) rfl (fun _ hS=>xld rfl ti2 ((Bx.cs (hb51.ext (hS.resolve_left nofun))).at 0 rfl)) (.inr (Ext.refl _))<|Zt rfl rfl rfl rfl (bf h22) (fun _=>xmv)<|Zt rfl rfl rfl rfl (bf h22) (fun _=>xmv)<|?_
      have hz:=bs hB19; obtain ⟨x27,Ex27,hB19⟩:=hz
      have hz:=(RV.els r106).ix Ex27; obtain ⟨b13,f4,cs10,e7,i14,i15,q13,hc11⟩:=hz
      cases e7
      obtain rfl:=q13
      have hc12:=hc11.ext k82
      refine Zt rfl rfl rfl rfl (bf h22) (fun _=>xixs l16_j6 rfl Tryz.underlying28 ti2 i14 i15)<|pvt rfl rfl rfl rfl rfl rfl (bf h22) rfl (fun _ hS=>xld rfl ti2 ((hc12.ext (hS.resolve_left nofun)).at 0 rfl)) (.inr (Ext.refl _))<|Zt rfl rfl rfl rfl (bf h22) (fun _=>xneq rfl rfl)<|Zp rfl (fun _=>xpf rfl h22 rfl)<|Zn rfl<|?_
      have hz:=ifsn hB19; obtain ⟨h23,hB19⟩:=hz
      refine Zt rfl rfl rfl rfl (bf h23) (fun _=>xmv)<|Zt rfl rfl rfl rfl (bf h23) (fun _=>xmv)<|Zt rfl rfl rfl rfl (bf h23) (fun _=>xmv)<|?_
      have hz:=bs hB19; obtain ⟨x28,Ex28,hB19⟩:=hz
      have hz:=ix2 r106 Ex28; obtain ⟨cs11,i16,i17,q14,hc13⟩:=hz
      obtain rfl:=q14
      have hc14:=hc13.ext k82
      refine Zt rfl rfl rfl rfl (bf h23) (fun _=>xixs l16_j6 rfl Tryz.underlying28 ti2 i16 i17)<|pvt rfl rfl rfl rfl rfl rfl (bf h23) rfl (fun _ hS=>xld rfl ti2 ((hc14.ext (hS.resolve_left nofun)).at 0 rfl)) (.inr (Ext.refl _))<|Zt rfl rfl rfl rfl (bf h23) (fun _=>xneg rfl)<|Zt rfl rfl rfl rfl (bf h23) (fun _=>xneq rfl rfl)<|Zp rfl (fun _=>xpf rfl h23 rfl)<|Zn rfl<|?_
      have hz:=ifsn hB19; obtain ⟨h24,hB19⟩:=hz
      refine Zt rfl rfl rfl rfl (bf h24) (fun _=>xmv)<|Zt rfl rfl rfl rfl (bf h24) (fun _=>xmv)<|Zt rfl rfl rfl rfl (bf h24) (fun _=>xneq rfl rfl)<|Zp rfl (fun _=>xpf rfl h24 rfl)<|Zn rfl<|?_
      have hz:=ifsn hB19; obtain ⟨h25,hB19⟩:=hz
      refine Zt rfl rfl rfl rfl (bf h25) (fun _=>xmv)<|pvt rfl rfl rfl rfl rfl rfl (bf h25) rfl (fun _ hS=>xlen l20_j6 Tryz.underlying85) (.inr (Ext.refl _))<|Zt rfl rfl rfl rfl (bf h25) (fun _=>xmv)<|Zt rfl rfl rfl rfl (bf h25) (fun _=>xneq rfl l22_j6)<|Zp rfl (fun _=>xpf rfl h25 rfl)<|?_
      cases hB19
      refine lf<|?_
      exact ⟨rfl,l1_j6,l2_j6,l4_j6,l10_j6,l11_j6,l14_j6,zs21,hx22⟩
     rintro L w38 ⟨l233_j7,l1_j7,l2_j7,l4_j7,l10_j7,l11_j7,l14_j7,Z0_j7,K0_j7⟩
     have k85:=k75.tr K0_j7
     have k87:=k77.tr K0_j7
     have r176:=r165.ext K0_j7
     have r178:=r164.ext K0_j7
     have hb52:=hb48.ext K0_j7
     have O20:=O18.ext K0_j7
     have B20:=B18.ext K0_j7
     refine cnd l233_j7 (fun h26=>?_) (fun h26=>?_)
     ·
      have hF:=ifp hF h26
      refine Zr<|Za<|nl<|?_
      cases hF
      exact wp_ret<|rt rfl (.tmp rfl rfl .nil) ⟨rfl,k85⟩
     ·
      have hF:=ifn hF h26
      refine wp_skip<|Zr<|Za<|nl<|Zr<|Za<|nl<|wp_seq<|Zr<|Za<|nl<|?_
      have o10:Row (α:=Int) 3 w38.heap.size w38 (.slice none 0 0) []:=Row.nil
      have o11:Row (α:=Int) 2 w38.heap.size w38 (.slice none 0 0) []:=Row.nil
      have hz:=bs hF; obtain ⟨⟨z4,z5⟩,hB20,hF⟩:=hz
      refine ct (fun L w=>∃ v15 v16:Value,L 29=v15∧Row 3 w38.heap.size w v15 z4∧L 30=v16∧Row 2 w38.heap.size w v16 z5∧Apart (v15) (v16)∧L 1=.slice a2 x1.length cq2∧L 4=.pointer (some ⟨b5,0,none⟩)∧L 11=.pointer (some ⟨b6,0,none⟩)∧w7.heap.size≤w.heap.size∧Ext w38 w) ?_ ?_
      ·
       refine wp_block<|lp (I:=fun m L w=>∃ y11:(List Int),∃ y12:(List Int),∃ y13:Int,∃ v13 v14:Value,top_TopLeastLevels_l4 F x2 x7 x15 m y11 y12 y13 =some (z4,z5)∧L 29=v13∧Row 3 w38.heap.size w v13 y11∧L 30=v14∧Row 2 w38.heap.size w v14 y12∧L 31=.int .i64 y13∧Apart (v13) (v14)∧L 1=.slice a2 x1.length cq2∧L 2=.slice a3 x2.length cq3∧L 4=.pointer (some ⟨b5,0,none⟩)∧L 10=.int .i64 (x7.length:Int)∧L 11=.pointer (some ⟨b6,0,none⟩)∧L 14=.slice a15 x15.1.length cq15∧w7.heap.size≤w.heap.size∧Ext w38 w) F ⟨_,_,_,_,_,hB20,rfl,o10,rfl,o11,rfl,(Apart.old' o10.own_lt (fun q e=>(o11.lt q e).1)),l1_j7,l2_j7,l4_j7,l10_j7,l11_j7,l14_j7,Z0_j7,(Ext.refl _)⟩ ?_
       rintro m L w39 ⟨y11,y12,y13,v13,v14,hB20,l29_i18,O29_i18,l30_i18,O30_i18,l31_i18,X0_i18,l1_i18,l2_i18,l4_i18,l10_i18,l11_i18,l14_i18,Z0_i18,K0_i18⟩
       rcases m with _ | m
       ·rw [top_TopLeastLevels_l4] at hB20; cases hB20
       rw [top_TopLeastLevels_l4] at hB20
       have k90:=k85.tr K0_i18
       have k92:=k87.tr K0_i18
       have hz:=RV.sl O29_i18.rv; obtain ⟨a20,cq20,rfl,-,-,-⟩:=hz
       have hz:=RV.sl O30_i18.rv; obtain ⟨a21,cq21,rfl,-,-,-⟩:=hz
       refine wp_seq<|Zr<|Zm<|Zm<|Zv (xlss l31_i18 l10_i18)<|nl<|cnd rfl (fun h27=>?_) (fun h27=>?_)
       ·
        have hB20:=ifp hB20 h27
        refine wp_skip<|wp_seq<|wp_block<|Zr<|Zm<|Zm<|?_
        have hz:=bs hB20; obtain ⟨x29,Ex29,hB20⟩:=hz
        have hz:=(RV.els r105).ix Ex29; obtain ⟨b14,f5,cs12,e8,i19,i20,q15,hc15⟩:=hz
        cases e8
        obtain rfl:=q15
        have hc16:=hc15.ext k92
        refine Zv (xixs l14_i18 l31_i18 Tryz.underlying41 ti3 i19 i20)<|Zv (xld rfl ti3 (hc16.at 0 rfl))<|Za<|nl<|wp_seq<|Zr<|Zm<|Zm<|Zv (xlen l2_i18 Tryz.underlying49)<|Zv (xlss l31_i18 rfl)<|nl<|?_
        have hz:=bs hB20; obtain ⟨y14,hB22,hB20⟩:=hz
        refine ct (fun L w=>L 32=.int .i64 y14∧L 1=.slice a2 x1.length cq2∧L 2=.slice a3 x2.length cq3∧L 4=.pointer (some ⟨b5,0,none⟩)∧L 10=.int .i64 (x7.length:Int)∧L 11=.pointer (some ⟨b6,0,none⟩)∧L 14=.slice (some ⟨b14,f5,none⟩) x15.1.length cq15∧L 29=.slice a20 y11.length cq20∧L 30=.slice a21 y12.length cq21∧L 31=.int .i64 y13∧w7.heap.size≤w.heap.size∧w38.heap.size≤w.heap.size∧Ext w39 w) ?_ ?_
        ·
         refine cnd rfl (fun h28=>?_) (fun h28=>?_)
         ·
          have hB22:=ifp hB22 h28
          refine rg<|Zm<|Zm<|Zm<|?_
          have hz:=bs hB22; obtain ⟨x30,Ex30,hB22⟩:=hz
          have hz:=(RV.els r2).ix Ex30; obtain ⟨b15,f6,cs13,e9,i21,i22,q16,hc17⟩:=hz
          cases e9
          obtain rfl:=q16
          have hc18:=hc17.ext k90
          refine Zv (xixs l2_i18 l31_i18 Tryz.underlying49 ti5 i21 i22)<|Zv (xld rfl ti5 (hc18.at 0 rfl))<|Zv (xcvt rfl Tryz.underlying5 Tryz.underlying3)<|Zv (xrem rfl rfl (by decide))<|Zv (xadd rfl rfl)<|Za<|nl<|?_
          cases hB22
          refine lf<|?_
          exact ⟨rfl,l1_i18,l2_i18,l4_i18,l10_i18,l11_i18,l14_i18,l29_i18,l30_i18,l31_i18,Z0_i18,K0_i18.size,(Ext.refl _)⟩
         ·
          have hB22:=ifn hB22 h28
          refine wp_skip<|?_
          cases hB22
          refine lf<|?_
          exact ⟨rfl,l1_i18,l2_i18,l4_i18,l10_i18,l11_i18,l14_i18,l29_i18,l30_i18,l31_i18,Z0_i18,K0_i18.size,(Ext.refl _)⟩
        rintro L w40 ⟨l32_j8,l1_j8,l2_j8,l4_j8,l10_j8,l11_j8,l14_j8,l29_j8,l30_j8,l31_j8,Z0_j8,Z1_j8,K0_j8⟩
        have k102:=K0_i18.tr K0_j8
        have O23:=O29_i18.ext K0_j8
        have O24:=O30_i18.ext K0_j8
        refine rg<|Zm<|Zm<|sbsv (cs:=[.int .i64 y14]) Tryz.underlying41 ti3 rfl (pc l32_j8 pn) rfl rfl rfl rfl rfl fun b16 w41 hx23 hg6 hb55=>?_
        have k109:=k102.tr hx23
        have zs22:=Nat.le_trans Z0_j8 hx23.size
        have O26:=O24.ext hx23
        have O27:=O23.ext hx23
        have o13:Row (α:=Int) 3 w40.heap.size w41 (.slice (some ⟨b16,0,none⟩) 1 1) [y14]:=Row.lit hg6 hb55 rfl (ble rfl)
        have hz:=bs hB20; obtain ⟨x31,Ex31,hB20⟩:=hz
        refine sapx (l:=y11) (k:=([y14]:List Int)) l29_j8 rfl Tryz.underlying41 ti3 rfl rfl O27 (RV.els o13.rv) Ex31 k109.size fun v17 w42 o14 hB25 hgr3 how3=>?_
        have k117:Ext w38 w42:=k109.trans hB25
        have X2:=Apart.app how3 X0_i18 O26.own_lt
        have zs24:=Nat.le_trans zs22 hgr3.size
        have o15:=Row.gra O26 hgr3 X0_i18
        have hz:=RV.sl o14.rv; obtain ⟨a22,cq22,rfl,-,-,-⟩:=hz
        refine Zm<|Zm<|sbsv (cs:=[.int .i64 y14]) Tryz.underlying28 ti2 rfl (pc l32_j8 pn) rfl rfl rfl rfl rfl fun b17 w43 hx24 hg7 hb58=>?_
        have k124:=k117.tr hx24
        have zs26:=Nat.le_trans zs24 hx24.size
        have o16:=o14.ext hx24
        have O30:=o15.ext hx24
        have o17:Row (α:=Int) 2 w42.heap.size w43 (.slice (some ⟨b17,0,none⟩) 1 1) [y14]:=Row.lit hg7 hb58 rfl (ble rfl)
        have hz:=bs hB20; obtain ⟨x32,Ex32,hB20⟩:=hz
        refine sapx (l:=y12) (k:=([y14]:List Int)) l30_j8 rfl Tryz.underlying28 ti2 rfl rfl O30 (RV.els o17.rv) Ex32 k124.size fun v18 w44 o18 hB26 hgr4 how4=>?_
        have k131:Ext w38 w44:=k124.trans hB26
        have X4:=Apart.app how4 (Apart.symm X2) o16.own_lt
        have zs28:=Nat.le_trans zs26 hgr4.size
        have o19:=Row.gra o16 hgr4 (Apart.symm X2)
        have hz:=RV.sl o18.rv; obtain ⟨a23,cq23,rfl,-,-,-⟩:=hz
        refine Za<|Za<|nl<|rg<|Zm<|Zv (xadd l31_j8 rfl)<|Za<|nl<|?_
        refine lq m (Nat.lt_succ_self _)<|?_
        exact ⟨_,_,_,_,_,hB20,rfl,o19,rfl,o18,rfl,(Apart.symm X4),l1_j8,l2_j8,l4_j8,l10_j8,l11_j8,l14_j8,zs28,k131⟩
       ·
        have hB20:=ifn hB20 h27
        refine wp_exit<|?_
        cases hB20
        refine lf<|?_
        exact ⟨_,_,l29_i18,O29_i18,l30_i18,O30_i18,X0_i18,l1_i18,l4_i18,l11_i18,Z0_i18,K0_i18⟩
      rintro L w45 ⟨v15,v16,l29_j9,O29_j9,l30_j9,O30_j9,X0_j9,l1_j9,l4_j9,l11_j9,Z0_j9,K0_j9⟩
      have k132:=k85.tr K0_j9
      have r206:=r176.ext K0_j9
      have r207:=r178.ext K0_j9
      have hb61:=hb52.ext K0_j9
      have O32:=O20.ext K0_j9
      have B27:=B20.ext K0_j9
      have hz:=RV.sl O29_j9.rv; obtain ⟨a24,cq24,rfl,-,-,-⟩:=hz
      have hz:=RV.sl O30_j9.rv; obtain ⟨a25,cq25,rfl,-,-,-⟩:=hz
      refine Zr<|Zv (xlda l4_j9 ti84 rfl (Bx.cs hb61))<|Zm<|Zm<|?_
      have hz:=bs hF; obtain ⟨x33,Ex33,hF⟩:=hz
      refine Zc (xc cb53 (mc rfl (mc l1_j9 (mc l29_j9 mn)))) (c53 (show RV (α:=(Uno (List (Ar 2 Int)))) _ (.agg [.slice a1 x0.v.length cq1].toArray) (⟨x0.v⟩:(Uno (List (Ar 2 Int)))) from ⟨_,rfl,r207.rep1⟩) r206 O29_j9.rv Ex33) ?_
      rintro _ w46 ⟨rfl,hx25⟩
      have k138:=k132.tr hx25
      have B28:=B27.ext hx25
      have O33:=O32.ext hx25
      have O34:=O30_j9.ext hx25
      refine Zm<|Zv (xext rfl rfl)<|Zv (xext rfl rfl)<|Za<|nl<|Zr<|Zv (xlda l11_j9 ti24 rfl (Bx.cs B28))<|Zm<|?_
      have hz:=bs hF; obtain ⟨x34,Ex34,hF⟩:=hz
      refine Zc (xc cb17 (mc rfl (mc l30_j9 mn))) (c17 (show RV (α:=(Int×(List (Int×Int×Int)))) _ (.agg [.int .i64 z1.1,.slice a14 z1.2.length cq14].toArray) (z1.1,z1.2) from ⟨_,rfl,⟨[.int .i64 z1.1],[.slice a14 z1.2.length cq14],rfl,rfl,O33.rv.rep1⟩⟩) O34.rv Ex34) ?_
      rintro _ w47 ⟨rfl,hx26⟩
      have k145:=k138.tr hx26
      refine Za<|nl<|Zr<|Zm<|Zv (xeql rfl rfl)<|Zm<|Zv (xeql rfl rfl)<|Zv (xeqb Tryz.underlying4 rfl rfl)<|Zm<|Zg rfl rfl (gw1 rfl) (fun hc=>xmva rfl)<|Zg rfl rfl (gw1 rfl) (fun hc=>xeql (mv hc rfl) rfl)<|Zg rfl rfl (gw1 rfl) (fun hc=>xmva (mv hc rfl))<|Zg rfl rfl (gn0 rfl) (fun hc=>xmva rfl)<|Zg rfl rfl (gn0 rfl) (fun hc=>xeql (mv hc rfl) rfl)<|Zg rfl rfl (gn0 rfl) (fun hc=>xmva (mv hc rfl))<|Zg rfl rfl (gn1 rfl) (fun hc=>xmva rfl)<|Zg rfl rfl (gn1 rfl) (fun hc=>xeql (mv hc rfl) rfl)<|Zg rfl rfl (gn0 rfl) (fun hc=>xpa (mv hc rfl) (mvn hc rfl) rfl)<|Zg rfl rfl (gw1 rfl) (fun hc=>xpo (mv hc rfl) (mvn hc rfl) rfl)<|Zv (xpa rfl rfl rfl)<|Zm<|?_
      have hz:=bs hF; obtain ⟨x35,Ex35,hF⟩:=hz
      refine gc rfl rfl rfl rfl (gw1 rfl) rfl (fun hc=>xc cb35 mn) (fun hc=>(c35 (gdp Ex35 hc))) (fun v19 w48 hy1 hn1=>?_)
      have hx27:Ext w47 w48:=gx (fun h=>(hy1 h).2) (fun h=>(hn1 h).2 ▸ Ext.refl _)
      have e10:=mkw (fun h=>(hy1 h).1) (fun h=>(hn1 h).1)
      have k152:=k145.tr hx27
      refine Zv (xpa rfl e10 rfl)<|Za<|nl<|?_
      cases hF
      exact wp_ret<|rt rfl (.tmp rfl rfl .nil) ⟨rfl,k152⟩
end Go.Proofs.YtfmelbioccbdoaaGreat
end
section
namespace Go.Proofs.YtfmelbioccbdoaaGreat
open Go Go.Md Go.RowKit
theorem w64_in {n:Int} (h:-9223372036854775808≤n∧n≤9223372036854775807):w64 n=n:=IntWalk.i64_in n h
def idxL {α:Type} (l:List α) (f:α→Option Bool):Nat→Int→Option (Sum Int Unit)
 | 0,_=>none
 | m + 1,k =>
  if (decide (k<(l.length:Int)))=true then
   (ix l k) >>= fun x=>(f x) >>= fun b=>if b=true then some (.inl k) else idxL l f m (w64 (k + 1))
  else some (.inr ())
theorem ix_nat {α:Type} {l:List α} {k:Nat} (h:k<l.length):ix l (k:Int)=some l[k]:=by
 simp [ix,List.getElem?_eq_getElem h]
theorem idxL_any {α:Type} {l:List α} {f:α→Option Bool} {p:α→Bool} (hf:∀ x∈l,f x=some (p x)) (hl:l.length<4611686018427387904) :
  ∀ (m k:Nat),k≤l.length→l.length - k<m→∃ r,idxL l f m (k:Int)=some r∧((l.drop k).any p=true→∃ j:Nat,r=.inl (j:Int))∧((l.drop k).any p=false→r=.inr ())
 | 0,k,_,h=>by omega
 | m + 1,k,hk,h=>by
  unfold idxL
  by_cases hlt:k<l.length
  ·have e:decide ((k:Int)<(l.length:Int))=true:=by simpa using hlt
   rw [if_pos e,ix_nat hlt]
   have hd:l.drop k=l[k]::l.drop (k + 1):=List.drop_eq_getElem_cons hlt
   have hfx:=hf l[k] (List.getElem_mem hlt)
   simp only [Option.bind_eq_bind,Option.bind_some,hfx]
   cases hp:p l[k] with
   | true =>
    refine ⟨_,if_pos rfl,fun _=>⟨k,rfl⟩,fun h=>?_⟩
    rw [hd,List.any_cons,hp] at h
    cases h
   | false =>
    rw [if_neg (by simp),w64_in (by omega)]
    obtain ⟨r,h1,h2,h3⟩:=idxL_any hf hl m (k + 1) (by omega) (by omega)
    refine ⟨r,h1,?_,?_⟩ <;> rw [hd,List.any_cons,hp,Bool.false_or] <;> assumption
  ·have e:¬ decide ((k:Int)<(l.length:Int))=true:=by simpa using hlt
   rw [if_neg e]
   have:l.drop k=[]:=List.drop_of_length_le (by omega)
   refine ⟨_,rfl,?_,fun _=>rfl⟩
   rw [this]
   intro h
   cases h
section
variable {α:Type} {f:α→Option Bool} {p:α→Bool}
theorem idx_int {l:List Int} {f:Int→Option Bool} (F:Nat):∀ m k,slices_IndexFunc_int_l1 F l f m k=idxL l f m k
 | 0,_=>rfl
 | m + 1,k=>by unfold slices_IndexFunc_int_l1 idxL; simp only [idx_int F m]
theorem idx_int64 {l:List Int} {f:Int→Option Bool} (F:Nat):∀ m k,slices_IndexFunc_int64_l1 F l f m k=idxL l f m k
 | 0,_=>rfl
 | m + 1,k=>by unfold slices_IndexFunc_int64_l1 idxL; simp only [idx_int64 F m]
theorem idx_rule {l:List (Int×Int×Int)} {f:(Int×Int×Int)→Option Bool} (F:Nat):∀ m k,slices_IndexFunc_api_SpeedRule_l1 F l f m k=idxL l f m k
 | 0,_=>rfl
 | m + 1,k=>by unfold slices_IndexFunc_api_SpeedRule_l1 idxL; simp only [idx_rule F m]
theorem con_int {l:List Int} {f:Int→Option Bool} {p:Int→Bool} {F:Nat} (hf:∀ x∈l,f x=some (p x)) (hF:l.length<F) (hl:l.length<4611686018427387904):slices_ContainsFunc_int F l f=some (l.any p):=by
 obtain ⟨r,h1,h2,h3⟩:=idxL_any hf hl F 0 (Nat.zero_le _) (by omega)
 unfold slices_ContainsFunc_int slices_IndexFunc_int
 rw [idx_int]
 simp only [Int.natCast_zero,List.drop_zero] at h1 h2 h3
 rw [h1]
 cases hp:l.any p with
 | true=>obtain ⟨j,rfl⟩:=h2 hp; simp [Option.bind_eq_bind]
 | false=>obtain rfl:=h3 hp; simp [Option.bind_eq_bind]
theorem con_int64 {l:List Int} {f:Int→Option Bool} {p:Int→Bool} {F:Nat} (hf:∀ x∈l,f x=some (p x)) (hF:l.length<F) (hl:l.length<4611686018427387904):slices_ContainsFunc_int64 F l f=some (l.any p):=by
 obtain ⟨r,h1,h2,h3⟩:=idxL_any hf hl F 0 (Nat.zero_le _) (by omega)
 unfold slices_ContainsFunc_int64 slices_IndexFunc_int64
 rw [idx_int64]
 simp only [Int.natCast_zero,List.drop_zero] at h1 h2 h3
 rw [h1]
 cases hp:l.any p with
 | true=>obtain ⟨j,rfl⟩:=h2 hp; simp [Option.bind_eq_bind]
 | false=>obtain rfl:=h3 hp; simp [Option.bind_eq_bind]
theorem con_rule {l:List (Int×Int×Int)} {f:(Int×Int×Int)→Option Bool} {p:(Int×Int×Int)→Bool} {F:Nat} (hf:∀ x∈l,f x=some (p x)) (hF:l.length<F) (hl:l.length<4611686018427387904):slices_ContainsFunc_api_SpeedRule F l f=some (l.any p):=by
 obtain ⟨r,h1,h2,h3⟩:=idxL_any hf hl F 0 (Nat.zero_le _) (by omega)
 unfold slices_ContainsFunc_api_SpeedRule slices_IndexFunc_api_SpeedRule
 rw [idx_rule]
 simp only [Int.natCast_zero,List.drop_zero] at h1 h2 h3
 rw [h1]
 cases hp:l.any p with
 | true=>obtain ⟨j,rfl⟩:=h2 hp; simp [Option.bind_eq_bind]
 | false=>obtain rfl:=h3 hp; simp [Option.bind_eq_bind]
end
def inR (lo hi n:Int):Bool:=decide (lo≤n) && decide (n≤hi)
theorem any_inR {lo hi:Int} (l:List Int):(!l.any fun n=>decide (n<lo) || decide (hi<n))=l.all (inR lo hi):=by
 induction l with
 | nil=>rfl
 | cons a l ih =>
  simp only [List.any_cons,List.all_cons,Bool.not_or,ih,inR]
  congr 1
  by_cases h1:a<lo <;> by_cases h2:hi<a <;> simp [h1,h2] <;> omega
theorem turns_eq {F:Nat} {lo hi:Int} {l:List Int} (hF:l.length<F) (hl:l.length<4611686018427387904):speed_turns F lo hi l=some (l.all (inR lo hi)):=by
 unfold speed_turns
 rw [con_int (f:=fun y=>speed_turns_1 y lo hi) (p:=fun n=>decide (n<lo) || decide (hi<n)) (fun x _=>rfl) hF hl]
 simp only [Option.bind_eq_bind,Option.bind_some,any_inR]
theorem within_eq {F:Nat} {lo hi:Int} {l:List Int} (hF:l.length<F) (hl:l.length<4611686018427387904):speed_within F lo hi l=some (l.all (inR lo hi)):=by
 unfold speed_within
 rw [con_int64 (f:=fun y=>speed_within_1 y lo hi) (p:=fun n=>decide (n<lo) || decide (hi<n)) (fun x _=>rfl) hF hl]
 simp only [Option.bind_eq_bind,Option.bind_some,any_inR]
end Go.Proofs.YtfmelbioccbdoaaGreat
end
section
namespace Go.Proofs.YtfmelbioccbdoaaGreat
open Go Go.Md Go.RowKit
def okRule (T:Int) (r:Int×Int×Int):Bool:=inR 0 T r.1 && inR 0 T r.2.1 && !decide (r.1=r.2.1) && inR (-100000) 100000 r.2.2
def csheet (x:Int×List (Int×Int×Int)):Int :=
 if 60<x.2.length then 6 else if inR 1 20 x.1=true then (if x.2.all (okRule x.1)=true then 0 else 3) else 2
theorem bad_eq {F:Nat} (hF:3<F) (T:Int) (s:List (Int×Int×Int)) (r:Int×Int×Int):speed_CheckSheet_1 F r (T,s)=some (!okRule T r):=by
 unfold speed_CheckSheet_1
 rw [turns_eq (by simp; omega) (by simp),within_eq (by simp; omega) (by simp)]
 simp only [Option.bind_eq_bind,Option.bind_some,List.all_cons,List.all_nil,Bool.and_true,okRule]
 cases h1:inR 0 T r.1 <;> cases h2:inR 0 T r.2.1 <;> by_cases h3:r.1=r.2.1 <;> cases h4:inR (-100000) 100000 r.2.2 <;> simp [gd,h3]
theorem any_not {α:Type} {p:α→Bool} (l:List α):(l.any fun x=>!p x)=!l.all p:=by
 induction l with
 | nil=>rfl
 | cons a l ih=>simp [ih,Bool.not_and]
theorem checkSheet_eq {F:Nat} (hF:100<F) (x:Int×List (Int×Int×Int)):speed_CheckSheet F x=some (csheet x):=by
 unfold speed_CheckSheet csheet
 by_cases h1:60<x.2.length
 ·rw [if_pos (by simp; omega),if_pos h1]
 ·rw [if_neg (by simp; omega),if_neg h1,turns_eq (by simp; omega) (by simp)]
  simp only [Option.bind_eq_bind,Option.bind_some,List.all_cons,List.all_nil,Bool.and_true]
  cases h2:inR 1 20 x.1 with
  | false=>simp
  | true =>
   rw [con_rule (p:=fun r=>!okRule x.1 r) (fun r _=>bad_eq (by omega) x.1 x.2 r) (by omega) (by omega),any_not]
   simp only [Option.bind_some]
   cases x.2.all (okRule x.1) <;> simp
theorem isRule_eq (r:Int×Int×Int) (T:Int):ref01_IsRule r T=some (okRule T r):=by
 unfold ref01_IsRule okRule inR
 congr 1
 cases decide (0≤r.1) <;> cases decide (r.1≤T) <;> cases decide (0≤r.2.1) <;> cases decide (r.2.1≤T) <;> simp [Bool.and_assoc]
theorem refSheet_l1 {F:Nat} {x:Int×List (Int×Int×Int)} (hl:x.2.length<4611686018427387904):∀ (m k:Nat),k≤x.2.length→x.2.length - k<m →
  ref01_CheckSheet_l1 F x m (k:Int)=some (if (x.2.drop k).all (okRule x.1)=true then .inr () else .inl 3)
 | 0,k,_,h=>by omega
 | m + 1,k,hk,h=>by
  unfold ref01_CheckSheet_l1
  by_cases hlt:k<x.2.length
  ·rw [if_pos (by simpa using hlt),ix_nat hlt]
   have hd:x.2.drop k=x.2[k]::x.2.drop (k + 1):=List.drop_eq_getElem_cons hlt
   simp only [Option.bind_eq_bind,Option.bind_some,isRule_eq]
   rw [hd,List.all_cons]
   cases hp:okRule x.1 x.2[k] with
   | false=>simp
   | true =>
    rw [if_neg (by simp),w64_in (by omega)]
    exact (refSheet_l1 hl m (k + 1) (by omega) (by omega)).trans (by rw [Bool.true_and])
  ·rw [if_neg (by simpa using hlt),List.drop_of_length_le (by omega)]
   rfl
theorem refSheet_eq {F:Nat} (hF:100<F) (x:Int×List (Int×Int×Int)):ref01_CheckSheet F x=some (csheet x):=by
 unfold ref01_CheckSheet csheet
 by_cases h1:60<x.2.length
 ·rw [if_pos (by simp; omega),if_pos h1]
 ·rw [if_neg (by simp; omega),if_neg h1]
  cases h2:inR 1 20 x.1 with
  | false =>
   rw [if_pos (by simp [inR] at h2 ⊢; omega)]
   rfl
  | true =>
   rw [if_neg (by simp [inR] at h2 ⊢; omega)]
   have:=refSheet_l1 (F:=F) (x:=x) (by omega) F 0 (Nat.zero_le _) (by omega)
   simp only [Int.natCast_zero,List.drop_zero] at this
   rw [this]
   cases x.2.all (okRule x.1) <;> rfl
theorem csheet_ok {x:Int×List (Int×Int×Int)} (h:csheet x=0):x.2.length≤60∧1≤x.1∧x.1≤20∧∀ r∈x.2,okRule x.1 r=true:=by
 unfold csheet at h
 split at h
 ·cases h
 ·rename_i h1
  split at h
  ·rename_i h2
   split at h
   ·rename_i h3
    simp only [inR,Bool.and_eq_true,decide_eq_true_eq] at h2
    exact ⟨by omega,h2.1,h2.2,List.all_eq_true.1 h3⟩
   ·cases h
  ·cases h
def turnR (n:Nat):List (Int×Int×Int):=(List.range n).flatMap fun (t:Nat)=>[(0,(t:Int) + 1,100000),((t:Int) + 1,0,0)]
theorem turnR_succ (n:Nat):turnR (n + 1)=turnR n++[(0,(n:Int) + 1,100000),((n:Int) + 1,0,0)]:=by simp [turnR,List.range_succ]
theorem turnR_len (n:Nat):(turnR n).length=2 * n:=by
 induction n with
 | zero=>rfl
 | succ n ih=>rw [turnR_succ,List.length_append,ih]; simp; omega
def whole (x:Int×List (Int×Int×Int)):List (Int×Int×Int):=x.2++turnR x.1.toNat
theorem app_some {α:Type} {b:Nat} {l k:List α} (h:(l.length + k.length) * b≤140737488355328):app b l k=some (l++k):=by
 unfold app
 rw [if_pos h]
theorem newNet_l1 {F:Nat} {x:Int×List (Int×Int×Int)} {N:Nat} (hN:x.1=N) (h20:N≤20) (hl:x.2.length≤60) (y:(Int×List (Int×Int×Int))×List (Int×Int×Int)):∀ (m k:Nat),k≤N→N - k<m →
  speed_newNet_l1 F x m (k:Int) ((x.1,x.2),x.2++turnR k)=some ((x.1,x.2),x.2++turnR N)
 | 0,k,_,h=>by omega
 | m + 1,k,hk,h=>by
  unfold speed_newNet_l1
  by_cases hlt:k<N
  ·rw [if_pos (by simp; omega)]
   have hlen:=turnR_len k
   rw [app_some (by simp only [List.length_append,List.length_cons,List.length_nil,hlen]; omega)]
   simp only [Option.bind_eq_bind,Option.bind_some]
   rw [w64_in (by omega),List.append_assoc,← turnR_succ]
   exact newNet_l1 hN h20 hl y m (k + 1) (by omega) (by omega)
  ·have:k=N:=by omega
   subst this
   rw [if_neg (by simp; omega)]
theorem newNet_eq {F:Nat} (hF:100<F) {x:Int×List (Int×Int×Int)} (h0:0≤x.1) (h20:x.1≤20) (hl:x.2.length≤60):speed_newNet F x=some ⟨some ((x.1,x.2),whole x)⟩:=by
 unfold speed_newNet slices_Clone_rules
 rw [app_some (by simp; omega)]
 simp only [Option.bind_eq_bind,Option.bind_some,List.nil_append]
 have:=newNet_l1 (F:=F) (x:=x) (N:=x.1.toNat) (by omega) (by omega) hl ((x.1,x.2),[]) F 0 (Nat.zero_le _) (by omega)
 simp only [Int.natCast_zero,turnR,List.range_zero,List.flatMap_nil,List.append_nil] at this
 rw [this]
 rfl
theorem all_l1 {F:Nat} {x:Int×List (Int×Int×Int)} {N:Nat} (hN:x.1=N) (h20:N≤20) (hl:x.2.length≤60):∀ (m k:Nat),k≤N→N - k<m →
  ref01_All_l1 F x m (x.2++turnR k) ((k:Int) + 1)=some (x.2++turnR N)
 | 0,k,_,h=>by omega
 | m + 1,k,hk,h=>by
  unfold ref01_All_l1
  by_cases hlt:k<N
  ·rw [if_pos (by simp; omega)]
   have hlen:=turnR_len k
   rw [app_some (by simp only [List.length_append,List.length_cons,List.length_nil,hlen]; omega)]
   simp only [Option.bind_eq_bind,Option.bind_some]
   rw [w64_in (by omega),List.append_assoc,← turnR_succ]
   exact all_l1 hN h20 hl m (k + 1) (by omega) (by omega)
  ·have:k=N:=by omega
   subst this
   rw [if_neg (by simp; omega)]
theorem all_eq {F:Nat} (hF:100<F) {x:Int×List (Int×Int×Int)} (h0:0≤x.1) (h20:x.1≤20) (hl:x.2.length≤60):ref01_All F x=some (whole x):=by
 unfold ref01_All
 rw [app_some (by simp; omega)]
 simp only [Option.bind_eq_bind,Option.bind_some,List.nil_append]
 have:=all_l1 (F:=F) (x:=x) (N:=x.1.toNat) (by omega) (by omega) hl F 0 (Nat.zero_le _) (by omega)
 simp only [Int.natCast_zero,turnR,List.range_zero,List.flatMap_nil,List.append_nil,Int.zero_add] at this
 rw [this]
 rfl
theorem whole_len {x:Int×List (Int×Int×Int)} (h:csheet x=0):(whole x).length≤100:=by
 obtain ⟨h1,h2,h3,_⟩:=csheet_ok h
 simp only [whole,List.length_append,turnR_len]
 omega
def ofS (s:List Int) (t:Int):Int:=if t=0 then 0 else (ix s (t - 1)).getD 0
theorem of_eq {s:List Int} {t:Int} (h0:0≤t) (h1:t≤s.length) (hl:s.length≤20):ref01_Of s t=some (ofS s t):=by
 unfold ref01_Of ofS
 by_cases h:t=0
 ·rw [if_pos (by simpa using h),if_pos h]
 ·rw [if_neg (by simpa using h),if_neg h,w64_in (by omega)]
  have:(t - 1)=((t - 1).toNat:Int):=by omega
  rw [this,ix_nat (by omega)]
  rfl
theorem arr_eq {s:List Int} {t:Int} (h0:0≤t) (h1:t≤s.length) (hl:s.length≤20):ix (acopy (aset (Ar.fill 21 0:Ar 21 Int) 0 0) 1 s).l t=some (ofS s t):=by
 have hs:((aset (Ar.fill 21 0:Ar 21 Int) 0 0)).l=List.replicate 21 0:=by decide
 have hl':(acopy (aset (Ar.fill 21 0:Ar 21 Int) 0 0) 1 s).l=[0]++s++List.replicate (20 - s.length) 0:=by
  unfold acopy
  simp only [hs]
  rw [List.take_of_length_le (show s.length≤21 - 1 by omega)]
  simp only [List.drop_replicate]
  congr 2
  omega
 rw [hl']
 unfold ofS
 by_cases h:t=0
 ·subst h; rfl
 ·rw [if_neg h]
  have e:t=((t - 1).toNat + 1:Nat):=by omega
  have e2:t - 1=((t - 1).toNat:Int):=by omega
  generalize hk:(t - 1).toNat=k at e e2
  have hks:k<s.length:=by omega
  rw [e2,ix_nat hks,e]
  unfold ix
  rw [if_pos (by omega)]
  simp only [Int.toNat_natCast,List.singleton_append,List.cons_append,List.nil_append,List.getElem?_cons_succ,Option.getD_some]
  rw [List.getElem?_append_left hks,List.getElem?_eq_getElem hks]
def keepsS (s:List Int) (r:Int×Int×Int):Bool:=decide (ofS s r.2.1≤w64 (ofS s r.1 + r.2.2))
def cspeeds (x:Int×List (Int×Int×Int)) (s:List Int):Int :=
 if csheet x≠0 then csheet x else if (s.length:Int)≠x.1 then 15 else if s.all (inR 0 100000)=true then (if x.2.all (keepsS s)=true then 0 else 17) else 3
theorem speeds_l1 {F:Nat} {x:Int×List (Int×Int×Int)} {s:List Int} (hx:csheet x=0) (hs:(s.length:Int)=x.1):∀ (m k:Nat),k≤x.2.length→x.2.length - k<m →
  speed_CheckSpeeds_l1 F x s m (k:Int)=some (if (x.2.drop k).all (keepsS s)=true then .inr () else .inl 17)
 | 0,k,_,h=>by omega
 | m + 1,k,hk,h=>by
  obtain ⟨h1,h2,h3,h4⟩:=csheet_ok hx
  unfold speed_CheckSpeeds_l1
  by_cases hlt:k<x.2.length
  ·rw [if_pos (by simpa using hlt),ix_nat hlt]
   have hd:x.2.drop k=x.2[k]::x.2.drop (k + 1):=List.drop_eq_getElem_cons hlt
   have hr:=h4 _ (List.getElem_mem hlt)
   simp only [okRule,inR,Bool.and_eq_true,decide_eq_true_eq] at hr
   obtain ⟨⟨⟨⟨r1,r2⟩,r3,r4⟩,_⟩,_⟩:=hr
   simp only [Option.bind_eq_bind,Option.bind_some,speed_list_keeps]
   rw [arr_eq r3 (by omega) (by omega),arr_eq r1 (by omega) (by omega)]
   simp only [Option.bind_some]
   rw [hd,List.all_cons]
   show (if (!keepsS s x.2[k])=true then _ else _)=_
   cases hp:keepsS s x.2[k] with
   | false=>simp
   | true =>
    rw [if_neg (by simp),w64_in (by omega)]
    exact (speeds_l1 hx hs m (k + 1) (by omega) (by omega)).trans (by rw [Bool.true_and])
  ·rw [if_neg (by simpa using hlt),List.drop_of_length_le (by omega)]
   rfl
theorem refSpeeds_l1 {F:Nat} {s:List Int} (hl:s.length≤40):∀ (m k:Nat),k≤s.length→s.length - k<m →
  ref01_CheckSpeeds_l1 F s m (k:Int)=some (if (s.drop k).all (inR 0 100000)=true then .inr () else .inl 3)
 | 0,k,_,h=>by omega
 | m + 1,k,hk,h=>by
  unfold ref01_CheckSpeeds_l1
  by_cases hlt:k<s.length
  ·rw [if_pos (by simpa using hlt),ix_nat hlt]
   have hd:s.drop k=s[k]::s.drop (k + 1):=List.drop_eq_getElem_cons hlt
   simp only [Option.bind_eq_bind,Option.bind_some]
   rw [hd,List.all_cons]
   have ih:=refSpeeds_l1 (F:=F) hl m (k + 1) (by omega) (by omega)
   by_cases a1:s[k]<0
   ·simp only [a1,decide_true,if_true,Option.bind_some]
    rw [if_neg]
    simp only [inR,Bool.and_eq_true,decide_eq_true_eq,not_and]
    omega
   ·simp only [a1,decide_false,Bool.false_eq_true,if_false,Option.bind_some]
    by_cases a2:100000<s[k]
    ·simp only [a2,decide_true,if_true]
     rw [if_neg]
     simp only [inR,Bool.and_eq_true,decide_eq_true_eq,not_and]
     omega
    ·simp only [a2,decide_false,Bool.false_eq_true,if_false]
     rw [w64_in (by omega)]
     have:inR 0 100000 s[k]=true:=by simp [inR]; omega
     rw [this,Bool.true_and]
     exact ih
  ·rw [if_neg (by simpa using hlt),List.drop_of_length_le (by omega)]
   rfl
theorem refSpeeds_l2 {F:Nat} {x:Int×List (Int×Int×Int)} {s:List Int} (hx:csheet x=0) (hs:(s.length:Int)=x.1):∀ (m k:Nat),k≤x.2.length→x.2.length - k<m →
  ref01_CheckSpeeds_l2 F x s m (k:Int)=some (if (x.2.drop k).all (keepsS s)=true then .inr () else .inl 17)
 | 0,k,_,h=>by omega
 | m + 1,k,hk,h=>by
  obtain ⟨h1,h2,h3,h4⟩:=csheet_ok hx
  unfold ref01_CheckSpeeds_l2
  by_cases hlt:k<x.2.length
  ·rw [if_pos (by simpa using hlt),ix_nat hlt]
   have hd:x.2.drop k=x.2[k]::x.2.drop (k + 1):=List.drop_eq_getElem_cons hlt
   have hr:=h4 _ (List.getElem_mem hlt)
   simp only [okRule,inR,Bool.and_eq_true,decide_eq_true_eq] at hr
   obtain ⟨⟨⟨⟨r1,r2⟩,r3,r4⟩,_⟩,_⟩:=hr
   simp only [Option.bind_eq_bind,Option.bind_some]
   rw [of_eq r3 (by omega) (by omega),of_eq r1 (by omega) (by omega)]
   simp only [Option.bind_some]
   rw [hd,List.all_cons]
   have e:decide (w64 (ofS s x.2[k].1 + x.2[k].2.2)<ofS s x.2[k].2.1)=!keepsS s x.2[k]:=by
    unfold keepsS
    by_cases h:ofS s x.2[k].2.1≤w64 (ofS s x.2[k].1 + x.2[k].2.2) <;> simp [h] <;> omega
   rw [e]
   cases hp:keepsS s x.2[k] with
   | false=>simp
   | true =>
    rw [if_neg (by simp),w64_in (by omega)]
    exact (refSpeeds_l2 hx hs m (k + 1) (by omega) (by omega)).trans (by rw [Bool.true_and])
  ·rw [if_neg (by simpa using hlt),List.drop_of_length_le (by omega)]
   rfl
theorem cs1 {x:Int×List (Int×Int×Int)} {s:List Int} (h:csheet x≠0):cspeeds x s=csheet x:=by unfold cspeeds; rw [if_pos h]
theorem cs2 {x:Int×List (Int×Int×Int)} {s:List Int} (h:csheet x=0) (h5:(s.length:Int)≠x.1):cspeeds x s=15:=by unfold cspeeds; rw [if_neg (fun e=>e h),if_pos h5]
theorem cs3 {x:Int×List (Int×Int×Int)} {s:List Int} (h:csheet x=0) (h5:(s.length:Int)=x.1):cspeeds x s=if s.all (inR 0 100000)=true then (if x.2.all (keepsS s)=true then 0 else 17) else 3:=by unfold cspeeds; rw [if_neg (fun e=>e h),if_neg (fun e=>e h5)]
theorem speeds_eq {F:Nat} (hF:200<F) (x:Int×List (Int×Int×Int)) (s:List Int):speed_CheckSpeeds F x s=some (cspeeds x s):=by
 unfold speed_CheckSpeeds
 simp only [checkSheet_eq (show 100<F by omega),Option.bind_eq_bind,Option.bind_some]
 by_cases h:csheet x=0
 ·obtain ⟨h1,h2,h3,_⟩:=csheet_ok h
  rw [if_neg (by simp [h])]
  by_cases h5:(s.length:Int)=x.1
  ·rw [if_neg (by simp [h5]),within_eq (by omega) (by omega),cs3 h h5]
   simp only [Option.bind_some]
   cases h6:s.all (inR 0 100000) with
   | false=>rfl
   | true =>
    have:=speeds_l1 (F:=F) h h5 F 0 (Nat.zero_le _) (by omega)
    simp only [Int.natCast_zero,List.drop_zero] at this
    rw [this]
    cases x.2.all (keepsS s) <;> rfl
  ·rw [if_pos (by simp [h5]),cs2 h h5]
 ·rw [if_pos (by simp [h]),cs1 h]
theorem refSpeeds_eq {F:Nat} (hF:200<F) (x:Int×List (Int×Int×Int)) (s:List Int):ref01_CheckSpeeds F x s=some (cspeeds x s):=by
 unfold ref01_CheckSpeeds
 simp only [refSheet_eq (show 100<F by omega),Option.bind_eq_bind,Option.bind_some]
 by_cases h:csheet x=0
 ·obtain ⟨h1,h2,h3,_⟩:=csheet_ok h
  rw [if_neg (by simp [h])]
  by_cases h5:(s.length:Int)=x.1
  ·rw [if_neg (by simp [h5]),cs3 h h5]
   have t1:=refSpeeds_l1 (F:=F) (s:=s) (by omega) F 0 (Nat.zero_le _) (by omega)
   have t2:=refSpeeds_l2 (F:=F) h h5 F 0 (Nat.zero_le _) (by omega)
   simp only [Int.natCast_zero,List.drop_zero] at t1 t2
   rw [t1]
   cases h6:s.all (inR 0 100000) with
   | false=>rfl
   | true =>
    simp only [if_true,Option.bind_some]
    rw [t2]
    cases x.2.all (keepsS s) <;> rfl
  ·rw [if_pos (by simp [h5]),cs2 h h5]
 ·rw [if_pos (by simp [h]),cs1 h]
end Go.Proofs.YtfmelbioccbdoaaGreat
end
section
namespace Go.Proofs.YtfmelbioccbdoaaGreat
open Go Go.Md Go.RowKit
namespace Wo
theorem w64_nat {k:Nat} (h:k<4611686018427387904):w64 ((k:Int) + 1)=((k + 1:Nat):Int):=by rw [w64_in (by omega)]; rfl
theorem rset_nat {α:Type} {l:List α} {k:Nat} {x:α}:rset l (k:Int) x=l.set k x:=by simp [rset]
def tl (f:Nat→Nat):List Int:=(List.range 101).map fun i=>(f i:Int)
theorem tl_len (f:Nat→Nat):(tl f).length=101:=by simp [tl]
theorem tl_get {f:Nat→Nat} {i:Nat} (h:i<101):(tl f)[i]?=some (f i:Int):=by simp [tl,h]
theorem tl_ix {f:Nat→Nat} {i:Nat} (h:i<101):ix (tl f) (i:Int)=some (f i:Int):=by
 rw [ix_nat (by rw [tl_len]; exact h)]
 simp [tl]
theorem tl_set {f:Nat→Nat} {i v:Nat} (h:i<101):rset (tl f) (i:Int) (v:Int)=tl fun j=>if j=i then v else f j:=by
 rw [rset_nat]
 apply List.ext_getElem?
 intro j
 by_cases hj:j<101
 ·rw [tl_get hj,List.getElem?_set]
  by_cases e:i=j
  ·subst e; rw [if_pos rfl,if_pos (by rw [tl_len]; exact h),if_pos rfl]
  ·rw [if_neg e,tl_get hj,if_neg (fun h=>e h.symm)]
 ·rw [List.getElem?_eq_none (by rw [List.length_set,tl_len]; omega),List.getElem?_eq_none (by rw [tl_len]; omega)]
theorem tl_cong {f g:Nat→Nat} (h:∀ i,i<101→f i=g i):tl f=tl g:=by
 unfold tl
 exact List.map_congr_left fun i hi=>by rw [h i (List.mem_range.1 hi)]
abbrev Bk:=Uno (List (Ar 2 Int))
def wd (x:Int):Bool:=decide (1≤x) && decide (x≤100)
def fs (p:Ar 2 Int):Int:=p.l.getD 0 0
def sn (p:Ar 2 Int):Int:=p.l.getD 1 0
theorem ix_fs (p:Ar 2 Int):ix p.l 0=some (fs p):=by
 have:=p.h
 rw [show (0:Int)=((0:Nat):Int) from rfl,ix_nat (by omega)]; simp [fs,List.getElem?_eq_getElem (show 0<p.l.length by omega)]
theorem ix_sn (p:Ar 2 Int):ix p.l 1=some (sn p):=by
 have:=p.h
 rw [show (1:Int)=((1:Nat):Int) from rfl,ix_nat (by omega)]; simp [sn,List.getElem?_eq_getElem (show 1<p.l.length by omega)]
structure VB (x:Bk):Prop where
 len:x.v.length≤40
 ws:∀ p∈x.v,wd (fs p)=true∧wd (sn p)=true
theorem wd_nat {x:Int} (h:wd x=true):∃ n:Nat,x=(n:Int)∧1≤n∧n<101:=by
 simp [wd] at h
 exact ⟨x.toNat,by omega,by omega,by omega⟩
def Ed (x:Bk) (i j:Nat):Prop:=∃ p∈x.v,fs p=(i:Int)∧sn p=(j:Int)
inductive Con (E:Nat→Nat→Prop):Nat→Nat→Prop
 | refl (i:Nat):Con E i i
 | step {i j k:Nat}:Con E i j→(E j k∨E k j)→Con E i k
theorem Con.trans {E:Nat→Nat→Prop} {i j k:Nat} (h:Con E i j) (g:Con E j k):Con E i k:=by
 induction g with
 | refl=>exact h
 | step _ e ih=>exact .step ih e
theorem Con.symm {E:Nat→Nat→Prop} {i j:Nat} (h:Con E i j):Con E j i:=by
 induction h with
 | refl=>exact .refl _
 | step _ e ih=>exact (Con.step (.refl _) e.symm).trans ih
theorem amap_tl {c:Cls} {f:Nat→Nat} (h:c.l=tl f) (a b:Nat):(amap (a:Int) (b:Int) c).l=tl fun i=>if f i=b then a else f i:=by
 show c.l.map _=_
 rw [h]
 unfold tl
 rw [List.map_map]
 refine List.map_congr_left fun i _=>?_
 simp only [Function.comp]
 by_cases e:f i=b
 ·rw [if_pos (by rw [e]),if_pos e]
 ·rw [if_neg (by omega),if_neg e]
theorem nd_eq {x:Bk} (hv:VB x):∀ (l:List (Ar 2 Int)) (c:Cls) (f:Nat→Nat),(∀ p∈l,p∈x.v)→c.l=tl f→(∀ i,i<101→f i<101)→(∀ i j,i<101→j<101→f i=f j→Con (Ed x) i j) →
  ∃ c' g,nd_l2 l c=some c'∧c'.l=tl g∧(∀ i j,i<101→j<101→g i=g j→Con (Ed x) i j)∧(∀ i j,f i=f j→g i=g j)∧∀ p∈l,∀ i j:Nat,fs p=(i:Int)→sn p=(j:Int)→g i=g j
 | [],c,f,_,hc,_,hI=>⟨c,f,rfl,hc,hI,fun _ _ h=>h,fun p hp=>by cases hp⟩
 | p::l,c,f,hl,hc,hb,hI=>by
  obtain ⟨h1,h2⟩:=hv.ws p (hl p (List.mem_cons_self ..))
  obtain ⟨i,hi,_,hi1⟩:=wd_nat h1
  obtain ⟨j,hj,_,hj1⟩:=wd_nat h2
  have key:∀ n:Nat,n<101→kok ((n:Nat):Int)=some ():=fun n h=>by unfold kok; rw [if_pos (kok_nat h)]
  have hE:Ed x i j:=⟨p,hl p (List.mem_cons_self ..),hi,hj⟩
  obtain ⟨c',g,e1,e2,e3,e4,e5⟩:=nd_eq hv l (if (f i:Int)=(f j:Int) then c else amap (f i:Int) (f j:Int) c) (fun n=>if f n=f j then f i else f n) (fun q hq=>hl q (List.mem_cons_of_mem _ hq)) (by
    by_cases e:f i=f j
    ·rw [if_pos (by rw [e]),hc]
     refine tl_cong fun n _=>?_
     by_cases e':f n=f j
     ·rw [if_pos e',e',e]
     ·rw [if_neg e']
    ·rw [if_neg (by omega),amap_tl hc])
   (fun n hn=>by
    by_cases e:f n=f j
    ·simp only [e,if_true]; exact hb i hi1
    ·simp only [if_neg e]; exact hb n hn)
   (fun a b ha hb' h=>by
    by_cases ea:f a=f j <;> by_cases eb:f b=f j
    ·exact hI a b ha hb' (ea.trans eb.symm)
    ·simp only [if_pos ea,if_neg eb] at h
     exact (Con.step (hI a j ha hj1 ea) (.inr hE)).trans (hI i b hi1 hb' h)
    ·simp only [if_neg ea,if_pos eb] at h
     exact (Con.step (hI a i ha hi1 h) (.inl hE)).trans (hI j b hj1 hb' eb.symm)
    ·simp only [if_neg ea,if_neg eb] at h
     exact hI a b ha hb' h)
  refine ⟨c',g,?_,e2,e3,fun a b h=>e4 a b (by simp only [h]),?_⟩
  ·unfold nd_l2
   rw [ix_fs,ix_sn,hi,hj]
   simp only [Option.bind_eq_bind,Option.bind_some]
   rw [hc,tl_ix hi1,tl_ix hj1]
   simp only [Option.bind_some]
   rw [key _ (hb i hi1),key _ (hb j hj1)]
   simp only [Option.bind_some]
   exact e1
  ·intro q hq a b ha hb'
   rcases List.mem_cons.1 hq with rfl | hq
   ·have:a=i:=by omega
    have:b=j:=by omega
    subst a b
    exact e4 i j (by by_cases e:f i=f j <;> simp [e])
   ·exact e5 q hq a b ha hb'
theorem cls0_tl:cls0.l=tl fun i=>i:=by rfl
theorem cls_eq {x:Bk} (hv:VB x):∃ c g,nd_l2 x.v cls0=some c∧c.l=tl g∧∀ i j,i<101→j<101→(g i=g j↔Con (Ed x) i j):=by
 obtain ⟨c,g,h1,h2,h3,h4,h5⟩:=nd_eq hv x.v cls0 (fun i=>i) (fun _ h=>h) cls0_tl (fun i h=>h) (fun i j _ _ h=>by subst h; exact .refl _)
 refine ⟨c,g,h1,h2,fun i j hi hj=>⟨h3 i j hi hj,fun h=>?_⟩⟩
 clear hi hj
 induction h with
 | refl=>rfl
 | step _ e ih =>
  rw [ih]
  rcases e with ⟨p,hp,e1,e2⟩ | ⟨p,hp,e1,e2⟩
  ·exact h5 p hp _ _ e1 e2
  ·exact (h5 p hp _ _ e1 e2).symm
theorem least_of {P:Nat→Prop}:∀ n,P n→∃ m,P m∧∀ k,P k→m≤k:=by
 intro n
 induction n using Nat.strongRecOn with
 | ind n ih =>
  intro h
  by_cases g:∃ k,k<n∧P k
  ·obtain ⟨k,h1,h2⟩:=g; exact ih k h1 h2
  ·exact ⟨n,h,fun k hk=>by
    by_cases e:n≤k
    ·exact e
    ·exact absurd ⟨k,by omega,hk⟩ g⟩
theorem low_ex (E:Nat→Nat→Prop):∃ low:Nat→Nat,(∀ i,Con E i (low i))∧(∀ i j,Con E i j→low i≤j)∧∀ i j,Con E i j→low i=low j:=by
 have h:∀ i,∃ m,Con E i m∧∀ k,Con E i k→m≤k:=fun i=>least_of i (.refl i)
 refine ⟨fun i=>Classical.choose (h i),fun i=>(Classical.choose_spec (h i)).1,fun i j=>(Classical.choose_spec (h i)).2 j,fun i j hij=>?_⟩
 have a:=Classical.choose_spec (h i)
 have b:=Classical.choose_spec (h j)
 exact Nat.le_antisymm (a.2 _ (hij.trans b.1)) (b.2 _ (hij.symm.trans a.1))
def lo2 (f:Nat→Nat) (a b:Nat):Nat:=if f b<f a then f b else f a
def put2 (f:Nat→Nat) (a b:Nat):Nat→Nat:=fun n=>if n=b then lo2 f a b else if n=a then lo2 f a b else f n
def rnd:List (Ar 2 Int)→(Nat→Nat)→(Nat→Nat)
 | [],f=>f
 | p::l,f=>rnd l (put2 f (fs p).toNat (sn p).toNat)
def rnds (l:List (Ar 2 Int)):Nat→(Nat→Nat)→(Nat→Nat)
 | 0,f=>f
 | n + 1,f=>rnds l n (rnd l f)
theorem lo2_c (f:Nat→Nat) (a b:Nat):(lo2 f a b=f a∧f a≤f b)∨(lo2 f a b=f b∧f b≤f a):=by
 unfold lo2; split <;> omega
section
variable {x:Bk} {low:Nat→Nat}
def Lbl (x:Bk) (f:Nat→Nat):Prop:=∀ i,i<101→Con (Ed x) i (f i)
theorem ed_of (hv:VB x) {p:Ar 2 Int} (hp:p∈x.v):∃ i j:Nat,fs p=(i:Int)∧sn p=(j:Int)∧(fs p).toNat=i∧(sn p).toNat=j∧i<101∧j<101∧Ed x i j:=by
 obtain ⟨h1,h2⟩:=hv.ws p hp
 obtain ⟨i,hi,_,hi1⟩:=wd_nat h1
 obtain ⟨j,hj,_,hj1⟩:=wd_nat h2
 exact ⟨i,j,hi,hj,by omega,by omega,hi1,hj1,p,hp,hi,hj⟩
theorem put2_lbl {f:Nat→Nat} (h:Lbl x f) {i j:Nat} (hi:i<101) (hj:j<101) (hE:Ed x i j):Lbl x (put2 f i j):=by
 have hij:Con (Ed x) i j:=.step (.refl _) (.inl hE)
 intro n hn
 unfold put2
 rcases lo2_c f i j with ⟨e,_⟩ | ⟨e,_⟩ <;> rw [e]
 ·by_cases e1:n=j
  ·rw [if_pos e1]; subst e1; exact hij.symm.trans (h i hi)
  ·rw [if_neg e1]
   by_cases e2:n=i
   ·rw [if_pos e2]; subst e2; exact h _ hi
   ·rw [if_neg e2]; exact h n hn
 ·by_cases e1:n=j
  ·rw [if_pos e1]; subst e1; exact h _ hj
  ·rw [if_neg e1]
   by_cases e2:n=i
   ·rw [if_pos e2]; subst e2; exact hij.trans (h j hj)
   ·rw [if_neg e2]; exact h n hn
theorem lo2_done (hl:∀ i j,Con (Ed x) i j→low i≤j) (he:∀ i j,Con (Ed x) i j→low i=low j) {f:Nat→Nat} (h:Lbl x f) {i j:Nat} (hi:i<101) (hj:j<101) (hE:Ed x i j) (hd:f i=low i∨f j=low j):lo2 f i j=low i∧lo2 f i j=low j:=by
 have hij:Con (Ed x) i j:=.step (.refl _) (.inl hE)
 have a:=hl i (f i) (h i hi)
 have b:=hl j (f j) (h j hj)
 have c:=he i j hij
 rcases lo2_c f i j with ⟨e,_⟩ | ⟨e,_⟩ <;> omega
theorem rnd_ok (hv:VB x) (hl:∀ i j,Con (Ed x) i j→low i≤j) (he:∀ i j,Con (Ed x) i j→low i=low j):∀ (l:List (Ar 2 Int)) (f:Nat→Nat),(∀ p∈l,p∈x.v)→Lbl x f →
  Lbl x (rnd l f)∧(∀ i,i<101→f i=low i→rnd l f i=low i)∧∀ p∈l,∀ i j:Nat,fs p=(i:Int)→sn p=(j:Int)→(f i=low i∨f j=low j)→rnd l f i=low i∧rnd l f j=low j
 | [],f,_,h=>⟨h,fun _ _ h=>h,fun p hp=>by cases hp⟩
 | p::l,f,hm,h=>by
  obtain ⟨i,j,e1,e2,e3,e4,hi,hj,hE⟩:=ed_of hv (hm p (List.mem_cons_self ..))
  have h':=put2_lbl h hi hj hE
  have keep:∀ n,n<101→f n=low n→put2 f i j n=low n:=fun n hn e=>by
   unfold put2
   by_cases c1:n=j
   ·rw [if_pos c1]; subst c1; exact (lo2_done hl he h hi hj hE (.inr e)).2
   ·rw [if_neg c1]
    by_cases c2:n=i
    ·rw [if_pos c2]; subst c2; exact (lo2_done hl he h hi hj hE (.inl e)).1
    ·rw [if_neg c2]; exact e
  obtain ⟨g1,g2,g3⟩:=rnd_ok hv hl he l (put2 f i j) (fun q hq=>hm q (List.mem_cons_of_mem _ hq)) h'
  have er:rnd (p::l) f=rnd l (put2 f i j):=by unfold rnd; rw [e3,e4]; cases l <;> rfl
  rw [er]
  refine ⟨g1,fun n hn e=>g2 n hn (keep n hn e),fun q hq a b ha hb hd=>?_⟩
  rcases List.mem_cons.1 hq with rfl | hq
  ·have:a=i:=by omega
   have:b=j:=by omega
   subst a b
   have d:=lo2_done hl he h hi hj hE hd
   refine ⟨g2 i hi ?_,g2 j hj ?_⟩
   ·unfold put2
    by_cases c1:i=j
    ·rw [if_pos c1]; exact d.1
    ·rw [if_neg c1,if_pos rfl]; exact d.1
   ·unfold put2; rw [if_pos rfl]; exact d.2
  ·obtain ⟨i',j',f1,f2,_,_,hi',hj',_⟩:=ed_of hv (hm q (List.mem_cons_of_mem _ hq))
   have:a=i':=by omega
   have:b=j':=by omega
   subst a b
   exact g3 q hq _ _ f1 f2 (hd.imp (keep _ hi') (keep _ hj'))
def nd (x:Bk) (low f:Nat→Nat):List (Ar 2 Int):=x.v.filter fun p=>!(decide (f (fs p).toNat=low (fs p).toNat) && decide (f (sn p).toNat=low (sn p).toNat))
theorem filter_lt {α:Type} {l:List α} {p q:α→Bool} (h:∀ a∈l,q a=true→p a=true) {b:α} (hb:b∈l) (h1:p b=true) (h2:q b=false):(l.filter q).length<(l.filter p).length:=by
 induction l with
 | nil=>cases hb
 | cons a l ih =>
  have hle:∀ (l:List α),(∀ a∈l,q a=true→p a=true)→(l.filter q).length≤(l.filter p).length:=by
   intro l
   induction l with
   | nil=>intro _; exact Nat.le_refl _
   | cons a l ih =>
    intro h
    have:=ih fun c hc=>h c (List.mem_cons_of_mem _ hc)
    have h':=h a (List.mem_cons_self ..)
    cases hq:q a <;> cases hp:p a <;> simp_all
    omega
  rcases List.mem_cons.1 hb with rfl | hb
  ·have:=hle l fun c hc=>h c (List.mem_cons_of_mem _ hc)
   simp [h1,h2]; omega
  ·have:=ih (fun c hc=>h c (List.mem_cons_of_mem _ hc)) hb
   have h':=h a (List.mem_cons_self ..)
   cases hq:q a <;> cases hp:p a <;> simp_all
   omega
def Done (low f:Nat→Nat):Prop:=∀ i,i<101→f i=low i
theorem con_lt (hv:VB x) {i j:Nat} (h:Con (Ed x) i j) (hi:i<101):j<101:=by
 cases h with
 | refl=>exact hi
 | step _ e =>
  rcases e with ⟨p,hp,e1,e2⟩ | ⟨p,hp,e1,e2⟩ <;> obtain ⟨a,b,f1,f2,_,_,h1,h2,_⟩:=ed_of hv hp <;> omega
theorem done_of (hv:VB x) (hc:∀ i,Con (Ed x) i (low i)) (hl:∀ i j,Con (Ed x) i j→low i≤j) (he:∀ i j,Con (Ed x) i j→low i=low j) {f:Nat→Nat} (h:Lbl x f)
  (hf:∀ i,i<101→f i≤i)
  (hs:∀ p∈x.v,∀ i j:Nat,fs p=(i:Int)→sn p=(j:Int)→(f i=low i∨f j=low j)→f i=low i∧f j=low j):Done low f:=by
 intro i hi
 have hb:low i<101:=con_lt hv (hc i) hi
 have h0:f (low i)=low (low i):=by
  have a:=hf _ hb
  have b:=hl (low i) _ (h _ hb)
  have c:=he i _ (hc i)
  omega
 have key:∀ j,Con (Ed x) (low i) j→f j=low j:=by
  intro j hj
  induction hj with
  | refl=>exact h0
  | step _ e ih =>
   rcases e with ⟨p,hp,e1,e2⟩ | ⟨p,hp,e1,e2⟩
   ·exact (hs p hp _ _ e1 e2 (.inl ih)).2
   ·exact (hs p hp _ _ e1 e2 (.inr ih)).1
 exact key i (hc i).symm
theorem put2_le {f:Nat→Nat} (i j:Nat):∀ n,put2 f i j n≤f n:=by
 intro n
 unfold put2
 rcases lo2_c f i j with ⟨e,_⟩ | ⟨e,_⟩ <;> rw [e] <;> split <;> (try split) <;> subst_vars <;> omega
theorem rnd_le:∀ (l:List (Ar 2 Int)) (f:Nat→Nat) (n:Nat),rnd l f n≤f n
 | [],f,n=>Nat.le_refl _
 | p::l,f,n=>by
  have:=rnd_le l (put2 f (fs p).toNat (sn p).toNat) n
  have:=put2_le (f:=f) (fs p).toNat (sn p).toNat n
  have e:rnd (p::l) f=rnd l (put2 f (fs p).toNat (sn p).toNat):=by unfold rnd; cases l <;> rfl
  rw [e]; omega
theorem rnds_done (hv:VB x) (hc:∀ i,Con (Ed x) i (low i)) (hl:∀ i j,Con (Ed x) i j→low i≤j) (he:∀ i j,Con (Ed x) i j→low i=low j):∀ (n:Nat) (f:Nat→Nat),Lbl x f→(∀ i,i<101→f i≤i)→(nd x low f).length≤n→Done low (rnds x.v n f)
 | 0,f,h,hf,hn=>by
  show Done low f
  refine done_of hv hc hl he h hf fun p hp i j e1 e2 _=>?_
  have h0:nd x low f=[]:=List.eq_nil_of_length_eq_zero (by omega)
  have:=List.filter_eq_nil_iff.1 h0 p hp
  rw [e1,e2] at this
  simpa using this
 | n + 1,f,h,hf,hn=>by
  show Done low (rnds x.v n (rnd x.v f))
  obtain ⟨g1,g2,g3⟩:=rnd_ok hv hl he x.v f (fun _ h=>h) h
  have hf':∀ i,i<101→rnd x.v f i≤i:=fun i hi=>Nat.le_trans (rnd_le _ _ _) (hf i hi)
  by_cases hs:∀ p∈x.v,∀ i j:Nat,fs p=(i:Int)→sn p=(j:Int)→(f i=low i∨f j=low j)→f i=low i∧f j=low j
  ·have hd:=done_of hv hc hl he h hf hs
   have hz:nd x low (rnd x.v f)=[]:=by
    refine List.filter_eq_nil_iff.2 fun p hp=>?_
    obtain ⟨i,j,e1,e2,e3,e4,hi,hj,_⟩:=ed_of hv hp
    rw [e3,e4,g2 i hi (hd i hi),g2 j hj (hd j hj)]
    simp
   exact rnds_done hv hc hl he n _ g1 hf' (by rw [hz]; simp)
  ·refine rnds_done hv hc hl he n _ g1 hf' ?_
   have:∃ p∈x.v,∃ i j:Nat,fs p=(i:Int)∧sn p=(j:Int)∧(f i=low i∨f j=low j)∧¬ (f i=low i∧f j=low j):=by
    refine Classical.byContradiction fun hno=>hs fun p hp i j e1 e2 e3=>Classical.byContradiction fun e4=>hno ⟨p,hp,i,j,e1,e2,e3,e4⟩
   obtain ⟨p,hp,i,j,e1,e2,e3,e4⟩:=this
   have:=filter_lt (l:=x.v) (p:=fun p=>!(decide (f (fs p).toNat=low (fs p).toNat) && decide (f (sn p).toNat=low (sn p).toNat))) (q:=fun p=>!(decide (rnd x.v f (fs p).toNat=low (fs p).toNat) && decide (rnd x.v f (sn p).toNat=low (sn p).toNat)))
    (fun q hq hh=>by
     obtain ⟨a,b,f1,f2,f3,f4,ha,hb,_⟩:=ed_of hv hq
     rw [f3,f4] at hh ⊢
     by_cases d:f a=low a∧f b=low b
     ·rw [g2 a ha d.1,g2 b hb d.2] at hh; simp at hh
     ·simp only [Bool.not_eq_true',Bool.and_eq_false_iff,decide_eq_false_iff_not]
      by_cases d1:f a=low a
      ·exact .inr fun d2=>d ⟨d1,d2⟩
      ·exact .inl d1) hp (by
     rw [e1,e2]
     simp only [Int.toNat_natCast,Bool.not_eq_true',Bool.and_eq_false_iff,decide_eq_false_iff_not]
     by_cases d1:f i=low i
     ·exact .inr fun d2=>e4 ⟨d1,d2⟩
     ·exact .inl d1) (by
     have:=g3 p hp i j e1 e2 e3
     rw [e1,e2]
     simp [this.1,this.2])
   show (x.v.filter _).length≤n
   have hn':(x.v.filter _).length≤n + 1:=hn
   omega
end
theorem cl1 {F:Nat}:∀ (m k:Nat),k≤101→101 - k<m→ref04_Classes_l1 F m ((List.range k).map fun i=>((i:Nat):Int)) (k:Int)=some (tl fun i=>i)
 | 0,k,_,h=>by omega
 | m + 1,k,hk,h=>by
  unfold ref04_Classes_l1
  by_cases hlt:k<101
  ·rw [if_pos (by simp; omega),app_some (by simp; omega)]
   simp only [Option.bind_eq_bind,Option.bind_some]
   rw [w64_nat (by omega),← cl1 (F:=F) m (k + 1) (by omega) (by omega)]
   simp [List.range_succ]
  ·rw [if_neg (by simp; omega),show k=101 by omega]; rfl
theorem cl3 {F:Nat} {x:Bk} (hv:VB x):∀ (m k:Nat) (f:Nat→Nat),k≤x.v.length→x.v.length - k<m→ref04_Classes_l3 F x m (tl f) (k:Int)=some (tl (rnd (x.v.drop k) f))
 | 0,k,_,_,h=>by omega
 | m + 1,k,f,hk,h=>by
  have hlen:=hv.len
  unfold ref04_Classes_l3
  by_cases hlt:k<x.v.length
  ·obtain ⟨i,j,e1,e2,e3,e4,hi,hj,_⟩:=ed_of hv (List.getElem_mem hlt)
   rw [if_pos (by simpa using hlt),ix_nat hlt]
   simp only [Option.bind_eq_bind,Option.bind_some]
   rw [ix_fs,ix_sn,e1,e2]
   simp only [Option.bind_some]
   rw [tl_ix hi,tl_ix hj]
   simp only [Option.bind_some]
   have el:(if (f j:Int)<(f i:Int) then (f j:Int) else (f i:Int))=((lo2 f i j:Nat):Int):=by
    unfold lo2; by_cases c:f j<f i
    ·rw [if_pos c,if_pos (by omega)]
    ·rw [if_neg c,if_neg (by omega)]
   rw [el,tl_set hi,tl_ix hj]
   simp only [Option.bind_some]
   rw [tl_set hj,w64_nat (by omega),List.drop_eq_getElem_cons hlt]
   have er:rnd (x.v[k]::x.v.drop (k + 1)) f=rnd (x.v.drop (k + 1)) (put2 f i j):=by unfold rnd; rw [e3,e4]; cases x.v.drop (k + 1) <;> rfl
   rw [er,← cl3 hv m (k + 1) (put2 f i j) (by omega) (by omega)]
   rfl
  ·rw [if_neg (by simpa using hlt),List.drop_of_length_le (by omega)]; rfl
theorem cl2 {F:Nat} (hF:1000<F) {x:Bk} (hv:VB x):∀ (m k:Nat) (f:Nat→Nat),k≤x.v.length→x.v.length - k<m→ref04_Classes_l2 F x m (tl f) (k:Int)=some (tl (rnds x.v (x.v.length - k) f))
 | 0,k,_,_,h=>by omega
 | m + 1,k,f,hk,h=>by
  have hlen:=hv.len
  unfold ref04_Classes_l2
  by_cases hlt:k<x.v.length
  ·rw [if_pos (by simpa using hlt)]
   have:=cl3 (F:=F) hv F 0 f (by omega) (by omega)
   rw [show ((0:Nat):Int)=0 from rfl,List.drop_zero] at this
   rw [this]
   simp only [Option.bind_eq_bind,Option.bind_some]
   rw [w64_nat (by omega),cl2 hF hv m (k + 1) _ (by omega) (by omega),show x.v.length - k=(x.v.length - (k + 1)) + 1 by omega]
   rfl
  ·rw [if_neg (by simpa using hlt),show x.v.length - k=0 by omega]; rfl
theorem rcls_eq {F:Nat} (hF:1000<F) {x:Bk} (hv:VB x):∃ g,ref04_Classes F x=some (tl g)∧∀ i j,i<101→j<101→(g i=g j↔Con (Ed x) i j):=by
 obtain ⟨low,hc,hl,he⟩:=low_ex (Ed x)
 have hlen:=hv.len
 refine ⟨rnds x.v x.v.length fun i=>i,?_,?_⟩
 ·unfold ref04_Classes
  have h1:=cl1 (F:=F) F 0 (by omega) (by omega)
  have h2:=cl2 hF hv F 0 (fun i=>i) (by omega) (by omega)
  rw [show ((0:Nat):Int)=0 from rfl] at h1 h2
  rw [show ref04_Classes_l1 F F [] 0=_ from h1]
  simp only [Option.bind_eq_bind,Option.bind_some]
  rw [h2]; rfl
 ·have hd:=rnds_done hv hc hl he x.v.length (fun i=>i) (fun i _=>.refl i) (fun i _=>Nat.le_refl i) (List.length_filter_le ..)
  intro i j hi hj
  rw [hd i hi,hd j hj]
  refine ⟨fun h=>?_,he i j⟩
  have:=hc j
  rw [← h] at this
  exact (hc i).trans this.symm
end Wo
end Go.Proofs.YtfmelbioccbdoaaGreat
end
section
namespace Go.Proofs.YtfmelbioccbdoaaGreat
open Go Go.Md Go.RowKit
namespace Wo
structure VL (l:List (List Int)):Prop where
 two:2≤l.length
 four:l.length≤4
 len:∀ r∈l,r.length≤8
 ws:∀ r∈l,∀ n∈r,wd n=true
theorem risw (n:Int):ref04_isWord n=some (wd n):=rfl
theorem isw {F:Nat} (hF:1000<F) {l:List Int} (hl:l.length≤100):word_isWord F l=some (l.all wd):=by
 unfold word_isWord
 rw [con_int (f:=fun y=>word_isWord_1 y) (p:=fun n=>decide (n<1) || decide (100<n)) (fun x _=>rfl) (by omega) (by omega)]
 simp only [Option.bind_eq_bind,Option.bind_some]
 exact congrArg some (any_inR l)
theorem rb1 {F:Nat} {x:Bk} (hl:x.v.length≤1000):∀ (m k:Nat),k≤x.v.length→x.v.length - k<m →
  ref04_CheckBook_l1 F x m (k:Int)=some (if ((x.v.drop k).all fun p=>wd (fs p) && wd (sn p))=true then .inr () else .inl 2)
 | 0,k,_,h=>by omega
 | m + 1,k,hk,h=>by
  unfold ref04_CheckBook_l1
  by_cases hlt:k<x.v.length
  ·rw [if_pos (by simpa using hlt),ix_nat hlt,List.drop_eq_getElem_cons hlt,List.all_cons]
   simp only [Option.bind_eq_bind,Option.bind_some]
   rw [ix_fs,ix_sn]
   simp only [Option.bind_some,risw]
   cases h1:wd (fs x.v[k]) with
   | false=>simp
   | true =>
    cases h2:wd (sn x.v[k]) with
    | false=>simp
    | true =>
     simp only [Bool.not_true,Bool.false_eq_true,if_false,Option.bind_some,Bool.true_and]
     rw [w64_nat (by omega),rb1 hl m (k + 1) (by omega) (by omega)]
  ·rw [if_neg (by simpa using hlt),List.drop_of_length_le (by omega)]; rfl
def cbk (x:Bk):Int:=if 40<x.v.length then 6 else if (x.v.all fun p=>wd (fs p) && wd (sn p))=true then 0 else 2
theorem cbk_ok {x:Bk}:cbk x=0↔VB x:=by
 unfold cbk
 by_cases h:40<x.v.length
 ·rw [if_pos h]; exact ⟨fun h=>by (cases h),fun g=>by (have:=g.len; omega)⟩
 ·rw [if_neg h]
  cases h1:x.v.all fun p=>wd (fs p) && wd (sn p) with
  | true =>
   refine ⟨fun _=>⟨by omega,fun p hp=>?_⟩,fun _=>rfl⟩
   have:=List.all_eq_true.1 h1 p hp
   simpa using this
  | false =>
   refine ⟨fun h=>by (cases h),fun g=>?_⟩
   have:(x.v.all fun p=>wd (fs p) && wd (sn p))=true:=List.all_eq_true.2 fun p hp=>by rw [(g.ws p hp).1,(g.ws p hp).2]; rfl
   rw [this] at h1; cases h1
theorem rbk_eq {F:Nat} (hF:1000<F) (x:Bk):ref04_CheckBook F x=some (cbk x):=by
 unfold ref04_CheckBook cbk
 by_cases h:40<x.v.length
 ·rw [if_pos h,if_pos (by simp; omega)]
 ·rw [if_neg h,if_neg (by simp; omega)]
  have:=rb1 (F:=F) (x:=x) (by omega) F 0 (by omega) (by omega)
  rw [show ((0:Nat):Int)=0 from rfl,List.drop_zero] at this
  rw [this]
  cases x.v.all fun p=>wd (fs p) && wd (sn p) <;> rfl
theorem wb1 {F:Nat} (hF:1000<F) {x:Bk} (hv:VB x):∀ (m k:Nat),k≤x.v.length→x.v.length - k<m→word_CheckBook_l1 F x m (k:Int)=some (.inr ())
 | 0,k,_,h=>by omega
 | m + 1,k,hk,h=>by
  have hlen:=hv.len
  unfold word_CheckBook_l1
  by_cases hlt:k<x.v.length
  ·obtain ⟨h1,h2⟩:=hv.ws _ (List.getElem_mem hlt)
   rw [if_pos (by simpa using hlt),ix_nat hlt]
   simp only [Option.bind_eq_bind,Option.bind_some]
   rw [ix_fs,ix_sn]
   simp only [Option.bind_some]
   rw [isw hF (by simp)]
   simp only [Option.bind_some,List.all_cons,h1,h2,List.all_nil,Bool.and_self,Bool.not_true,Bool.false_eq_true,if_false]
   rw [w64_nat (by omega),wb1 hF hv m (k + 1) (by omega) (by omega)]
  ·rw [if_neg (by simpa using hlt)]
theorem wbk_ok {F:Nat} (hF:1000<F) {x:Bk} (hv:VB x):word_CheckBook F x=some 0:=by
 have hlen:=hv.len
 unfold word_CheckBook
 rw [if_neg (by simp; omega)]
 have:=wb1 hF hv F 0 (by omega) (by omega)
 rw [show word_CheckBook_l1 F x F 0=_ from this]
 rfl
theorem idx_lines {l:List (List Int)} {f:List Int→Option Bool} (F:Nat):∀ m k,slices_IndexFunc__int_l1 F l f m k=idxL l f m k
 | 0,_=>rfl
 | m + 1,k=>by unfold slices_IndexFunc__int_l1 idxL; simp only [idx_lines F m]
theorem con_lines {l:List (List Int)} {f:List Int→Option Bool} (hf:∀ x∈l,f x=some false) {F:Nat} (hF:l.length<F) (hl:l.length<4611686018427387904):slices_ContainsFunc__int F l f=some false:=by
 obtain ⟨r,h1,_,h3⟩:=idxL_any (p:=fun _=>false) hf hl F 0 (by omega) (by omega)
 have e:r=.inr ():=h3 (by simp)
 subst e
 unfold slices_ContainsFunc__int slices_IndexFunc__int
 rw [idx_lines,show (0:Int)=((0:Nat):Int) from rfl,h1]
 rfl
theorem wcl_ok {F:Nat} (hF:1000<F) {x:Bk} (hv:VB x) {l:List (List Int)} (h:VL l):word_CheckLines F x l=some 0:=by
 have h2:=h.two; have h4:=h.four
 unfold word_CheckLines
 rw [show (⟨x.v⟩:Bk)=x from rfl,wbk_ok hF hv]
 simp only [Option.bind_eq_bind,Option.bind_some]
 rw [if_neg (by simp),if_neg (by simp only [Bool.or_eq_true,decide_eq_true_eq]; omega),con_lines (fun r hr=>by
  have:=h.len r hr
  unfold word_CheckLines_1
  rw [decide_eq_false (by omega)]) (by omega) (by omega)]
 simp only [Option.bind_some,Bool.false_eq_true,if_false]
 rw [con_lines (fun r hr=>by
  have:=h.len r hr
  unfold word_CheckLines_2
  rw [isw hF (by omega),List.all_eq_true.2 (h.ws r hr)]; rfl) (by omega) (by omega)]
 rfl
theorem rl1 {F:Nat} {l:List (List Int)} (hl:l.length≤1000):∀ (m k:Nat),k≤l.length→l.length - k<m →
  ref04_CheckLines_l1 F l m (k:Int)=some (if ((l.drop k).all fun r=>decide (r.length≤8))=true then .inr () else .inl 6)
 | 0,k,_,h=>by omega
 | m + 1,k,hk,h=>by
  unfold ref04_CheckLines_l1
  by_cases hlt:k<l.length
  ·rw [if_pos (by simpa using hlt),ix_nat hlt,List.drop_eq_getElem_cons hlt,List.all_cons]
   simp only [Option.bind_eq_bind,Option.bind_some]
   by_cases h8:8<l[k].length
   ·rw [if_pos (by simp; omega),decide_eq_false (by omega)]; rfl
   ·rw [if_neg (by simp; omega),decide_eq_true (by omega),w64_nat (by omega),rl1 hl m (k + 1) (by omega) (by omega),Bool.true_and]
  ·rw [if_neg (by simpa using hlt),List.drop_of_length_le (by omega)]; rfl
theorem rl3 {F:Nat} {l:List (List Int)} {y:Nat} (hy:y<l.length) (hl:l[y].length≤1000):∀ (m k:Nat),k≤l[y].length→l[y].length - k<m →
  ref04_CheckLines_l3 F l (y:Int) m (k:Int)=some (if (l[y].drop k).all wd=true then .inr () else .inl 2)
 | 0,k,_,h=>by omega
 | m + 1,k,hk,h=>by
  unfold ref04_CheckLines_l3
  rw [ix_nat hy]
  simp only [Option.bind_eq_bind,Option.bind_some]
  by_cases hlt:k<l[y].length
  ·rw [if_pos (by simpa using hlt),ix_nat hlt,List.drop_eq_getElem_cons hlt,List.all_cons]
   simp only [Option.bind_some,risw]
   cases h1:wd l[y][k] with
   | false=>rfl
   | true =>
    simp only [Bool.not_true,Bool.false_eq_true,if_false,Bool.true_and]
    rw [w64_nat (by omega),rl3 hy hl m (k + 1) (by omega) (by omega)]
  ·rw [if_neg (by simpa using hlt),List.drop_of_length_le (by omega)]; rfl
theorem rl2 {F:Nat} (hF:1000<F) {l:List (List Int)} (hl:l.length≤1000) (h8:∀ r∈l,r.length≤8):∀ (m k:Nat),k≤l.length→l.length - k<m →
  ref04_CheckLines_l2 F l m (k:Int)=some (if ((l.drop k).all fun r=>r.all wd)=true then .inr () else .inl 2)
 | 0,k,_,h=>by omega
 | m + 1,k,hk,h=>by
  unfold ref04_CheckLines_l2
  by_cases hlt:k<l.length
  ·have h8':=h8 _ (List.getElem_mem hlt)
   rw [if_pos (by simpa using hlt)]
   have:=rl3 (F:=F) hlt (by omega) F 0 (by omega) (by omega)
   rw [show ((0:Nat):Int)=0 from rfl,List.drop_zero] at this
   rw [this,List.drop_eq_getElem_cons hlt,List.all_cons]
   simp only [Option.bind_eq_bind,Option.bind_some]
   cases h1:l[k].all wd with
   | false=>rfl
   | true =>
    simp only [if_true,Bool.true_and]
    rw [w64_nat (by omega),rl2 hF hl h8 m (k + 1) (by omega) (by omega)]
  ·rw [if_neg (by simpa using hlt),List.drop_of_length_le (by omega)]; rfl
def cln (x:Bk) (l:List (List Int)):Int :=
 if cbk x≠0 then cbk x else if l.length<2∨4<l.length then 6 else if (l.all fun r=>decide (r.length≤8))=true then (if (l.all fun r=>r.all wd)=true then 0 else 2) else 6
theorem cln_ok {x:Bk} {l:List (List Int)}:cln x l=0↔VB x∧VL l:=by
 unfold cln
 by_cases h0:cbk x=0
 ·rw [if_neg (by simpa using h0)]
  by_cases h1:l.length<2∨4<l.length
  ·rw [if_pos h1]; exact ⟨fun h=>by (cases h),fun g=>by (have:=g.2.two; have:=g.2.four; omega)⟩
  ·rw [if_neg h1]
   cases h2:l.all fun r=>decide (r.length≤8) with
   | false =>
    rw [if_neg (by simp)]
    refine ⟨fun h=>by (cases h),fun g=>?_⟩
    have:(l.all fun r=>decide (r.length≤8))=true:=List.all_eq_true.2 fun r hr=>by simpa using g.2.len r hr
    rw [this] at h2; cases h2
   | true =>
    rw [if_pos rfl]
    cases h3:l.all fun r=>r.all wd with
    | false =>
     rw [if_neg (by simp)]
     refine ⟨fun h=>by (cases h),fun g=>?_⟩
     have:(l.all fun r=>r.all wd)=true:=List.all_eq_true.2 fun r hr=>List.all_eq_true.2 (g.2.ws r hr)
     rw [this] at h3; cases h3
    | true =>
     rw [if_pos rfl]
     refine ⟨fun _=>⟨cbk_ok.1 h0,by omega,by omega,fun r hr=>by simpa using List.all_eq_true.1 h2 r hr,fun r hr=>List.all_eq_true.1 (List.all_eq_true.1 h3 r hr)⟩,fun _=>rfl⟩
 ·rw [if_pos h0]; exact ⟨fun h=>absurd h h0,fun g=>absurd (cbk_ok.2 g.1) h0⟩
theorem rcl_eq {F:Nat} (hF:1000<F) (x:Bk) (l:List (List Int)):ref04_CheckLines F x l=some (cln x l):=by
 unfold ref04_CheckLines cln
 rw [show (⟨x.v⟩:Bk)=x from rfl,rbk_eq hF]
 simp only [Option.bind_eq_bind,Option.bind_some]
 by_cases h0:cbk x=0
 ·have e:(!decide (cbk x=0))=false:=by simp [h0]
  rw [e,if_neg (show ¬ cbk x≠0 from fun h=>h h0)]
  simp only [Bool.false_eq_true,if_false]
  by_cases h1:l.length<2∨4<l.length
  ·rw [if_pos h1,if_pos (by simp only [Bool.or_eq_true,decide_eq_true_eq]; omega)]
  ·rw [if_neg h1,if_neg (by simp only [Bool.or_eq_true,decide_eq_true_eq]; omega)]
   have:=rl1 (F:=F) (l:=l) (by omega) F 0 (by omega) (by omega)
   rw [show ((0:Nat):Int)=0 from rfl,List.drop_zero] at this
   rw [this]
   cases h2:l.all fun r=>decide (r.length≤8) with
   | false=>rfl
   | true =>
    simp only [if_true,Option.bind_some]
    have:=rl2 hF (l:=l) (by omega) (fun r hr=>by simpa using List.all_eq_true.1 h2 r hr) F 0 (by omega) (by omega)
    rw [show ((0:Nat):Int)=0 from rfl,List.drop_zero] at this
    rw [this]
    cases l.all fun r=>r.all wd <;> rfl
 ·rw [if_pos (by simpa using h0),if_pos h0]
theorem tl1 {F:Nat} {l:List (List Int)} (hl:l.length≤1000):∀ (m k:Nat),k≤l.length→l.length - k<m →
  top_lines05_l1 F l m (k:Int)=some (if ((l.drop k).all fun r=>decide (r.length≤20))=true then .inr () else .inl false)
 | 0,k,_,h=>by omega
 | m + 1,k,hk,h=>by
  unfold top_lines05_l1
  by_cases hlt:k<l.length
  ·rw [if_pos (by simpa using hlt),ix_nat hlt,List.drop_eq_getElem_cons hlt,List.all_cons]
   simp only [Option.bind_eq_bind,Option.bind_some]
   by_cases h8:20<l[k].length
   ·rw [if_pos (by simp; omega),decide_eq_false (by omega)]; rfl
   ·rw [if_neg (by simp; omega),decide_eq_true (by omega),w64_nat (by omega),tl1 hl m (k + 1) (by omega) (by omega),Bool.true_and]
  ·rw [if_neg (by simpa using hlt),List.drop_of_length_le (by omega)]; rfl
theorem lines_eq {F:Nat} (hF:1000<F) (x:Bk) (l:List (List Int)) {q:Int} (hq:q≤1000):∃ b,top_lines05 F x l q=some b∧(b=true→VB x∧VL l):=by
 unfold top_lines05
 by_cases h0:((decide (60<(x.v.length:Int))) || (decide (q<(l.length:Int))))=true
 ·rw [if_pos h0]; exact ⟨_,rfl,fun h=>by cases h⟩
 ·rw [if_neg h0]
  have h0':l.length≤1000:=by simp at h0; omega
  have:=tl1 (F:=F) (l:=l) (by omega) F 0 (by omega) (by omega)
  rw [show ((0:Nat):Int)=0 from rfl,List.drop_zero] at this
  rw [this]
  cases l.all fun r=>decide (r.length≤20) with
  | false=>exact ⟨_,rfl,fun h=>by cases h⟩
  | true =>
   simp only [if_true,Option.bind_eq_bind,Option.bind_some]
   rw [show (⟨x.v⟩:Bk)=x from rfl,rcl_eq hF]
   exact ⟨_,rfl,fun h=>cln_ok.1 (by simpa using h)⟩
end Wo
end Go.Proofs.YtfmelbioccbdoaaGreat
end
section
namespace Go.Proofs.YtfmelbioccbdoaaGreat
open Go Go.Md Go.RowKit
namespace Wo
abbrev Tp:=Nat→Nat
def upd (f:Tp) (j i:Nat):Tp:=fun n=>if n=j then i else f n
def ln (l:List (List Int)) (j:Nat):Nat:=(l.getD j []).length
def tupN (l:List (List Int)):Nat→List Tp
 | 0=>[fun _=>0]
 | j + 1=>(tupN l j).flatMap fun t=>(List.range (ln l j)).map (upd t j)
theorem tup_mem {l:List (List Int)}:∀ (j:Nat) (f:Tp),f∈tupN l j→(∀ i,i<j→f i<ln l i)∧∀ i,j≤i→f i=0
 | 0,f,h=>by
  rw [tupN,List.mem_singleton] at h; subst h
  exact ⟨fun i h=>by omega,fun _ _=>rfl⟩
 | j + 1,f,h=>by
  rw [tupN,List.mem_flatMap] at h
  obtain ⟨t,ht,h⟩:=h
  obtain ⟨i,hi,rfl⟩:=List.mem_map.1 h
  obtain ⟨a,b⟩:=tup_mem j t ht
  rw [List.mem_range] at hi
  refine ⟨fun n hn=>?_,fun n hn=>?_⟩
  ·unfold upd; by_cases e:n=j
   ·rw [if_pos e]; subst e; exact hi
   ·rw [if_neg e]; exact a n (by omega)
  ·unfold upd; rw [if_neg (by omega)]; exact b n (by omega)
theorem tup_nil {l:List (List Int)}:∀ (j i:Nat),i<j→ln l i=0→tupN l j=[]
 | 0,i,h,_=>by omega
 | j + 1,i,h,h0=>by
  rw [tupN]
  by_cases e:i=j
  ·subst e; rw [h0]; simp
  ·rw [tup_nil j i (by omega) h0]; rfl
theorem tup_len {l:List (List Int)} {q:Nat} (hq:∀ i,ln l i≤q):∀ j,(tupN l j).length≤q ^ j
 | 0=>by simp [tupN]
 | j + 1=>by
  rw [tupN,List.length_flatMap]
  have:∀ (L:List Tp),(L.map fun t=>((List.range (ln l j)).map (upd t j)).length).sum≤L.length * q:=by
   intro L
   induction L with
   | nil=>simp
   | cons a L ih=>simp only [List.map_cons,List.sum_cons,List.length_map,List.length_range,List.length_cons,Nat.succ_mul] at *; have:=hq j; omega
  exact Nat.le_trans (this _) (by rw [Nat.pow_succ]; exact Nat.mul_le_mul_right _ (tup_len hq j))
theorem tup_first {l:List (List Int)}:∀ j,(tupN l (j + 1)).Pairwise fun f g=>f 0≤g 0
 | 0=>by
  rw [tupN,tupN]
  simp only [List.flatMap_cons,List.flatMap_nil,List.append_nil]
  rw [List.pairwise_map]
  exact List.pairwise_lt_range.imp fun {a b} h=>by simp [upd]; omega
 | j + 1=>by
  rw [tupN]
  have ih:=tup_first (l:=l) j
  rw [List.pairwise_flatMap]
  refine ⟨fun t _=>?_,ih.imp fun {f g} h a ha b hb=>?_⟩
  ·rw [List.pairwise_map]
   exact List.pairwise_lt_range.imp fun {a b} _=>by simp [upd]
  ·obtain ⟨x,_,rfl⟩:=List.mem_map.1 ha
   obtain ⟨y,_,rfl⟩:=List.mem_map.1 hb
   simpa [upd] using h
def nx (l:List (List Int)):Nat→Tp→Option Tp
 | 0,_=>none
 | j + 1,f=>if f j + 1<ln l j then some (upd f j (f j + 1)) else nx l j (upd f j 0)
theorem nx_succ (l:List (List Int)) (j:Nat) (f:Tp):nx l (j + 1) f=if f j + 1<ln l j then some (upd f j (f j + 1)) else nx l j (upd f j 0):=rfl
inductive Run {α:Type} (nx:α→Option α):α→List α→Prop
 | last {u:α}:nx u=none→Run nx u [u]
 | more {u v:α} {l:List α}:nx u=some v→Run nx v l→Run nx u (u::l)
theorem upd_upd (f:Tp) (j a b:Nat):upd (upd f j a) j b=upd f j b:=by funext n; unfold upd; by_cases e:n=j <;> simp [e]
theorem upd_same {f:Tp} {j a:Nat} (h:f j=a):upd f j a=f:=by funext n; unfold upd; by_cases e:n=j <;> simp [e,h]
theorem runIn {l:List (List Int)} {j:Nat} {t:Tp} (ht:t j=0) {T:List Tp} (h0:nx l j t=none→T=[]) (h1:∀ v,nx l j t=some v→Run (nx l (j + 1)) v T) :
  ∀ (d i:Nat),i + d + 1=ln l j→Run (nx l (j + 1)) (upd t j i) ((List.range' i (d + 1)).map (upd t j)++T)
 | 0,i,hd=>by
  have e:nx l (j + 1) (upd t j i)=nx l j t:=by
   rw [nx_succ,if_neg (by simp [upd]; omega),upd_upd,upd_same ht]
  rw [List.range'_one]
  cases hn:nx l j t with
  | none=>rw [h0 hn]; exact .last (e.trans hn)
  | some v=>exact .more (e.trans hn) (h1 v hn)
 | d + 1,i,hd=>by
  rw [List.range'_succ]
  refine .more (v:=upd t j (i + 1)) ?_ (runIn ht h0 h1 d (i + 1) (by omega))
  rw [nx_succ,if_pos (by simp [upd]; omega),upd_upd]
  simp [upd]
theorem run_up {l:List (List Int)} {j:Nat} (hj:0<ln l j) {t:Tp} {L:List Tp} (h:Run (nx l j) t L) (hz:∀ u∈L,u j=0):Run (nx l (j + 1)) t (L.flatMap fun t=>(List.range (ln l j)).map (upd t j)):=by
 have fl:∀ (t:Tp) (T:List Tp),t j=0→(nx l j t=none→T=[])→(∀ v,nx l j t=some v→Run (nx l (j + 1)) v T)→Run (nx l (j + 1)) t ((List.range (ln l j)).map (upd t j)++T):=by
  intro t T ht h0 h1
  have:=runIn ht h0 h1 (ln l j - 1) 0 (by omega)
  rw [upd_same ht,show ln l j - 1 + 1=ln l j by omega,← List.range_eq_range'] at this
  exact this
 induction h with
 | last hn =>
  have:=fl _ [] (hz _ (List.mem_singleton_self _)) (fun _=>rfl) (fun v hv=>by rw [hn] at hv; cases hv)
  simpa using this
 | more hn hr ih =>
  rw [List.flatMap_cons]
  exact fl _ _ (hz _ (List.mem_cons_self ..)) (fun h=>by rw [hn] at h; cases h) (fun v hv=>by
   rw [hn] at hv; cases hv
   exact ih fun u hu=>hz u (List.mem_cons_of_mem _ hu))
theorem run_all {l:List (List Int)}:∀ j,(∀ i,i<j→0<ln l i)→Run (nx l j) (fun _=>0) (tupN l j)
 | 0,_=>.last rfl
 | j + 1,h=>run_up (h j (by omega)) (run_all j fun i hi=>h i (by omega)) fun u hu=>(tup_mem j u hu).2 j (by omega)
def pl (f:Tp):Pl:=⟨(List.range 4).map fun i=>(f i:Int),by simp⟩
theorem pl_ix {f:Tp} {i:Nat} (h:i<4):ix (pl f).l (i:Int)=some (f i:Int):=by
 rw [ix_nat (by simpa [pl] using h)]
 simp [pl]
theorem pl_set {f:Tp} {i v:Nat} (h:i<4):aset (pl f) (i:Int) (v:Int)=pl (upd f i v):=ar_ext (by
 show (pl f).l.set _ _=_
 apply List.ext_getElem?
 intro j
 rw [List.getElem?_set]
 simp only [pl,List.length_map,List.length_range,List.getElem?_map,Int.toNat_natCast]
 by_cases hj:j<4
 ·rw [List.getElem?_range hj]
  by_cases e:i=j
  ·subst e; simp [upd,h]
  ·rw [if_neg e]; simp [upd,Ne.symm e]
 ·rw [List.getElem?_eq_none (by simp; omega)]
  rw [if_neg (by omega)]; rfl)
theorem pl_zero:pl (fun _=>0)=Ar.fill 4 0:=ar_ext rfl
theorem back_eq {l:List (List Int)} (hl:l.length≤4) (h8:∀ i,ln l i≤1000):∀ (j m:Nat) (f:Tp),j≤l.length→j<m→(∀ i,i<j→f i<ln l i) →
  ∃ r,pl_back l m ((j:Int) - 1) (pl f)=some r∧(nx l j f=none→r.1<0)∧∀ g,nx l j f=some g→∃ q x:Nat,r.1=(q:Int)∧ix r.2.l r.1=some (x:Int)∧aset r.2 r.1 (w64 ((x:Int) + 1))=pl g
 | _,0,_,_,h,_=>by omega
 | 0,m + 1,f,_,_,_=>by
  unfold pl_back
  rw [if_neg (by simp)]
  exact ⟨_,rfl,fun _=>by simp,fun g h=>by cases h⟩
 | j + 1,m + 1,f,hj,hm,hf=>by
  have hfj:=hf j (by omega)
  have h8j:=h8 j
  have hjl:j<l.length:=by omega
  have eln:ln l j=l[j].length:=by unfold ln; simp [hjl]
  unfold pl_back
  rw [show ((j + 1:Nat):Int) - 1=(j:Int) by omega,if_pos (by simp),pl_ix (by omega),ix_nat hjl]
  simp only [Option.bind_eq_bind,Option.bind_some]
  rw [nx_succ]
  by_cases c:f j + 1<ln l j
  ·rw [if_pos c]
   rw [show decide ((f j:Int)=w64 ((l[j].length:Int) - 1))=false by rw [w64_in (by omega)]; simp; omega]
   simp only [Bool.false_eq_true,if_false]
   refine ⟨_,rfl,(fun h=>by cases h),fun g hg=>?_⟩
   cases hg
   refine ⟨j,f j,rfl,pl_ix (by omega),?_⟩
   rw [w64_nat (by omega),pl_set (by omega)]
  ·rw [if_neg c]
   rw [show decide ((f j:Int)=w64 ((l[j].length:Int) - 1))=true by rw [w64_in (by omega)]; simp; omega]
   simp only [if_true]
   have:=back_eq hl h8 j m (upd f j 0) (by omega) (by omega) fun i hi=>by unfold upd; rw [if_neg (by omega)]; exact hf i (by omega)
   rw [w64_in (by omega),show (0:Int)=((0:Nat):Int) from rfl,pl_set (by omega)]
   exact this
theorem all_eq {F:Nat} (hF:100000<F) {l:List (List Int)} (hl:l.length≤4) (h8:∀ i,ln l i≤1000) {f:Tp} {L:List Tp} (h:Run (nx l l.length) f L):∀ m,(∀ u∈L,∀ i,i<l.length→u i<ln l i)→L.length≤m→pl_all F l m (pl f)=some (L.map pl):=by
 induction h with
 | last hn =>
  intro m hv hm
  obtain ⟨m,rfl⟩:∃ k,m=k + 1:=⟨m - 1,by simp at hm; omega⟩
  obtain ⟨r,h1,h2,_⟩:=back_eq hl h8 l.length F _ (Nat.le_refl _) (by omega) (hv _ (List.mem_singleton_self _))
  unfold pl_all
  rw [w64_in (by omega),h1]
  simp only [Option.bind_eq_bind,Option.bind_some]
  rw [if_pos (by simpa using h2 hn)]; rfl
 | more hn hr ih =>
  intro m hv hm
  obtain ⟨m,rfl⟩:∃ k,m=k + 1:=⟨m - 1,by simp at hm; omega⟩
  obtain ⟨r,h1,_,h3⟩:=back_eq hl h8 l.length F _ (Nat.le_refl _) (by omega) (hv _ (List.mem_cons_self ..))
  obtain ⟨q,y,e1,e2,e3⟩:=h3 _ hn
  unfold pl_all
  rw [w64_in (by omega),h1]
  simp only [Option.bind_eq_bind,Option.bind_some]
  rw [if_neg (by rw [e1]; simp),e2]
  simp only [Option.bind_some]
  rw [e3,ih m (fun u hu=>hv u (List.mem_cons_of_mem _ hu)) (by simpa using hm)]
  rfl
theorem vl_ln {l:List (List Int)} (h:VL l) (i:Nat):ln l i≤8:=by
 unfold ln
 by_cases hi:i<l.length
 ·simp only [List.getD_eq_getElem?_getD,List.getElem?_eq_getElem hi,Option.getD_some]; exact h.len _ (List.getElem_mem hi)
 ·simp only [List.getD_eq_getElem?_getD,List.getElem?_eq_none (by omega:l.length≤i),Option.getD_none]; simp
theorem tup_4096 {l:List (List Int)} (h:VL l):(tupN l l.length).length≤4096:=by
 have:=tup_len (vl_ln h) l.length
 have h2:8 ^ l.length≤8 ^ 4:=Nat.pow_le_pow_right (by omega) h.four
 have:(8:Nat) ^ 4=4096:=rfl
 omega
theorem places_eq {F:Nat} (hF:100000<F) {l:List (List Int)} (h:VL l):word_places F l=some ((tupN l l.length).map pl):=by
 have h4:=h.four
 unfold word_places
 cases h0:l.any fun r=>r.length == 0 with
 | true =>
  rw [if_pos rfl]
  obtain ⟨r,hr,e⟩:=List.any_eq_true.1 h0
  obtain ⟨i,hi,rfl⟩:=List.mem_iff_getElem.1 hr
  rw [tup_nil l.length i hi (by unfold ln; simp [hi]; simpa using e)]; rfl
 | false =>
  rw [if_neg (by simp)]
  have hp:∀ i,i<l.length→0<ln l i:=fun i hi=>by
   have:=List.any_eq_false.1 h0 l[i] (List.getElem_mem hi)
   unfold ln; simp [hi] at this ⊢
   exact List.length_pos_iff.2 this
  rw [← pl_zero]
  have hl:=tup_4096 h
  exact all_eq hF h4 (fun i=>Nat.le_trans (vl_ln h i) (by omega)) (run_all l.length hp) F (fun u hu=>(tup_mem _ u hu).1) (by omega)
def wrd (l:List (List Int)) (h i:Nat):Nat:=((l.getD h []).getD i 0).toNat
def mt (g:Tp) (l:List (List Int)) (k:Nat) (f:Tp):Bool:=(List.range k).all fun h=>decide (g (wrd l h (f h))=g (wrd l 0 (f 0)))
theorem wrd_ix {l:List (List Int)} (h:VL l) {j i:Nat} (hj:j<l.length) (hi:i<ln l j):ix l[j] (i:Int)=some ((wrd l j i:Nat):Int)∧wrd l j i<101:=by
 have eln:ln l j=l[j].length:=by unfold ln; simp [hj]
 have hi':i<l[j].length:=by omega
 have hw:=h.ws _ (List.getElem_mem hj) _ (List.getElem_mem hi')
 obtain ⟨n,e,_,hn⟩:=wd_nat hw
 have:wrd l j i=n:=by unfold wrd; simp [hj,hi',e]
 rw [ix_nat hi',this,e]
 exact ⟨rfl,hn⟩
theorem mt_succ (g:Tp) (l:List (List Int)) (k:Nat) (f:Tp):mt g l (k + 1) f=(mt g l k f && decide (g (wrd l k (f k))=g (wrd l 0 (f 0)))):=by
 unfold mt; rw [List.range_succ,List.all_append]; simp
theorem mt_ok {g g':Tp} (hg:∀ i j,i<101→j<101→(g i=g j↔g' i=g' j)) {l:List (List Int)} (h:VL l) {f:Tp} (hf:∀ i,i<l.length→f i<ln l i):∀ k,k≤l.length→mt g l k f=mt g' l k f
 | 0,_=>rfl
 | k + 1,hk=>by
  rw [mt_succ,mt_succ,mt_ok hg h hf k (by omega)]
  have h2:=h.two
  have a:=(wrd_ix h (j:=k) (by omega) (hf k (by omega))).2
  have b:=(wrd_ix h (j:=0) (by omega) (hf 0 (by omega))).2
  congr 1
  exact decide_eq_decide.2 (hg _ _ a b)
theorem matched_eq {F:Nat} (hF:1000<F) {x:Bk} {l:List (List Int)} (h:VL l) {c:Cls} {g:Tp} (hc:c.l=tl g) {acc:List Pl} {f:Tp} (hf:∀ i,i<l.length→f i<ln l i) :
  word_song_matched F ((⟨some (x,c)⟩:Ob ((Uno (List (Ar 2 Int)))×(Ar 101 Int))),l,acc) (pl f)=some (mt g l l.length f):=by
 have h2:=h.two; have h4:=h.four
 have key:∀ (m k:Nat),k≤l.length→l.length - k<m→mt g l k f=true→word_song_matched_l1 F ((⟨some (x,c)⟩:Ob ((Uno (List (Ar 2 Int)))×(Ar 101 Int))),l,acc) (pl f) m (k:Int)=some (if mt g l l.length f=true then .inr () else .inl false):=by
  intro m
  induction m with
  | zero=>intro k _ h; omega
  | succ m ih =>
   intro k hk hm hmt
   unfold word_song_matched_l1
   by_cases hlt:k<l.length
   ·have a:=wrd_ix h hlt (hf k hlt)
    have b:=wrd_ix h (j:=0) (by omega) (hf 0 (by omega))
    rw [if_pos (by simpa using hlt)]
    simp only
    rw [ix_nat hlt,pl_ix (by omega)]
    simp only [Option.bind_eq_bind,Option.bind_some]
    rw [a.1]
    simp only [Option.bind_some]
    rw [show (0:Int)=((0:Nat):Int) from rfl,ix_nat (show 0<l.length by omega),pl_ix (by omega)]
    simp only [Option.bind_some]
    rw [b.1]
    simp only [Option.bind_some,word_dictionary_alike]
    rw [hc,tl_ix a.2,tl_ix b.2]
    simp only [Option.bind_eq_bind,Option.bind_some]
    by_cases e:g (wrd l k (f k))=g (wrd l 0 (f 0))
    ·rw [show (!decide ((g (wrd l k (f k)):Int)=(g (wrd l 0 (f 0)):Int)))=false by simp [e]]
     simp only [Bool.false_eq_true,if_false]
     rw [w64_nat (by omega),ih (k + 1) (by omega) (by omega) (by rw [mt_succ,hmt,decide_eq_true e]; rfl)]
    ·rw [show (!decide ((g (wrd l k (f k)):Int)=(g (wrd l 0 (f 0)):Int)))=true by simp; omega]
     simp only [if_true]
     rw [if_neg]
     intro hh
     have:=List.all_eq_true.1 hh k (List.mem_range.2 hlt)
     exact e (by simpa using this)
   ·have:k=l.length:=by omega
    subst this
    rw [if_neg (by simp),hmt]; rfl
 unfold word_song_matched
 have:=key F 0 (by omega) (by omega) rfl
 rw [show ((0:Nat):Int)=0 from rfl] at this
 rw [this]
 cases mt g l l.length f <;> rfl
theorem wsall_eq {F:Nat} (hF:1000<F) {x:Bk} {l:List (List Int)} (h:VL l) {c:Cls} {g:Tp} (hc:c.l=tl g):∀ (L:List Tp) (acc:List Pl),(∀ f∈L,∀ i,i<l.length→f i<ln l i)→L.length + acc.length≤100000 →
  ws_all F ⟨some (x,c)⟩ l (L.map pl) acc=some (acc++(L.filter (mt g l l.length)).map pl)
 | [],acc,_,_=>by simp [ws_all]
 | f::L,acc,hf,hn=>by
  simp only [List.length_cons] at hn
  rw [List.map_cons,ws_all,matched_eq hF h hc (hf f (List.mem_cons_self ..))]
  simp only [Option.bind_eq_bind,Option.bind_some]
  cases hm:mt g l l.length f with
  | true =>
   rw [if_pos rfl,app_some (by simp; omega)]
   simp only [Option.bind_some]
   rw [wsall_eq hF h hc L _ (fun u hu=>hf u (List.mem_cons_of_mem _ hu)) (by simp; omega),List.filter_cons,if_pos hm]
   simp
  | false =>
   rw [if_neg (by simp),wsall_eq hF h hc L _ (fun u hu=>hf u (List.mem_cons_of_mem _ hu)) (by omega),List.filter_cons,if_neg (by simp [hm])]
def Mt (g:Tp) (l:List (List Int)):List Tp:=(tupN l l.length).filter (mt g l l.length)
end Wo
end Go.Proofs.YtfmelbioccbdoaaGreat
end
section
namespace Go.Proofs.YtfmelbioccbdoaaGreat
open Go Go.Md Go.RowKit
namespace Wo
def lst (k:Nat) (f:Tp):List Int:=(List.range k).map fun i=>(f i:Int)
theorem lst_len (k:Nat) (f:Tp):(lst k f).length=k:=by simp [lst]
theorem lst_ix {k:Nat} {f:Tp} {i:Nat} (h:i<k):ix (lst k f) (i:Int)=some (f i:Int):=by
 rw [ix_nat (by rw [lst_len]; exact h)]
 simp [lst]
theorem lst_snoc (k:Nat) (f:Tp) (i:Nat):lst k f++[(i:Int)]=lst (k + 1) (upd f k i):=by
 unfold lst
 rw [List.range_succ,List.map_append]
 congr 1
 ·exact List.map_congr_left fun n hn=>by rw [List.mem_range] at hn; unfold upd; rw [if_neg (by omega)]
 ·simp [upd]
def cnd (g:Tp) (l:List (List Int)) (j:Nat) (f:Tp) (i:Nat):Bool:=decide (g (wrd l j i)=g (wrd l 0 (if j=0 then i else f 0)))
theorem mt_upd (g:Tp) (l:List (List Int)) (j:Nat) (f:Tp) (i:Nat):mt g l (j + 1) (upd f j i)=(mt g l j f && cnd g l j f i):=by
 rw [mt_succ]
 unfold cnd
 by_cases e:j=0
 ·subst e; simp [mt,upd]
 ·rw [if_neg e]
  have h0:upd f j i 0=f 0:=by unfold upd; rw [if_neg (fun h=>e h.symm)]
  rw [h0,show upd f j i j=i by simp [upd]]
  congr 1
  unfold mt
  rw [h0]
  rw [Bool.eq_iff_iff,List.all_eq_true,List.all_eq_true]
  refine forall_congr' fun n=>imp_congr_right fun hn=>?_
  rw [List.mem_range] at hn
  rw [show upd f j i n=f n by unfold upd; rw [if_neg (by omega)]]
theorem all3 {F:Nat} {l:List (List Int)} (h:VL l) {g:Tp} {y1:List (List Int)} {j:Nat} (hj:j<l.length) {y4:Nat} {f:Tp} (h4:y4<y1.length) (e4:y1[y4]=lst j f) (hf:∀ i,i<j→f i<ln l i) :
  ∀ (m k:Nat) (y5:List (List Int)),k≤ln l j→ln l j - k<m→y5.length + (ln l j - k)≤1000000 →
   ref04_All_l3 F l (tl g) y1 (j:Int) (y4:Int) m y5 (k:Int)=some (y5++((List.range' k (ln l j - k)).filter (cnd g l j f)).map fun i=>lst (j + 1) (upd f j i))
 | 0,k,_,_,h,_=>by omega
 | m + 1,k,y5,hk,hm,hn=>by
  have h2:=h.two; have hlf:=h.four; have h8:=vl_ln h j
  have eln:ln l j=l[j].length:=by unfold ln; simp [hj]
  unfold ref04_All_l3
  rw [ix_nat hj]
  simp only [Option.bind_eq_bind,Option.bind_some]
  by_cases hlt:k<ln l j
  ·rw [if_pos (by simp; omega),show ln l j - k=(ln l j - (k + 1)) + 1 by omega,List.range'_succ,List.filter_cons]
   have ec:(if decide ((j:Int)=0)=true then some true else (ix l[j] (k:Int)).bind fun x6=>(ix (tl g) x6).bind fun x7=>(ix l 0).bind fun x8=>(ix y1 (y4:Int)).bind fun x9=>(ix x9 0).bind fun x10=>(ix x8 x10).bind fun x11=>(ix (tl g) x11).bind fun x12=>some (decide (x7=x12)))=some (cnd g l j f k):=by
    unfold cnd
    by_cases e:j=0
    ·subst e; simp
    ·rw [if_neg (by simpa using e),if_neg e]
     have a:=wrd_ix h hj hlt
     have b:=wrd_ix h (j:=0) (by omega) (hf 0 (by omega))
     rw [a.1]
     simp only [Option.bind_some]
     rw [tl_ix a.2,show (0:Int)=((0:Nat):Int) from rfl,ix_nat (show 0<l.length by omega),ix_nat h4,e4]
     simp only [Option.bind_some]
     rw [lst_ix (by omega)]
     simp only [Option.bind_some]
     rw [b.1]
     simp only [Option.bind_some]
     rw [tl_ix b.2]
     simp only [Option.bind_some,Option.some.injEq]
     exact decide_eq_decide.2 (by omega)
   rw [ec]
   simp only [Option.bind_some]
   cases hc:cnd g l j f k with
   | true =>
    simp only [if_true]
    rw [ix_nat h4,e4]
    simp only [Option.bind_some]
    rw [app_some (by simp [lst_len]; omega)]
    simp only [Option.bind_some]
    rw [app_some (by simp [lst_len]; omega)]
    simp only [Option.bind_some]
    rw [app_some (by simp; omega)]
    simp only [Option.bind_some,List.nil_append]
    rw [w64_nat (by omega),all3 h hj h4 e4 hf m (k + 1) _ (by omega) (by omega) (by simp; omega),lst_snoc]
    simp
   | false =>
    simp only [Bool.false_eq_true,if_false,Option.bind_some]
    rw [w64_nat (by omega),all3 h hj h4 e4 hf m (k + 1) _ (by omega) (by omega) (by omega)]
  ·rw [if_neg (by simp; omega),show ln l j - k=0 by omega]; simp
def nxt (g:Tp) (l:List (List Int)) (j:Nat) (f:Tp):List (List Int):=((List.range (ln l j)).filter (cnd g l j f)).map fun i=>lst (j + 1) (upd f j i)
theorem nxt_len {l:List (List Int)} (h:VL l) (g:Tp) (j:Nat) (f:Tp):(nxt g l j f).length≤8:=by
 unfold nxt
 rw [List.length_map]
 exact Nat.le_trans (List.length_filter_le ..) (by rw [List.length_range]; exact vl_ln h j)
theorem all2 {F:Nat} (hF:1000<F) {l:List (List Int)} (h:VL l) {g:Tp} {L:List Tp} {j:Nat} (hj:j<l.length) (hf:∀ f∈L,∀ i,i<j→f i<ln l i) (hL:L.length≤10000) :
  ∀ (m k:Nat) (y3:List (List Int)),k≤L.length→L.length - k<m→y3.length + 8 * (L.length - k)≤100000 →
   ref04_All_l2 F l (tl g) (L.map (lst j)) (j:Int) m y3 (k:Int)=some (y3++(L.drop k).flatMap (nxt g l j))
 | 0,k,_,_,h,_=>by omega
 | m + 1,k,y3,hk,hm,hn=>by
  have h8:=vl_ln h j
  unfold ref04_All_l2
  by_cases hlt:k<L.length
  ·rw [if_pos (by simpa using hlt)]
   have:=all3 (F:=F) h (g:=g) hj (y1:=L.map (lst j)) (y4:=k) (f:=L[k]) (by simpa using hlt) (by simp) (hf _ (List.getElem_mem hlt)) F 0 y3 (by omega) (by omega) (by omega)
   rw [show ((0:Nat):Int)=0 from rfl,Nat.sub_zero,← List.range_eq_range'] at this
   rw [this]
   simp only [Option.bind_eq_bind,Option.bind_some]
   have e8:=nxt_len h g j L[k]
   have:y3++((List.range (ln l j)).filter (cnd g l j L[k])).map (fun i=>lst (j + 1) (upd L[k] j i))=y3++nxt g l j L[k]:=rfl
   rw [this,w64_nat (by omega),all2 hF h hj hf hL m (k + 1) _ (by omega) (by omega) (by rw [List.length_append]; omega),List.drop_eq_getElem_cons hlt,List.flatMap_cons,List.append_assoc]
  ·rw [if_neg (by simpa using hlt),List.drop_of_length_le (by omega)]; simp
theorem nxt_all (g:Tp) (l:List (List Int)) (j:Nat):∀ (L:List Tp),((L.filter (mt g l j)).flatMap (nxt g l j))=((L.flatMap fun t=>(List.range (ln l j)).map (upd t j)).filter (mt g l (j + 1))).map (lst (j + 1))
 | []=>rfl
 | f::L=>by
  rw [List.flatMap_cons,List.filter_append,List.map_append,← nxt_all g l j L,List.filter_cons]
  have e:(((List.range (ln l j)).map (upd f j)).filter (mt g l (j + 1))).map (lst (j + 1))=if mt g l j f=true then nxt g l j f else []:=by
   rw [List.filter_map]
   have:(mt g l (j + 1)) ∘ (upd f j)=fun i=>mt g l j f && cnd g l j f i:=by funext i; exact mt_upd g l j f i
   rw [this]
   cases hm:mt g l j f with
   | true=>simp [nxt]
   | false=>simp
  rw [e]
  cases hm:mt g l j f with
  | true=>rw [if_pos rfl,if_pos rfl,List.flatMap_cons]
  | false=>rw [if_neg (by simp),if_neg (by simp)]; rfl
theorem all1 {F:Nat} (hF:100000<F) {l:List (List Int)} (h:VL l) {g:Tp}:∀ (m j:Nat),j≤l.length→l.length - j<m →
  ref04_All_l1 F l (tl g) m (((tupN l j).filter (mt g l j)).map (lst j)) (j:Int)=some (((tupN l l.length).filter (mt g l l.length)).map (lst l.length))
 | 0,k,_,h=>by omega
 | m + 1,j,hk,hm=>by
  have h4:=h.four
  unfold ref04_All_l1
  by_cases hlt:j<l.length
  ·have hn:((tupN l j).filter (mt g l j)).length≤4096:=by
    refine Nat.le_trans (List.length_filter_le ..) ?_
    have:=tup_len (vl_ln h) j
    have h2:8 ^ j≤8 ^ 4:=Nat.pow_le_pow_right (by omega) (by omega)
    have:(8:Nat) ^ 4=4096:=rfl
    omega
   rw [if_pos (by simpa using hlt)]
   have:=all2 (F:=F) (by omega) h (g:=g) (L:=(tupN l j).filter (mt g l j)) hlt (fun f hf=>(tup_mem _ f (List.mem_filter.1 hf).1).1) (by omega) F 0 [] (by omega) (by omega) (by simp; omega)
   rw [show ((0:Nat):Int)=0 from rfl,List.drop_zero,List.nil_append] at this
   rw [this]
   simp only [Option.bind_eq_bind,Option.bind_some]
   rw [w64_nat (by omega),nxt_all]
   exact all1 hF h m (j + 1) (by omega) (by omega)
  ·rw [if_neg (by simpa using hlt),show j=l.length by omega]
theorem rall_eq {F:Nat} (hF:100000<F) {x:Bk} {l:List (List Int)} (hv:VB x) (h:VL l) {g:Tp} (hg:∀ i j,i<101→j<101→(g i=g j↔Con (Ed x) i j)):ref04_All F x l=some ((Mt g l).map (lst l.length)):=by
 obtain ⟨g',h1,h2⟩:=rcls_eq (F:=F) (by omega) hv
 unfold ref04_All
 rw [show (⟨x.v⟩:Bk)=x from rfl,h1]
 simp only [Option.bind_eq_bind,Option.bind_some]
 have:=all1 hF h (g:=g') F 0 (by omega) (by have:=h.four; omega)
 rw [show ref04_All_l1 F l (tl g') F [([]:List Int)] 0=_ from this]
 simp only [Option.bind_some]
 congr 2
 exact List.filter_congr fun f hf=>mt_ok (fun i j hi hj=>(h2 i j hi hj).trans (hg i j hi hj).symm) h (tup_mem _ f hf).1 _ (Nat.le_refl _)
def bef (k:Nat) (f f':Tp):Bool:=(List.range k).all fun h=>decide (f h<f' h)
theorem bef_iff {k:Nat} {f f':Tp}:bef k f f'=true↔∀ h,h<k→f h<f' h:=by
 unfold bef; simp
theorem bef_trans {k:Nat} {f g h:Tp} (a:bef k f g=true) (b:bef k g h=true):bef k f h=true:=by
 rw [bef_iff] at *
 intro i hi; have:=a i hi; have:=b i hi; omega
theorem rbef_eq {F:Nat} (hF:1000<F) {k:Nat} (hk:k≤1000) (f f':Tp):ref04_Before F (lst k f) (lst k f')=some (bef k f f'):=by
 have key:∀ (m i:Nat),i≤k→k - i<m→(∀ h,h<i→f h<f' h)→ref04_Before_l1 F (lst k f) (lst k f') m (i:Int)=some (if bef k f f'=true then .inr () else .inl false):=by
  intro m
  induction m with
  | zero=>intro i _ h; omega
  | succ m ih =>
   intro i hi hm hb
   unfold ref04_Before_l1
   rw [lst_len]
   by_cases hlt:i<k
   ·rw [if_pos (by simpa using hlt),lst_ix hlt,lst_ix hlt]
    simp only [Option.bind_eq_bind,Option.bind_some]
    by_cases e:f i<f' i
    ·rw [if_neg (by simp; omega),w64_nat (by omega),ih (i + 1) (by omega) (by omega) fun h hh=>by
      by_cases e':h=i
      ·subst e'; exact e
      ·exact hb h (by omega)]
    ·rw [if_pos (by simp; omega),if_neg (fun h=>e (bef_iff.1 h i hlt))]
   ·rw [if_neg (by simpa using hlt),if_pos (bef_iff.2 fun h hh=>hb h (by omega))]
 unfold ref04_Before
 have:=key F 0 (by omega) (by omega) (fun h hh=>by omega)
 rw [show ((0:Nat):Int)=0 from rfl] at this
 rw [this]
 cases bef k f f' <;> rfl
theorem wbef_eq {F:Nat} (hF:1000<F) {d:Ob ((Uno (List (Ar 2 Int)))×(Ar 101 Int))} {l:List (List Int)} {acc:List Pl} (hk:l.length≤4) (f f':Tp):word_song_before F (d,l,acc) (pl f) (pl f')=some (bef l.length f f'):=by
 have key:∀ (m i:Nat),i≤l.length→l.length - i<m→(∀ h,h<i→f h<f' h)→word_song_before_l1 F (d,l,acc) (pl f) (pl f') m (i:Int)=some (if bef l.length f f'=true then .inr () else .inl false):=by
  intro m
  induction m with
  | zero=>intro i _ h; omega
  | succ m ih =>
   intro i hi hm hb
   unfold word_song_before_l1
   by_cases hlt:i<l.length
   ·rw [if_pos (by simpa using hlt),pl_ix (by omega),pl_ix (by omega)]
    simp only [Option.bind_eq_bind,Option.bind_some]
    by_cases e:f i<f' i
    ·rw [if_neg (by simp; omega),w64_nat (by omega),ih (i + 1) (by omega) (by omega) fun h hh=>by
      by_cases e':h=i
      ·subst e'; exact e
      ·exact hb h (by omega)]
    ·rw [if_pos (by simp; omega),if_neg (fun h=>e (bef_iff.1 h i hlt))]
   ·rw [if_neg (by simpa using hlt),if_pos (bef_iff.2 fun h hh=>hb h (by omega))]
 unfold word_song_before
 have:=key F 0 (by omega) (by omega) (fun h hh=>by omega)
 rw [show ((0:Nat):Int)=0 from rfl] at this
 rw [this]
 cases bef l.length f f' <;> rfl
theorem Mt_mem {g:Tp} {l:List (List Int)} {f:Tp} (h:f∈Mt g l):(∀ i,i<l.length→f i<ln l i)∧(∀ i,l.length≤i→f i=0)∧mt g l l.length f=true:=by
 obtain ⟨a,b⟩:=List.mem_filter.1 h
 exact ⟨(tup_mem _ f a).1,(tup_mem _ f a).2,b⟩
theorem Mt_ord {g:Tp} {l:List (List Int)} (h:VL l):(Mt g l).Pairwise fun a b=>a 0≤b 0:=by
 have h2:=h.two
 unfold Mt
 obtain ⟨k,e⟩:∃ k,l.length=k + 1:=⟨l.length - 1,by omega⟩
 have:=tup_first (l:=l) k
 rw [← e] at this
 exact this.sublist List.filter_sublist
end Wo
end Go.Proofs.YtfmelbioccbdoaaGreat
end
