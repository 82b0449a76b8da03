/-
  Pure functions, one for each function of the program, as a program of our own printed them. No condition: definitions.
-/
import Derived.Test.YtdimoehnkagghaaCopy
import Derived.Test.YtdimoehnkagghaaMapw
import Derived.Test.YtdimoehnkagghaaPureA
import Derived.Test.YtdimoehnkagghaaManA
import Derived.Test.YtdimoehnkagghaaManB
namespace Go.Proofs.Ytdimoehnkagghaa
open Go Go.Md Go.RowKit

-- 68 (*mandrel/right.treaty).holds
def right_treaty_holds_l2 (F : Nat) : List ((Bool × Int) × Int × Int) → (Ar 2 Int) → Option ((Ar 2 Int))
  | [], y2 => some y2
  | x5 :: us, y2 =>
    (ix y2.l 0) >>= fun x6 =>
    (ix y2.l 0) >>= fun x7 =>
    (ix (aset y2 0 (bor .i64 x6 x5.2.2)).l 1) >>= fun x8 =>
    (ix (aset y2 0 (bor .i64 x6 x5.2.2)).l 1) >>= fun x9 =>
    right_treaty_holds_l2 F us (aset (aset y2 0 (bor .i64 x6 x5.2.2)) 1 (w64 (x8 + 1)))

def right_treaty_holds_l1 (F : Nat) (x0 : ((Int × (List Int) × (List ((List Int) × Int)) × (List ((List Int) × Int)) × (List (List Int))) × Int × (List ((Bool × Int) × Int × Int)) × (List Int))) (x1 : Int) : Nat → (Ar 2 Int) → Option (Sum Int (Unit))
  | 0, _ => none
  | m + 1, y1 =>
    (ix y1.l 0) >>= fun x3 =>
    (right_treaty_usable ((x0.1.1, x0.1.2.1, x0.1.2.2.1, x0.1.2.2.2.1, x0.1.2.2.2.2), x0.2.1, x0.2.2.1, x0.2.2.2) x1 x3) >>= fun x4 =>
    ((right_treaty_holds_l2 F x4 y1) >>= fun z1 =>
    if (decide (z1 = y1)) = true then
      (ix z1.l 0) >>= fun x10 =>
      some (.inl x10)
    else
      right_treaty_holds_l1 F x0 x1 m z1)

def right_treaty_holds (F : Nat) (x0 : ((Int × (List Int) × (List ((List Int) × Int)) × (List ((List Int) × Int)) × (List (List Int))) × Int × (List ((Bool × Int) × Int × Int)) × (List Int))) (x1 : Int) : Option Int :=
  ((right_treaty_holds_l1 F x0 x1 F (aset (aset (Ar.fill 2 0 : (Ar 2 Int)) 0 x0.2.1) 1 0)) >>= fun o => match o with
    | .inl r => some r
    | .inr _ => none)

-- 44 (*mandrel/right.treaty).broken
def right_treaty_broken (F : Nat) (x0 : ((Int × (List Int) × (List ((List Int) × Int)) × (List ((List Int) × Int)) × (List (List Int))) × Int × (List ((Bool × Int) × Int × Int)) × (List Int))) (x1 : Int) : Option Int :=
  (right_treaty_holds F ((x0.1.1, x0.1.2.1, x0.1.2.2.1, x0.1.2.2.2.1, x0.1.2.2.2.2), x0.2.1, x0.2.2.1, x0.2.2.2) x1) >>= fun x3 =>
  (right_first__int F x0.2.2.2 (fun y => right_treaty_broken_1 y x3)) >>= fun x4 =>
  some x4

-- 53 (*mandrel/right.treaty).safe
def right_treaty_safe (F : Nat) (x0 : ((Int × (List Int) × (List ((List Int) × Int)) × (List ((List Int) × Int)) × (List (List Int))) × Int × (List ((Bool × Int) × Int × Int)) × (List Int))) (x1 : Int) : Option Bool :=
  (right_treaty_broken F ((x0.1.1, x0.1.2.1, x0.1.2.2.1, x0.1.2.2.2.1, x0.1.2.2.2.2), x0.2.1, x0.2.2.1, x0.2.2.2) x1) >>= fun x3 =>
  some (decide (x3 < 0))

-- 61 mandrel/right.CheckConflicts$2
def right_CheckConflicts_2 (F : Nat) (x0 : (List Int)) (x1 : (Ob ((Int × (List Int) × (List ((List Int) × Int)) × (List ((List Int) × Int)) × (List (List Int))) × Int × (List ((Bool × Int) × Int × Int)) × (List Int)))) : Option Bool :=
  (right_together F x0) >>= fun x3 =>
  (x1.v) >>= fun x4 =>
  (right_treaty_safe F ((x4.1.1, x4.1.2.1, x4.1.2.2.1, x4.1.2.2.2.1, x4.1.2.2.2.2), x4.2.1, x4.2.2.1, x4.2.2.2) x3) >>= fun x5 =>
  some x5

-- 52 mandrel/right.newTreaty
def right_newTreaty_l1 (F : Nat) (x0 : (Int × (List Int) × (List ((List Int) × Int)) × (List ((List Int) × Int)) × (List (List Int)))) : Nat → Int → ((Int × (List Int) × (List ((List Int) × Int)) × (List ((List Int) × Int)) × (List (List Int))) × Int × (List ((Bool × Int) × Int × Int)) × (List Int)) → Option (((Int × (List Int) × (List ((List Int) × Int)) × (List ((List Int) × Int)) × (List (List Int))) × Int × (List ((Bool × Int) × Int × Int)) × (List Int)))
  | 0, _, _ => none
  | m + 1, y1, y2 =>
    if (decide (y1 < (x0.2.2.1.length : Int))) = true then
      (ix x0.2.2.1 y1) >>= fun x4 =>
      (shl .i64 1 x4.2) >>= fun x5 =>
      (right_together F x4.1) >>= fun x6 =>
      (app 32 y2.2.2.1 ([((false, y1), x6, x5)] : List ((Bool × Int) × Int × Int))) >>= fun x7 =>
      right_newTreaty_l1 F x0 m (w64 (y1 + 1)) ((y2.1.1, x0.2.1, x0.2.2.1, x0.2.2.2.1, x0.2.2.2.2), y2.2.1, x7, [])
    else
      some ((y2.1.1, x0.2.1, x0.2.2.1, x0.2.2.2.1, x0.2.2.2.2), y2.2.1, y2.2.2.1, [])

def right_newTreaty_l2 (F : Nat) (x0 : (Int × (List Int) × (List ((List Int) × Int)) × (List ((List Int) × Int)) × (List (List Int)))) : Nat → Int → ((Int × (List Int) × (List ((List Int) × Int)) × (List ((List Int) × Int)) × (List (List Int))) × Int × (List ((Bool × Int) × Int × Int)) × (List Int)) → Option (((Int × (List Int) × (List ((List Int) × Int)) × (List ((List Int) × Int)) × (List (List Int))) × Int × (List ((Bool × Int) × Int × Int)) × (List Int)))
  | 0, _, _ => none
  | m + 1, y3, y4 =>
    if (decide (y3 < (x0.2.2.2.1.length : Int))) = true then
      (ix x0.2.2.2.1 y3) >>= fun x8 =>
      (shl .i64 1 x8.2) >>= fun x9 =>
      (right_together F x8.1) >>= fun x10 =>
      (app 32 y4.2.2.1 ([((true, y3), x10, x9)] : List ((Bool × Int) × Int × Int))) >>= fun x11 =>
      right_newTreaty_l2 F x0 m (w64 (y3 + 1)) ((y4.1.1, x0.2.1, x0.2.2.1, x0.2.2.2.1, x0.2.2.2.2), y4.2.1, x11, [])
    else
      some ((y4.1.1, x0.2.1, x0.2.2.1, x0.2.2.2.1, x0.2.2.2.2), y4.2.1, y4.2.2.1, [])

def right_newTreaty_l3 (F : Nat) (x0 : (Int × (List Int) × (List ((List Int) × Int)) × (List ((List Int) × Int)) × (List (List Int)))) (z2 : ((Int × (List Int) × (List ((List Int) × Int)) × (List ((List Int) × Int)) × (List (List Int))) × Int × (List ((Bool × Int) × Int × Int)) × (List Int))) : Nat → Int → ((Int × (List Int) × (List ((List Int) × Int)) × (List ((List Int) × Int)) × (List (List Int))) × Int × (List ((Bool × Int) × Int × Int)) × (List Int)) → Option (((Int × (List Int) × (List ((List Int) × Int)) × (List ((List Int) × Int)) × (List (List Int))) × Int × (List ((Bool × Int) × Int × Int)) × (List Int)))
  | 0, _, _ => none
  | m + 1, y5, y6 =>
    if (decide (y5 < (x0.2.2.2.2.length : Int))) = true then
      (ix x0.2.2.2.2 y5) >>= fun x12 =>
      (right_together F x12) >>= fun x13 =>
      (app 8 y6.2.2.2 ([x13] : List Int)) >>= fun x14 =>
      right_newTreaty_l3 F x0 z2 m (w64 (y5 + 1)) ((y6.1.1, x0.2.1, x0.2.2.1, x0.2.2.2.1, x0.2.2.2.2), y6.2.1, z2.2.2.1, x14)
    else
      some ((y6.1.1, x0.2.1, x0.2.2.1, x0.2.2.2.1, x0.2.2.2.2), y6.2.1, z2.2.2.1, y6.2.2.2)

def right_newTreaty (F : Nat) (x0 : (Int × (List Int) × (List ((List Int) × Int)) × (List ((List Int) × Int)) × (List (List Int)))) : Option ((Ob ((Int × (List Int) × (List ((List Int) × Int)) × (List ((List Int) × Int)) × (List (List Int))) × Int × (List ((Bool × Int) × Int × Int)) × (List Int))) × Int) :=
  (right_valid F (x0.1, x0.2.1, x0.2.2.1, x0.2.2.2.1, x0.2.2.2.2)) >>= fun x2 =>
  if (!decide (x2 = 0)) = true then
    some ((⟨none⟩ : (Ob ((Int × (List Int) × (List ((List Int) × Int)) × (List ((List Int) × Int)) × (List (List Int))) × Int × (List ((Bool × Int) × Int × Int)) × (List Int)))), x2)
  else
    (right_together F x0.2.1) >>= fun x3 =>
    ((right_newTreaty_l1 F x0 F 0 ((x0.1, x0.2.1, x0.2.2.1, x0.2.2.2.1, x0.2.2.2.2), x3, [], [])) >>= fun z1 =>
    ((right_newTreaty_l2 F x0 F 0 ((z1.1.1, x0.2.1, x0.2.2.1, x0.2.2.2.1, x0.2.2.2.2), z1.2.1, z1.2.2.1, [])) >>= fun z2 =>
    ((right_newTreaty_l3 F x0 z2 F 0 ((z2.1.1, x0.2.1, x0.2.2.1, x0.2.2.2.1, x0.2.2.2.2), z2.2.1, z2.2.2.1, [])) >>= fun z3 =>
    (right_treaty_safe F ((z3.1.1, x0.2.1, x0.2.2.1, x0.2.2.2.1, x0.2.2.2.2), z3.2.1, z2.2.2.1, z3.2.2.2) 0) >>= fun x15 =>
    if (!x15) = true then
      some ((⟨none⟩ : (Ob ((Int × (List Int) × (List ((List Int) × Int)) × (List ((List Int) × Int)) × (List (List Int))) × Int × (List ((Bool × Int) × Int × Int)) × (List Int)))), 21)
    else
      some ((⟨some ((z3.1.1, x0.2.1, x0.2.2.1, x0.2.2.2.1, x0.2.2.2.2), z3.2.1, z2.2.2.1, z3.2.2.2)⟩ : (Ob ((Int × (List Int) × (List ((List Int) × Int)) × (List ((List Int) × Int)) × (List (List Int))) × Int × (List ((Bool × Int) × Int × Int)) × (List Int)))), 0))))

-- 43 mandrel/right.open
def right_open (F : Nat) (x0 : (Int × (List Int) × (List ((List Int) × Int)) × (List ((List Int) × Int)) × (List (List Int)))) (x1 : (List Int)) : Option ((Ob ((Int × (List Int) × (List ((List Int) × Int)) × (List ((List Int) × Int)) × (List (List Int))) × Int × (List ((Bool × Int) × Int × Int)) × (List Int))) × Int × Int) :=
  (right_newTreaty F (x0.1, x0.2.1, x0.2.2.1, x0.2.2.2.1, x0.2.2.2.2)) >>= fun x3 =>
  if (!decide (x3.2 = 0)) = true then
    some ((⟨none⟩ : (Ob ((Int × (List Int) × (List ((List Int) × Int)) × (List ((List Int) × Int)) × (List (List Int))) × Int × (List ((Bool × Int) × Int × Int)) × (List Int)))), 0, x3.2)
  else
    (right_rising F x1 (x0.2.2.2.1.length : Int)) >>= fun x4 =>
    if (!x4) = true then
      some ((⟨none⟩ : (Ob ((Int × (List Int) × (List ((List Int) × Int)) × (List ((List Int) × Int)) × (List (List Int))) × Int × (List ((Bool × Int) × Int × Int)) × (List Int)))), 0, 3)
    else
      (right_together F x1) >>= fun x5 =>
      some (x3.1, x5, 0)

-- 17 mandrel/right.CheckChain
def right_CheckChain_l1 (F : Nat) (x3 : (List (Bool × Int))) (x5 : ((Ob ((Int × (List Int) × (List ((List Int) × Int)) × (List ((List Int) × Int)) × (List (List Int))) × Int × (List ((Bool × Int) × Int × Int)) × (List Int))) × Int × Int)) (x6 : ((Int × (List Int) × (List ((List Int) × Int)) × (List ((List Int) × Int)) × (List (List Int))) × Int × (List ((Bool × Int) × Int × Int)) × (List Int))) : Nat → Int → Int → Option (Sum Int (Int))
  | 0, _, _ => none
  | m + 1, y1, y2 =>
    if (decide (y2 < (x3.length : Int))) = true then
      (ix x3 y2) >>= fun x7 =>
      (right_first__right_way F x6.2.2.1 (fun y => right_CheckChain_1 y (x7.1, x7.2))) >>= fun x8 =>
      ((if (decide (x8 < 0)) = true then
        some true
      else
        (ix x6.2.2.1 x8) >>= fun x9 =>
        (right_way_may ((x9.1.1, x9.1.2), x9.2.1, x9.2.2) x5.2.1 y1) >>= fun x10 =>
        some (!x10) : Option (Bool)) >>= fun y3 =>
      if y3 = true then
        some (.inl 16)
      else
        (ix x6.2.2.1 x8) >>= fun x11 =>
        right_CheckChain_l1 F x3 x5 x6 m (bor .i64 y1 x11.2.2) (w64 (y2 + 1)))
    else
      some (.inr y1)

def right_CheckChain (F : Nat) (x0 : (Int × (List Int) × (List ((List Int) × Int)) × (List ((List Int) × Int)) × (List (List Int)))) (x1 : (List Int)) (x2 : Int) (x3 : (List (Bool × Int))) : Option Int :=
  (right_open F (x0.1, x0.2.1, x0.2.2.1, x0.2.2.2.1, x0.2.2.2.2) x1) >>= fun x5 =>
  if (!decide (x5.2.2 = 0)) = true then
    some x5.2.2
  else
    if ((decide (x2 < 0)) || (decide ((x0.2.2.2.2.length : Int) ≤ x2))) = true then
      some 2
    else
      if (decide (4096 < (x3.length : Int))) = true then
        some 6
      else
        (x5.1.v) >>= fun x6 =>
        ((right_CheckChain_l1 F x3 x5 x6 F x6.2.1 0) >>= fun o => match o with
          | .inl r => some r
          | .inr z1 =>
            (ix x6.2.2.2 x2) >>= fun x12 =>
            if (!decide ((bandn .i64 x12 z1) = 0)) = true then
              some 14
            else
              some 0)

-- 63 mandrel/right.refused
def right_refused_l2 (F : Nat) (x0 : (List Int)) : List Int → Option (Sum Int (Unit))
  | [] => some (.inr ())
  | x4 :: us =>
    (slices_ContainsFunc_int F x0 (fun y => right_refused_1 y x4)) >>= fun x5 =>
    if (!x5) = true then
      some (.inl x4)
    else
      right_refused_l2 F x0 us 

def right_refused_l1 (F : Nat) (x0 : (List Int)) (x1 : Int) : Nat → Int → Option (Sum Int (Unit))
  | 0, _ => none
  | m + 1, y1 =>
    if (decide (y1 < x1)) = true then
      (right_lists x1 y1) >>= fun x3 =>
      ((right_refused_l2 F x0 x3) >>= fun o => match o with
        | .inl r => some (.inl r)
        | .inr () =>
          right_refused_l1 F x0 x1 m (w64 (y1 + 1)))
    else
      some (.inr ())

def right_refused (F : Nat) (x0 : (List Int)) (x1 : Int) : Option Int :=
  ((right_refused_l1 F x0 x1 F 0) >>= fun o => match o with
    | .inl r => some r
    | .inr () =>
      (shl .i64 1 x1) >>= fun x6 =>
      some (w64 (x6 - 1)))

-- 26 mandrel/right.CheckConflicts
def right_CheckConflicts_l1 (F : Nat) (x1 : (List (List Int))) : Nat → (List Int) → Int → Option ((List Int))
  | 0, _, _ => none
  | m + 1, y1, y2 =>
    if (decide (y2 < (x1.length : Int))) = true then
      (ix x1 y2) >>= fun x6 =>
      (right_together F x6) >>= fun x7 =>
      (app 8 y1 ([x7] : List Int)) >>= fun x8 =>
      right_CheckConflicts_l1 F x1 m x8 (w64 (y2 + 1))
    else
      some y1

def right_CheckConflicts (F : Nat) (x0 : (Int × (List Int) × (List ((List Int) × Int)) × (List ((List Int) × Int)) × (List (List Int)))) (x1 : (List (List Int))) : Option (Int × Int) :=
  (right_newTreaty F (x0.1, x0.2.1, x0.2.2.1, x0.2.2.2.1, x0.2.2.2.2)) >>= fun x3 =>
  if (!decide (x3.2 = 0)) = true then
    some (0, x3.2)
  else
    if (decide (4096 < (x1.length : Int))) = true then
      some (0, 6)
    else
      (slices_ContainsFunc__int F x1 (fun y => right_CheckConflicts_1 F y (x0.1, x0.2.1, x0.2.2.1, x0.2.2.2.1, x0.2.2.2.2))) >>= fun x4 =>
      if x4 = true then
        some (0, 3)
      else
        (slices_ContainsFunc__int F x1 (fun y => right_CheckConflicts_2 F y x3.1)) >>= fun x5 =>
        if x5 = true then
          some (0, 14)
        else
          ((right_CheckConflicts_l1 F x1 F ([]) 0) >>= fun z1 =>
          (right_refused F z1 (x0.2.2.2.1.length : Int)) >>= fun x9 =>
          (right_numbers F x9) >>= fun x10 =>
          some ((x10.length : Int), 0))

-- 32 mandrel/right.Check
def right_Check (F : Nat) (x0 : (Int × (List Int) × (List ((List Int) × Int)) × (List ((List Int) × Int)) × (List (List Int)))) (x1 : (List Int)) : Option Int :=
  (right_open F (x0.1, x0.2.1, x0.2.2.1, x0.2.2.2.1, x0.2.2.2.2) x1) >>= fun x3 =>
  if (!decide (x3.2.2 = 0)) = true then
    some x3.2.2
  else
    (x3.1.v) >>= fun x4 =>
    (right_treaty_safe F ((x4.1.1, x4.1.2.1, x4.1.2.2.1, x4.1.2.2.2.1, x4.1.2.2.2.2), x4.2.1, x4.2.2.1, x4.2.2.2) x3.2.1) >>= fun x5 =>
    if (!x5) = true then
      some 23
    else
      some 0

-- 33 mandrel/right.Holds
def right_Holds (F : Nat) (x0 : (Int × (List Int) × (List ((List Int) × Int)) × (List ((List Int) × Int)) × (List (List Int)))) (x1 : (List Int)) : Option ((List Int) × Int) :=
  (right_open F (x0.1, x0.2.1, x0.2.2.1, x0.2.2.2.1, x0.2.2.2.2) x1) >>= fun x3 =>
  if (!decide (x3.2.2 = 0)) = true then
    some ([], x3.2.2)
  else
    (x3.1.v) >>= fun x4 =>
    (right_treaty_holds F ((x4.1.1, x4.1.2.1, x4.1.2.2.1, x4.1.2.2.2.1, x4.1.2.2.2.2), x4.2.1, x4.2.2.1, x4.2.2.2) x3.2.1) >>= fun x5 =>
    (right_numbers F x5) >>= fun x6 =>
    some (x6, 0)

-- 41 mandrel/right.CheckBook
def right_CheckBook (F : Nat) (x0 : (Int × (List Int) × (List ((List Int) × Int)) × (List ((List Int) × Int)) × (List (List Int)))) : Option Int :=
  (right_newTreaty F (x0.1, x0.2.1, x0.2.2.1, x0.2.2.2.1, x0.2.2.2.2)) >>= fun x2 =>
  some x2.2

-- 21 mandrel/right.Decide
def right_Decide_l1 (F : Nat) (x0 : (Int × (List Int) × (List ((List Int) × Int)) × (List ((List Int) × Int)) × (List (List Int)))) (x2 : ((Ob ((Int × (List Int) × (List ((List Int) × Int)) × (List ((List Int) × Int)) × (List (List Int))) × Int × (List ((Bool × Int) × Int × Int)) × (List Int))) × Int)) : Nat → Int → (List Int) → Int → Option ((List Int))
  | 0, _, _, _ => none
  | m + 1, y1, y2, y3 =>
    if (decide (y3 < (x0.2.2.2.1.length : Int))) = true then
      (shl .i64 1 y3) >>= fun x3 =>
      (x2.1.v) >>= fun x4 =>
      (right_treaty_broken F ((x4.1.1, x4.1.2.1, x4.1.2.2.1, x4.1.2.2.2.1, x4.1.2.2.2.2), x4.2.1, x4.2.2.1, x4.2.2.2) (bor .i64 y1 x3)) >>= fun x5 =>
      ((if (decide (x5 < 0)) = true then
        some (bor .i64 y1 x3)
      else
        some y1 : Option (Int)) >>= fun y4 =>
      (app 8 y2 ([x5] : List Int)) >>= fun x6 =>
      right_Decide_l1 F x0 x2 m y4 x6 (w64 (y3 + 1)))
    else
      some y2

def right_Decide (F : Nat) (x0 : (Int × (List Int) × (List ((List Int) × Int)) × (List ((List Int) × Int)) × (List (List Int)))) : Option ((List Int) × Int) :=
  (right_newTreaty F (x0.1, x0.2.1, x0.2.2.1, x0.2.2.2.1, x0.2.2.2.2)) >>= fun x2 =>
  if (!decide (x2.2 = 0)) = true then
    some ([], x2.2)
  else
    ((right_Decide_l1 F x0 x2 F 0 ([]) 0) >>= fun z1 =>
    some (z1, 0))

-- 24 mandrel/right.Fewest
def right_Fewest_l2 (F : Nat) (x2 : ((Ob ((Int × (List Int) × (List ((List Int) × Int)) × (List ((List Int) × Int)) × (List (List Int))) × Int × (List ((Bool × Int) × Int × Int)) × (List Int))) × Int)) : List Int → Option (Sum ((List Int) × Int) (Unit))
  | [] => some (.inr ())
  | x4 :: us =>
    (x2.1.v) >>= fun x5 =>
    (right_treaty_safe F ((x5.1.1, x5.1.2.1, x5.1.2.2.1, x5.1.2.2.2.1, x5.1.2.2.2.2), x5.2.1, x5.2.2.1, x5.2.2.2) x4) >>= fun x6 =>
    if x6 = true then
      (right_numbers F x4) >>= fun x7 =>
      some (.inl (x7, 0))
    else
      right_Fewest_l2 F x2 us 

def right_Fewest_l1 (F : Nat) (x0 : (Int × (List Int) × (List ((List Int) × Int)) × (List ((List Int) × Int)) × (List (List Int)))) (x2 : ((Ob ((Int × (List Int) × (List ((List Int) × Int)) × (List ((List Int) × Int)) × (List (List Int))) × Int × (List ((Bool × Int) × Int × Int)) × (List Int))) × Int)) : Nat → Int → Option (Sum ((List Int) × Int) (Unit))
  | 0, _ => none
  | m + 1, y1 =>
    if (decide (0 < y1)) = true then
      (right_lists (x0.2.2.2.1.length : Int) y1) >>= fun x3 =>
      ((right_Fewest_l2 F x2 x3) >>= fun o => match o with
        | .inl r => some (.inl r)
        | .inr () =>
          right_Fewest_l1 F x0 x2 m (w64 (y1 - 1)))
    else
      some (.inr ())

def right_Fewest (F : Nat) (x0 : (Int × (List Int) × (List ((List Int) × Int)) × (List ((List Int) × Int)) × (List (List Int)))) : Option ((List Int) × Int) :=
  (right_newTreaty F (x0.1, x0.2.1, x0.2.2.1, x0.2.2.2.1, x0.2.2.2.2)) >>= fun x2 =>
  if (!decide (x2.2 = 0)) = true then
    some ([], x2.2)
  else
    ((right_Fewest_l1 F x0 x2 F (x0.2.2.2.1.length : Int)) >>= fun o => match o with
      | .inl r => some r
      | .inr () =>
        some ([], 0))

-- 28 mandrel/right.Conflicts
def right_Conflicts_l2 (F : Nat) (x0 : (Int × (List Int) × (List ((List Int) × Int)) × (List ((List Int) × Int)) × (List (List Int)))) (x5 : ((Int × (List Int) × (List ((List Int) × Int)) × (List ((List Int) × Int)) × (List (List Int))) × Int × (List ((Bool × Int) × Int × Int)) × (List Int))) : Nat → Int → Int → Option (Int)
  | 0, _, _ => none
  | m + 1, y2, y3 =>
    if (decide (y3 < (x0.2.2.2.1.length : Int))) = true then
      (((shl .i64 1 y3) >>= fun x7 =>
      (right_treaty_safe F ((x5.1.1, x5.1.2.1, x5.1.2.2.1, x5.1.2.2.2.1, x5.1.2.2.2.2), x5.2.1, x5.2.2.1, x5.2.2.2) (bandn .i64 y2 x7)) >>= fun x8 =>
      ((if (!x8) = true then
        some (bandn .i64 y2 x7)
      else
        some y2 : Option (Int)) >>= fun y5 =>
      some y5) : Option (Int)) >>= fun y4 =>
      right_Conflicts_l2 F x0 x5 m y4 (w64 (y3 + 1)))
    else
      some y2

def right_Conflicts_l1 (F : Nat) (x0 : (Int × (List Int) × (List ((List Int) × Int)) × (List ((List Int) × Int)) × (List (List Int)))) (x2 : ((Ob ((Int × (List Int) × (List ((List Int) × Int)) × (List ((List Int) × Int)) × (List (List Int))) × Int × (List ((Bool × Int) × Int × Int)) × (List Int))) × Int)) : Nat → (List Int) → Option ((List Int))
  | 0, _ => none
  | m + 1, y1 =>
    (shl .i64 1 (x0.2.2.2.1.length : Int)) >>= fun x3 =>
    (right_refused F y1 (x0.2.2.2.1.length : Int)) >>= fun x4 =>
    (x2.1.v) >>= fun x5 =>
    (right_treaty_safe F ((x5.1.1, x5.1.2.1, x5.1.2.2.1, x5.1.2.2.2.1, x5.1.2.2.2.2), x5.2.1, x5.2.2.1, x5.2.2.2) (bandn .i64 (w64 (x3 - 1)) x4)) >>= fun x6 =>
    if x6 = true then
      some y1
    else
      ((right_Conflicts_l2 F x0 x5 F (bandn .i64 (w64 (x3 - 1)) x4) 0) >>= fun z2 =>
      (app 8 y1 ([z2] : List Int)) >>= fun x9 =>
      right_Conflicts_l1 F x0 x2 m x9)

def right_Conflicts_l3 (F : Nat) (z1 : (List Int)) : Nat → (List (List Int)) → Int → Option ((List (List Int)))
  | 0, _, _ => none
  | m + 1, y6, y7 =>
    if (decide (y7 < (z1.length : Int))) = true then
      (ix z1 y7) >>= fun x10 =>
      (right_numbers F x10) >>= fun x11 =>
      (app 24 y6 ([x11] : List (List Int))) >>= fun x12 =>
      right_Conflicts_l3 F z1 m x12 (w64 (y7 + 1))
    else
      some y6

def right_Conflicts (F : Nat) (x0 : (Int × (List Int) × (List ((List Int) × Int)) × (List ((List Int) × Int)) × (List (List Int)))) : Option ((List (List Int)) × Int) :=
  (right_newTreaty F (x0.1, x0.2.1, x0.2.2.1, x0.2.2.2.1, x0.2.2.2.2)) >>= fun x2 =>
  if (!decide (x2.2 = 0)) = true then
    some ([], x2.2)
  else
    ((right_Conflicts_l1 F x0 x2 F ([])) >>= fun z1 =>
    ((right_Conflicts_l3 F z1 F ([]) 0) >>= fun z3 =>
    some (z3, 0)))
end Go.Proofs.Ytdimoehnkagghaa
