/-
  Pure functions, one for each function of the program, as a program of our own printed them. No condition: definitions.
-/
import Derived.Test.YtboefnpnoojfpaaCopy
import Derived.Test.YtboefnpnoojfpaaMapw
import Derived.Test.YtboefnpnoojfpaaPureA
namespace Go.Proofs.Ytboefnpnoojfpaa
open Go Go.Md Go.RowKit

-- 21 mandrel/mandrelref11.Fewest
def ref11_Fewest (F : Nat) (x0 : ((List Int) × (List ((List Int) × (List Int))))) (x1 : (List Int)) (x2 : (List Int)) : Option (Int × Int) :=
  (ref11_Two F (x0.1, x0.2) x1 x2) >>= fun x4 =>
  if (!decide (x4 = 0)) = true then
    (ref11_Two F (x0.1, x0.2) x1 x2) >>= fun x5 =>
    some (0, x5)
  else
    (ref11_Far F (x0.1, x0.2) x1) >>= fun x6 =>
    (ref11_index F (x0.1, x0.2) x2) >>= fun x7 =>
    (ix x6 x7) >>= fun x8 =>
    if (decide (x8 < 0)) = true then
      some (0, 13)
    else
      some (x8, 0)

-- 23 mandrel/mandrelref11.Stocks
def ref11_Stocks_l1 (F : Nat) (x5 : (List Int)) : Nat → Int → Int → Option (Int)
  | 0, _, _ => none
  | m + 1, y1, y2 =>
    if (decide (y2 < (x5.length : Int))) = true then
      (((ix x5 y2) >>= fun x6 =>
      ((if (decide (0 ≤ x6)) = true then
        some (w64 (y1 + 1))
      else
        some y1 : Option (Int)) >>= fun y4 =>
      some y4) : Option (Int)) >>= fun y3 =>
      ref11_Stocks_l1 F x5 m y3 (w64 (y2 + 1)))
    else
      some y1

def ref11_Stocks (F : Nat) (x0 : ((List Int) × (List ((List Int) × (List Int))))) (x1 : (List Int)) : Option (Int × Int) :=
  (ref11_One F (x0.1, x0.2) x1) >>= fun x3 =>
  if (!decide (x3 = 0)) = true then
    (ref11_One F (x0.1, x0.2) x1) >>= fun x4 =>
    some (0, x4)
  else
    (ref11_Far F (x0.1, x0.2) x1) >>= fun x5 =>
    ((ref11_Stocks_l1 F x5 F 0 0) >>= fun z1 =>
    some (z1, 0))

-- 25 mandrel/mandrelref11.Most
def ref11_Most_l1 (F : Nat) (x0 : ((List Int) × (List ((List Int) × (List Int))))) (x2 : Int) (x6 : (List Int)) : Nat → Int → Int → Int → Option (Int × Int)
  | 0, _, _, _ => none
  | m + 1, y1, y2, y3 =>
    if (decide (y3 < (x6.length : Int))) = true then
      (((ref11_stock F (x0.1, x0.2) y3) >>= fun x7 =>
      (ix x7 x2) >>= fun x8 =>
      (((ix x6 y3) >>= fun x10 =>
      if (decide (0 ≤ x10)) = true then
        if (decide (y1 < x8)) = true then
          some true
        else
          if (decide (x8 = y1)) = true then
            (ix x6 y3) >>= fun x11 =>
            some (decide (x11 < y2))
          else
            some false
      else
        some false : Option (Bool)) >>= fun y6 =>
      ((if y6 = true then
        (ix x6 y3) >>= fun x12 =>
        some (x8, x12)
      else
        some (y1, y2) : Option (Int × Int)) >>= fun (y7, y8) =>
      some (y7, y8))) : Option (Int × Int)) >>= fun (y4, y5) =>
      ref11_Most_l1 F x0 x2 x6 m y4 y5 (w64 (y3 + 1)))
    else
      some (y1, y2)

def ref11_Most (F : Nat) (x0 : ((List Int) × (List ((List Int) × (List Int))))) (x1 : (List Int)) (x2 : Int) : Option (Int × Int × Int) :=
  (ref11_One F (x0.1, x0.2) x1) >>= fun x4 =>
  if (!decide (x4 = 0)) = true then
    (ref11_One F (x0.1, x0.2) x1) >>= fun x5 =>
    some (0, 0, x5)
  else
    if ((decide (x2 < 0)) || (decide ((x0.1.length : Int) ≤ x2))) = true then
      some (0, 0, 2)
    else
      (ref11_Far F (x0.1, x0.2) x1) >>= fun x6 =>
      ((ref11_Most_l1 F x0 x2 x6 F (-1) 0 0) >>= fun (z1, z2) =>
      some (z1, z2, 0))

-- 28 mandrel/mandrelref11.Still
def ref11_Still_l1 (F : Nat) (x0 : ((List Int) × (List ((List Int) × (List Int))))) (x1 : (List Int)) : Nat → Int → Option (Sum Bool (Unit))
  | 0, _ => none
  | m + 1, y1 =>
    if (decide (y1 < (x0.2.length : Int))) = true then
      (ref11_after F (x0.1, x0.2) x1 y1) >>= fun x3 =>
      if x3.2 = true then
        some (.inl false)
      else
        ref11_Still_l1 F x0 x1 m (w64 (y1 + 1))
    else
      some (.inr ())

def ref11_Still (F : Nat) (x0 : ((List Int) × (List ((List Int) × (List Int))))) (x1 : (List Int)) : Option Bool :=
  ((ref11_Still_l1 F x0 x1 F 0) >>= fun o => match o with
    | .inl r => some r
    | .inr () =>
      some true)

-- 27 mandrel/mandrelref11.Stuck
def ref11_Stuck_l1 (F : Nat) (x0 : ((List Int) × (List ((List Int) × (List Int))))) (x5 : (List Int)) : Nat → Int → Int → Option (Int)
  | 0, _, _ => none
  | m + 1, y1, y2 =>
    if (decide (y2 < (x5.length : Int))) = true then
      (((((ix x5 y2) >>= fun x8 =>
      if (decide (0 ≤ x8)) = true then
        (ref11_stock F (x0.1, x0.2) y2) >>= fun x9 =>
        (ref11_Still F (x0.1, x0.2) x9) >>= fun x10 =>
        if x10 = true then
          if (decide (y1 < 0)) = true then
            some true
          else
            (ix x5 y2) >>= fun x11 =>
            some (decide (x11 < y1))
        else
          some false
      else
        if false = true then
          if (decide (y1 < 0)) = true then
            some true
          else
            (ix x5 y2) >>= fun x12 =>
            some (decide (x12 < y1))
        else
          some false : Option (Bool)) >>= fun y4 =>
      ((if y4 = true then
        (ix x5 y2) >>= fun x13 =>
        some x13
      else
        some y1 : Option (Int)) >>= fun y5 =>
      some y5)) : Option (Int)) >>= fun y3 =>
      ref11_Stuck_l1 F x0 x5 m y3 (w64 (y2 + 1)))
    else
      some y1

def ref11_Stuck (F : Nat) (x0 : ((List Int) × (List ((List Int) × (List Int))))) (x1 : (List Int)) : Option (Int × Int) :=
  (ref11_One F (x0.1, x0.2) x1) >>= fun x3 =>
  if (!decide (x3 = 0)) = true then
    (ref11_One F (x0.1, x0.2) x1) >>= fun x4 =>
    some (0, x4)
  else
    (ref11_Far F (x0.1, x0.2) x1) >>= fun x5 =>
    ((ref11_Stuck_l1 F x0 x5 F (-1) 0) >>= fun z1 =>
    if (decide (z1 < 0)) = true then
      some (0, 5)
    else
      some (z1, 0))

-- 29 mandrel/mandrellaw11.fine
def law11_fine (F : Nat) (x0 : ((List Int) × (List ((List Int) × (List Int))))) (x1 : (List Int)) : Option Bool :=
  (law11_great F (x0.1, x0.2)) >>= fun x3 =>
  (gd ((!x3) && (decide ((x1.length : Int) ≤ 10))) (ref11_One F (x0.1, x0.2) x1) 0) >>= fun x4 =>
  (gd (((!x3) && (decide ((x1.length : Int) ≤ 10))) && (decide (x4 = 0))) (ref11_Many F (x0.1, x0.2)) 0) >>= fun x5 =>
  some ((((!x3) && (decide ((x1.length : Int) ≤ 10))) && (decide (x4 = 0))) && (decide (x5 ≤ 300)))

-- 30 mandrel/mandrellaw11.Walk
def law11_Walk_l2 (F : Nat) (x0 : ((List Int) × (List ((List Int) × (List Int))))) (x4 : ((List Int) × Int)) : Nat → (List Int) → Int → Option ((List Int))
  | 0, _, _ => none
  | m + 1, y3, y4 =>
    if (decide (y4 < (x0.2.length : Int))) = true then
      (((ref11_Make F (x0.1, x0.2) x4.1 ([y4] : List Int)) >>= fun x5 =>
      ((if (decide (x5.2 = 0)) = true then
        (app 8 y3 ([y4] : List Int)) >>= fun x6 =>
        some x6
      else
        some y3 : Option ((List Int))) >>= fun y6 =>
      some y6) : Option ((List Int))) >>= fun y5 =>
      law11_Walk_l2 F x0 x4 m y5 (w64 (y4 + 1)))
    else
      some y3

def law11_Walk_l1 (F : Nat) (x0 : ((List Int) × (List ((List Int) × (List Int))))) (x1 : (List Int)) (x2 : (List (KI .u8))) : Nat → (List Int) → Int → Option (Sum (List Int) ((List Int)))
  | 0, _, _ => none
  | m + 1, y1, y2 =>
    if (decide (y2 < (x2.length : Int))) = true then
      (ref11_Make F (x0.1, x0.2) x1 y1) >>= fun x4 =>
      ((law11_Walk_l2 F x0 x4 F ([]) 0) >>= fun z2 =>
      if (decide ((z2.length : Int) = 0)) = true then
        some (.inl y1)
      else
        (ix x2 y2) >>= fun x7 =>
        (rem (w64 x7.v) (z2.length : Int)) >>= fun x8 =>
        (ix z2 x8) >>= fun x9 =>
        (app 8 y1 ([x9] : List Int)) >>= fun x10 =>
        law11_Walk_l1 F x0 x1 x2 m x10 (w64 (y2 + 1)))
    else
      some (.inr y1)

def law11_Walk (F : Nat) (x0 : ((List Int) × (List ((List Int) × (List Int))))) (x1 : (List Int)) (x2 : (List (KI .u8))) : Option (List Int) :=
  ((law11_Walk_l1 F x0 x1 x2 F ([]) 0) >>= fun o => match o with
    | .inl r => some r
    | .inr z1 =>
      some z1)

-- 67 mandrel/bath.sum
def bath_sum_l1 (F : Nat) (x0 : (List Int)) (x1 : (List Int)) : Nat → Int → Int → Option (Int)
  | 0, _, _ => none
  | m + 1, y1, y2 =>
    if (decide (y2 < (x0.length : Int))) = true then
      (ix x0 y2) >>= fun x3 =>
      (ix x1 y2) >>= fun x4 =>
      bath_sum_l1 F x0 x1 m (w64 (y1 + (w64 (x3 * x4)))) (w64 (y2 + 1))
    else
      some y1

def bath_sum (F : Nat) (x0 : (List Int)) (x1 : (List Int)) : Option Int :=
  ((bath_sum_l1 F x0 x1 F 0 0) >>= fun z1 =>
  some z1)

-- 66 mandrel/bath.CheckWeights$1
def bath_CheckWeights_1 (F : Nat) (x0 : ((List Int) × (List Int))) (x1 : (List Int)) : Option Bool :=
  (bath_sum F x1 x0.1) >>= fun x3 =>
  (bath_sum F x1 x0.2) >>= fun x4 =>
  some (!decide (x3 = x4))

-- 33 mandrel/bath.CheckWeights
def bath_CheckWeights (F : Nat) (x0 : ((List Int) × (List ((List Int) × (List Int))))) (x1 : (List Int)) : Option Int :=
  (bath_CheckBath F (x0.1, x0.2)) >>= fun x3 =>
  if (!decide (x3 = 0)) = true then
    some x3
  else
    if (!decide ((x1.length : Int) = (x0.1.length : Int))) = true then
      some 15
    else
      (bath_within F (-1048576) 1048576 x1) >>= fun x4 =>
      if (!x4) = true then
        some 3
      else
        (slices_ContainsFunc_api_BathMove F x0.2 (fun y => bath_CheckWeights_1 F y x1)) >>= fun x5 =>
        if x5 = true then
          some 14
        else
          some 0

-- 34 mandrel/mandrelref11.Sum
def ref11_Sum_l1 (F : Nat) (x0 : (List Int)) (x1 : (List Int)) : Nat → Int → Int → Option (Int)
  | 0, _, _ => none
  | m + 1, y1, y2 =>
    if (decide (y2 < (x0.length : Int))) = true then
      (ix x0 y2) >>= fun x3 =>
      (ix x1 y2) >>= fun x4 =>
      ref11_Sum_l1 F x0 x1 m (w64 (y1 + (w64 (x3 * x4)))) (w64 (y2 + 1))
    else
      some y1

def ref11_Sum (F : Nat) (x0 : (List Int)) (x1 : (List Int)) : Option Int :=
  ((ref11_Sum_l1 F x0 x1 F 0 0) >>= fun z1 =>
  some z1)

-- 68 mandrel/mandrelref11.small
def ref11_small_l1 (F : Nat) (x0 : (List Int)) : Nat → Int → Option (Sum Bool (Unit))
  | 0, _ => none
  | m + 1, y1 =>
    if (decide (y1 < (x0.length : Int))) = true then
      (((ix x0 y1) >>= fun x3 =>
      if (decide (x3 < (-1048576))) = true then
        some true
      else
        (ix x0 y1) >>= fun x4 =>
        some (decide (1048576 < x4)) : Option (Bool)) >>= fun y2 =>
      if y2 = true then
        some (.inl false)
      else
        ref11_small_l1 F x0 m (w64 (y1 + 1)))
    else
      some (.inr ())

def ref11_small (F : Nat) (x0 : (List Int)) : Option Bool :=
  ((ref11_small_l1 F x0 F 0) >>= fun o => match o with
    | .inl r => some r
    | .inr () =>
      some true)

-- 37 mandrel/mandrelref11.CheckWeights
def ref11_CheckWeights_l1 (F : Nat) (x0 : ((List Int) × (List ((List Int) × (List Int))))) (x1 : (List Int)) : Nat → Int → Option (Sum Int (Unit))
  | 0, _ => none
  | m + 1, y1 =>
    if (decide (y1 < (x0.2.length : Int))) = true then
      (ix x0.2 y1) >>= fun x6 =>
      (ix x0.2 y1) >>= fun x7 =>
      (ref11_Sum F x1 x6.1) >>= fun x8 =>
      (ref11_Sum F x1 x7.2) >>= fun x9 =>
      if (!decide (x8 = x9)) = true then
        some (.inl 14)
      else
        ref11_CheckWeights_l1 F x0 x1 m (w64 (y1 + 1))
    else
      some (.inr ())

def ref11_CheckWeights (F : Nat) (x0 : ((List Int) × (List ((List Int) × (List Int))))) (x1 : (List Int)) : Option Int :=
  (ref11_CheckBath F (x0.1, x0.2)) >>= fun x3 =>
  if (!decide (x3 = 0)) = true then
    (ref11_CheckBath F (x0.1, x0.2)) >>= fun x4 =>
    some x4
  else
    if (!decide ((x1.length : Int) = (x0.1.length : Int))) = true then
      some 15
    else
      (ref11_small F x1) >>= fun x5 =>
      if (!x5) = true then
        some 3
      else
        ((ref11_CheckWeights_l1 F x0 x1 F 0) >>= fun o => match o with
          | .inl r => some r
          | .inr () =>
            some 0)

-- 35 mandrel/mandrellaw11.parts
def law11_parts (F : Nat) (x0 : ((List Int) × (List ((List Int) × (List Int))))) (x1 : (List Int)) (x2 : (List Int)) (x3 : (List Int)) : Option Bool :=
  (ref11_CheckWeights F (x0.1, x0.2) x1) >>= fun x5 =>
  (gd (decide (x5 = 0)) (ref11_Sum F x1 x2) 0) >>= fun x6 =>
  (gd (decide (x5 = 0)) (ref11_Sum F x1 x3) 0) >>= fun x7 =>
  some ((decide (x5 = 0)) && (!decide (x6 = x7)))

-- 36 mandrel/mandrellaw11.back
def law11_back_l1 (F : Nat) (x0 : ((List Int) × (List ((List Int) × (List Int))))) : Nat → Int → ((List Int) × (List ((List Int) × (List Int)))) → Option (((List Int) × (List ((List Int) × (List Int)))))
  | 0, _, _ => none
  | m + 1, y1, y2 =>
    if (decide (y1 < (x0.2.length : Int))) = true then
      (ix x0.2 y1) >>= fun x2 =>
      (ix x0.2 y1) >>= fun x3 =>
      (app 48 y2.2 ([(x2.2, x3.1)] : List ((List Int) × (List Int)))) >>= fun x4 =>
      law11_back_l1 F x0 m (w64 (y1 + 1)) (x0.1, x4)
    else
      some (x0.1, y2.2)

def law11_back (F : Nat) (x0 : ((List Int) × (List ((List Int) × (List Int))))) : Option ((List Int) × (List ((List Int) × (List Int)))) :=
  ((law11_back_l1 F x0 F 0 (x0.1, [])) >>= fun z1 =>
  some (x0.1, z1.2))

-- 38 mandrel/bath.CheckMix
def bath_CheckMix_l2 (F : Nat) (x0 : ((List Int) × (List ((List Int) × (List Int))))) (x3 : ((List Int) × Int)) (y1 : Int) : Nat → Int → Int → Option (Int)
  | 0, _, _ => none
  | m + 1, y2, y3 =>
    if (decide (y3 < (x0.2.length : Int))) = true then
      (ix x0.2 y3) >>= fun x10 =>
      (ix x3.1 y3) >>= fun x11 =>
      (ix x10.2 y1) >>= fun x12 =>
      (ix x10.1 y1) >>= fun x13 =>
      bath_CheckMix_l2 F x0 x3 y1 m (w64 (y2 + (w64 (x11 * (w64 (x12 - x13)))))) (w64 (y3 + 1))
    else
      some y2

def bath_CheckMix_l1 (F : Nat) (x0 : ((List Int) × (List ((List Int) × (List Int))))) (x1 : (List Int)) (x2 : (List Int)) (x3 : ((List Int) × Int)) : Nat → Int → Option (Sum Int (Unit))
  | 0, _ => none
  | m + 1, y1 =>
    if (decide (y1 < (x0.1.length : Int))) = true then
      (ix x1 y1) >>= fun x8 =>
      (ix x2 y1) >>= fun x9 =>
      ((bath_CheckMix_l2 F x0 x3 y1 F (w64 (x3.2 * (w64 (x8 - x9)))) 0) >>= fun z1 =>
      if (!decide (z1 = 0)) = true then
        some (.inl 14)
      else
        bath_CheckMix_l1 F x0 x1 x2 x3 m (w64 (y1 + 1)))
    else
      some (.inr ())

def bath_CheckMix (F : Nat) (x0 : ((List Int) × (List ((List Int) × (List Int))))) (x1 : (List Int)) (x2 : (List Int)) (x3 : ((List Int) × Int)) : Option Int :=
  (bath_open F (x0.1, x0.2) ([x1, x2] : List (List Int))) >>= fun x5 =>
  if (!decide (x5.2.2 = 0)) = true then
    some x5.2.2
  else
    if (!decide ((x3.1.length : Int) = (x0.2.length : Int))) = true then
      some 15
    else
      (bath_within F (-1048576) 1048576 x3.1) >>= fun x6 =>
      (gd (!(!x6)) (bath_within F 1 1048576 ([x3.2] : List Int)) false) >>= fun x7 =>
      if ((!x6) || (!x7)) = true then
        some 3
      else
        ((bath_CheckMix_l1 F x0 x1 x2 x3 F 0) >>= fun o => match o with
          | .inl r => some r
          | .inr () =>
            some 0)

-- 39 mandrel/mandrelref11.CheckMix
def ref11_CheckMix_l2 (F : Nat) (x0 : ((List Int) × (List ((List Int) × (List Int))))) (x3 : ((List Int) × Int)) (y1 : Int) : Nat → Int → Int → Option (Int)
  | 0, _, _ => none
  | m + 1, y2, y3 =>
    if (decide (y3 < (x0.2.length : Int))) = true then
      (ix x3.1 y3) >>= fun x8 =>
      (ix x0.2 y3) >>= fun x9 =>
      (ix x9.2 y1) >>= fun x10 =>
      (ix x0.2 y3) >>= fun x11 =>
      (ix x11.1 y1) >>= fun x12 =>
      ref11_CheckMix_l2 F x0 x3 y1 m (w64 (y2 + (w64 (x8 * (w64 (x10 - x12)))))) (w64 (y3 + 1))
    else
      some y2

def ref11_CheckMix_l1 (F : Nat) (x0 : ((List Int) × (List ((List Int) × (List Int))))) (x1 : (List Int)) (x2 : (List Int)) (x3 : ((List Int) × Int)) : Nat → Int → Option (Sum Int (Unit))
  | 0, _ => none
  | m + 1, y1 =>
    if (decide (y1 < (x1.length : Int))) = true then
      ((ref11_CheckMix_l2 F x0 x3 y1 F 0 0) >>= fun z1 =>
      (ix x2 y1) >>= fun x13 =>
      (ix x1 y1) >>= fun x14 =>
      if (!decide (z1 = (w64 (x3.2 * (w64 (x13 - x14)))))) = true then
        some (.inl 14)
      else
        ref11_CheckMix_l1 F x0 x1 x2 x3 m (w64 (y1 + 1)))
    else
      some (.inr ())

def ref11_CheckMix (F : Nat) (x0 : ((List Int) × (List ((List Int) × (List Int))))) (x1 : (List Int)) (x2 : (List Int)) (x3 : ((List Int) × Int)) : Option Int :=
  (ref11_Two F (x0.1, x0.2) x1 x2) >>= fun x5 =>
  if (!decide (x5 = 0)) = true then
    (ref11_Two F (x0.1, x0.2) x1 x2) >>= fun x6 =>
    some x6
  else
    if (!decide ((x3.1.length : Int) = (x0.2.length : Int))) = true then
      some 15
    else
      (ref11_small F x3.1) >>= fun x7 =>
      if (((!x7) || (decide (x3.2 < 1))) || (decide (1048576 < x3.2))) = true then
        some 3
      else
        ((ref11_CheckMix_l1 F x0 x1 x2 x3 F 0) >>= fun o => match o with
          | .inl r => some r
          | .inr () =>
            some 0)

-- 43 mandrel/mandrellaw11.Bath
def law11_Bath  : Option ((List Int) × (List ((List Int) × (List Int)))) :=
  some (([6, 3, 6] : List Int), ([(([2, 0, 0] : List Int), ([0, 1, 0] : List Int)), (([1, 1, 0] : List Int), ([0, 1, 1] : List Int)), (([0, 1, 0] : List Int), ([2, 0, 0] : List Int))] : List ((List Int) × (List Int))))

-- 44 mandrel/mandrellaw11.ints
def law11_ints_l1 (F : Nat) (x0 : (List Int)) (x1 : (List Int)) : Nat → Int → Option (Sum Bool (Unit))
  | 0, _ => none
  | m + 1, y1 =>
    if (decide (y1 < (x0.length : Int))) = true then
      (ix x0 y1) >>= fun x3 =>
      (ix x1 y1) >>= fun x4 =>
      if (!decide (x3 = x4)) = true then
        some (.inl false)
      else
        law11_ints_l1 F x0 x1 m (w64 (y1 + 1))
    else
      some (.inr ())

def law11_ints (F : Nat) (x0 : (List Int)) (x1 : (List Int)) : Option Bool :=
  if (!decide ((x0.length : Int) = (x1.length : Int))) = true then
    some false
  else
    ((law11_ints_l1 F x0 x1 F 0) >>= fun o => match o with
      | .inl r => some r
      | .inr () =>
        some true)

-- 63 (*mandrel/bath.shop).still
def bath_shop_still_l1 (F : Nat) (x0 : (((List Int) × (List ((List Int) × (List Int)))) × Opq)) (x1 : (Ar 5 Int)) : Nat → Int → Option (Sum Bool (Unit))
  | 0, _ => none
  | m + 1, y1 =>
    if (decide (y1 < (x0.1.2.length : Int))) = true then
      (bath_shop_after F ((x0.1.1, x0.1.2), Opq.mk) x1 y1) >>= fun x3 =>
      if x3.2 = true then
        some (.inl false)
      else
        bath_shop_still_l1 F x0 x1 m (w64 (y1 + 1))
    else
      some (.inr ())

def bath_shop_still (F : Nat) (x0 : (((List Int) × (List ((List Int) × (List Int)))) × Opq)) (x1 : (Ar 5 Int)) : Option Bool :=
  ((bath_shop_still_l1 F x0 x1 F 0) >>= fun o => match o with
    | .inl r => some r
    | .inr () =>
      some true)

-- 79 mandrel/mandrelref11.common
def ref11_common_l1 (F : Nat) : Nat → Int → Int → Option (Int)
  | 0, _, _ => none
  | m + 1, y3, y4 =>
    if (!decide (y4 = 0)) = true then
      (rem y3 y4) >>= fun x3 =>
      ref11_common_l1 F m y4 x3
    else
      some y3

def ref11_common (F : Nat) (x0 : Int) (x1 : Int) : Option Int :=
  ((if (decide (x0 < 0)) = true then
    some (w64 (0 - x0))
  else
    some x0 : Option (Int)) >>= fun y1 =>
  ((if (decide (x1 < 0)) = true then
    some (w64 (0 - x1))
  else
    some x1 : Option (Int)) >>= fun y2 =>
  ((ref11_common_l1 F F y1 y2) >>= fun z1 =>
  some z1)))

-- 69 mandrel/mandrelref11.rank
def ref11_rank_l2 (F : Nat) (x2 : (List Int)) : Nat → Int → Int → Option (Int)
  | 0, _, _ => none
  | m + 1, y5, y6 =>
    if (decide (y6 < (x2.length : Int))) = true then
      ((((if (decide (y5 < 0)) = true then
        (ix x2 y6) >>= fun x4 =>
        some (!decide (x4 = 0))
      else
        some false : Option (Bool)) >>= fun y8 =>
      ((if y8 = true then
        some y6
      else
        some y5 : Option (Int)) >>= fun y9 =>
      some y9)) : Option (Int)) >>= fun y7 =>
      ref11_rank_l2 F x2 m y7 (w64 (y6 + 1)))
    else
      some y5

def ref11_rank_l4 (F : Nat) (x2 : (List Int)) (x3 : (List (List Int))) (y11 : Int) (z2 : Int) : Nat → (List Int) → Int → Int → Option ((List Int) × Int)
  | 0, _, _, _ => none
  | m + 1, y12, y13, y14 =>
    if (decide (y14 < (x2.length : Int))) = true then
      (ix x3 y11) >>= fun x5 =>
      (ix x5 y14) >>= fun x6 =>
      (ix x2 z2) >>= fun x7 =>
      (ix x2 y14) >>= fun x8 =>
      (ix x3 y11) >>= fun x9 =>
      (ix x9 z2) >>= fun x10 =>
      (app 8 y12 ([w64 ((w64 (x6 * x7)) - (w64 (x8 * x10)))] : List Int)) >>= fun x11 =>
      (ref11_common F y13 (w64 ((w64 (x6 * x7)) - (w64 (x8 * x10))))) >>= fun x12 =>
      ref11_rank_l4 F x2 x3 y11 z2 m x11 x12 (w64 (y14 + 1))
    else
      some (y12, y13)

def ref11_rank_l5 (F : Nat) (z5 : Int) : Nat → (List Int) → Int → Option ((List Int))
  | 0, _, _ => none
  | m + 1, y15, y16 =>
    if ((decide (y16 < (y15.length : Int))) && (decide (1 < z5))) = true then
      (ix y15 y16) >>= fun x13 =>
      (quo x13 z5) >>= fun x14 =>
      (ix y15 y16) >>= fun x15 =>
      ref11_rank_l5 F z5 m (rset y15 y16 x14) (w64 (y16 + 1))
    else
      some y15

def ref11_rank_l3 (F : Nat) (x2 : (List Int)) (x3 : (List (List Int))) (z2 : Int) : Nat → (List (List Int)) → Int → Option ((List (List Int)))
  | 0, _, _ => none
  | m + 1, y10, y11 =>
    if (decide (y11 < (x3.length : Int))) = true then
      ((ref11_rank_l4 F x2 x3 y11 z2 F ([]) 0 0) >>= fun (z4, z5) =>
      ((ref11_rank_l5 F z5 F z4 0) >>= fun z6 =>
      (app 24 y10 ([z6] : List (List Int))) >>= fun x16 =>
      ref11_rank_l3 F x2 x3 z2 m x16 (w64 (y11 + 1))))
    else
      some y10

def ref11_rank_l1 (F : Nat) : Nat → (List (List Int)) → Int → Option (Int)
  | 0, _, _ => none
  | m + 1, y1, y2 =>
    if (decide (0 < (y1.length : Int))) = true then
      (((ix y1 0) >>= fun x2 =>
      (sdrop y1 1) >>= fun x3 =>
      ((ref11_rank_l2 F x2 F (-1) 0) >>= fun z2 =>
      if (decide (z2 < 0)) = true then
        some (x3, y2)
      else
        ((ref11_rank_l3 F x2 x3 z2 F ([]) 0) >>= fun z3 =>
        some (z3, w64 (y2 + 1)))) : Option ((List (List Int)) × Int)) >>= fun (y3, y4) =>
      ref11_rank_l1 F m y3 y4)
    else
      some y2

def ref11_rank (F : Nat) (x0 : (List (List Int))) : Option Int :=
  ((ref11_rank_l1 F F x0 0) >>= fun z1 =>
  some z1)

-- 82 mandrel/bath.common[int64]
def bath_common__int64_l1 (F : Nat) : Nat → Int → Int → Option (Int)
  | 0, _, _ => none
  | m + 1, y1, y2 =>
    if (!decide (y2 = 0)) = true then
      (rem y1 y2) >>= fun x3 =>
      bath_common__int64_l1 F m y2 x3
    else
      some y1

def bath_common__int64 (F : Nat) (x0 : Int) (x1 : Int) : Option Int :=
  ((bath_common__int64_l1 F F (if x0 < (w64 (0 - x0)) then (w64 (0 - x0)) else x0) (if x1 < (w64 (0 - x1)) then (w64 (0 - x1)) else x1)) >>= fun z1 =>
  some z1)

-- 81 mandrel/bath.of
def bath_of (F : Nat) (x0 : Int) (x1 : Int) : Option (Int × Int) :=
  ((if (decide (x1 < 0)) = true then
    some (w64 (0 - x0), w64 (0 - x1))
  else
    some (x0, x1) : Option (Int × Int)) >>= fun (y1, y2) =>
  (bath_common__int64 F y1 y2) >>= fun x3 =>
  (quo y1 x3) >>= fun x4 =>
  (quo y2 x3) >>= fun x5 =>
  some (x4, x5))

-- 76 (mandrel/bath.fraction).over
def bath_fraction_over (F : Nat) (x0 : (Int × Int)) (x1 : (Int × Int)) : Option (Int × Int) :=
  (bath_of F (w64 (x0.1 * x1.2)) (w64 (x0.2 * x1.1))) >>= fun x3 =>
  some (x3.1, x3.2)

-- 77 (mandrel/bath.fraction).less
def bath_fraction_less (F : Nat) (x0 : (Int × Int)) (x1 : (Int × Int)) (x2 : (Int × Int)) : Option (Int × Int) :=
  (bath_of F (w64 (x1.1 * x2.1)) (w64 (x1.2 * x2.2))) >>= fun x4 =>
  (bath_common__int64 F x0.2 x4.2) >>= fun x5 =>
  (quo x4.2 x5) >>= fun x6 =>
  (quo x0.2 x5) >>= fun x7 =>
  (quo x0.2 x5) >>= fun x8 =>
  (bath_of F (w64 ((w64 (x0.1 * x6)) - (w64 (x4.1 * x7)))) (w64 (x8 * x4.2))) >>= fun x9 =>
  some (x9.1, x9.2)

-- 78 mandrel/bath.whole
def bath_whole_l1 (F : Nat) (x0 : (List (Int × Int))) : Nat → Int → Int → Option (Int)
  | 0, _, _ => none
  | m + 1, y1, y2 =>
    if (decide (y2 < (x0.length : Int))) = true then
      (ix x0 y2) >>= fun x2 =>
      (bath_common__int64 F y1 x2.2) >>= fun x3 =>
      (quo y1 x3) >>= fun x4 =>
      bath_whole_l1 F x0 m (w64 (x4 * x2.2)) (w64 (y2 + 1))
    else
      some y1

def bath_whole_l2 (F : Nat) (x0 : (List (Int × Int))) (z1 : Int) : Nat → (List Int) → Int → Option ((List Int))
  | 0, _, _ => none
  | m + 1, y3, y4 =>
    if (decide (y4 < (x0.length : Int))) = true then
      (ix x0 y4) >>= fun x5 =>
      (quo z1 x5.2) >>= fun x6 =>
      (app 8 y3 ([w64 (x5.1 * x6)] : List Int)) >>= fun x7 =>
      bath_whole_l2 F x0 z1 m x7 (w64 (y4 + 1))
    else
      some y3

def bath_whole (F : Nat) (x0 : (List (Int × Int))) : Option ((List Int) × Int) :=
  ((bath_whole_l1 F x0 F 1 0) >>= fun z1 =>
  ((bath_whole_l2 F x0 z1 F ([]) 0) >>= fun z2 =>
  some (z2, z1)))
end Go.Proofs.Ytboefnpnoojfpaa
