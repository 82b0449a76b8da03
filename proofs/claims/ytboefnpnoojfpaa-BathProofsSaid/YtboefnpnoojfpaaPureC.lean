/-
  Pure functions, one for each function of the program, as a program of our own printed them. No condition: definitions.
-/
import Derived.Test.YtboefnpnoojfpaaCopy
import Derived.Test.YtboefnpnoojfpaaMapw
import Derived.Test.YtboefnpnoojfpaaPureB
namespace Go.Proofs.Ytboefnpnoojfpaa
open Go Go.Md Go.RowKit

-- 3 mandrel/mandrellaw11.BathBaths
def law11_BathBaths (F : Nat) (x0 : ((List Int) × (List ((List Int) × (List Int))))) (x1 : (List Int)) (x2 : (List Int)) : Option Bool :=
  (law11_great F (x0.1, x0.2)) >>= fun x4 =>
  if (((x4 || (decide (10 < (x1.length : Int)))) || ((decide (200 < (x2.length : Int))) && (decide ((x2.length : Int) ≤ 4096)))) || (decide (4100 < (x2.length : Int)))) = true then
    (law11_Works F) >>= fun x5 =>
    some x5
  else
    (bath_Make F (x0.1, x0.2) x1 x2) >>= fun x6 =>
    (ref11_Make F (x0.1, x0.2) x1 x2) >>= fun x7 =>
    (bath_CheckBath F (x0.1, x0.2)) >>= fun x8 =>
    (ref11_CheckBath F (x0.1, x0.2)) >>= fun x9 =>
    (gd (decide (x8 = x9)) (law11_longs F x6.1 x7.1) false) >>= fun x10 =>
    (gd (((decide (x8 = x9)) && x10) && (decide (x6.2 = x7.2))) (law11_Works F) false) >>= fun x11 =>
    some ((((decide (x8 = x9)) && x10) && (decide (x6.2 = x7.2))) && x11)

-- 4 mandrel/mandrellaw11.BathReaches
def law11_BathReaches (F : Nat) (x0 : ((List Int) × (List ((List Int) × (List Int))))) (x1 : (List Int)) (x2 : (List Int)) (x3 : Int) : Option Bool :=
  (law11_great F (x0.1, x0.2)) >>= fun x5 =>
  (gd (!x5) (law11_large F (x0.1, x0.2)) false) >>= fun x6 =>
  if (((x5 || x6) || (decide (10 < (x1.length : Int)))) || (decide (10 < (x2.length : Int)))) = true then
    (law11_Works F) >>= fun x7 =>
    some x7
  else
    (bath_Reach F (x0.1, x0.2) x1 x2) >>= fun x8 =>
    (ref11_Fewest F (x0.1, x0.2) x1 x2) >>= fun x9 =>
    (bath_Stocks F (x0.1, x0.2) x1) >>= fun x10 =>
    (ref11_Stocks F (x0.1, x0.2) x1) >>= fun x11 =>
    (bath_Most F (x0.1, x0.2) x1 x3) >>= fun x12 =>
    (ref11_Most F (x0.1, x0.2) x1 x3) >>= fun x13 =>
    (bath_Stuck F (x0.1, x0.2) x1) >>= fun x14 =>
    (ref11_Stuck F (x0.1, x0.2) x1) >>= fun x15 =>
    if (((((((((!decide (x8.2 = x9.2)) || (!decide ((x8.1.length : Int) = x9.1))) || (!decide (x10.1 = x11.1))) || (!decide (x10.2 = x11.2))) || (!decide (x12.1 = x13.1))) || (!decide ((x12.2.1.length : Int) = x13.2.1))) || (!decide (x12.2.2 = x13.2.2))) || (!decide ((x14.1.length : Int) = x15.1))) || (!decide (x14.2 = x15.2))) = true then
      some false
    else
      ((if (decide (x8.2 = 0)) = true then
        (ref11_Make F (x0.1, x0.2) x1 x8.1) >>= fun x16 =>
        (gd (!(!decide (x16.2 = 0))) (law11_longs F x16.1 x2) false) >>= fun x17 =>
        if ((!decide (x16.2 = 0)) || (!x17)) = true then
          some (.inl false)
        else
          some (.inr ())
      else
        some (.inr ()) : Option (Sum Bool (Unit))) >>= fun o => match o with
        | .inl r => some r
        | .inr () =>
          ((if (decide (x12.2.2 = 0)) = true then
            (ref11_Make F (x0.1, x0.2) x1 x12.2.1) >>= fun x18 =>
            ((if (!decide (x18.2 = 0)) = true then
              if true = true then
                some true
              else
                (ix x18.1 x3) >>= fun x19 =>
                some (!decide (x19 = x12.1))
            else
              if (decide ((x18.1.length : Int) ≤ x3)) = true then
                some true
              else
                (ix x18.1 x3) >>= fun x20 =>
                some (!decide (x20 = x12.1)) : Option (Bool)) >>= fun y1 =>
            if y1 = true then
              some (.inl false)
            else
              some (.inr ()))
          else
            some (.inr ()) : Option (Sum Bool (Unit))) >>= fun o => match o with
            | .inl r => some r
            | .inr () =>
              ((if (decide (x14.2 = 0)) = true then
                (ref11_Make F (x0.1, x0.2) x1 x14.1) >>= fun x21 =>
                (gd (!(!decide (x21.2 = 0))) (ref11_Still F (x0.1, x0.2) x21.1) false) >>= fun x22 =>
                if ((!decide (x21.2 = 0)) || (!x22)) = true then
                  some (.inl false)
                else
                  some (.inr ())
              else
                some (.inr ()) : Option (Sum Bool (Unit))) >>= fun o => match o with
                | .inl r => some r
                | .inr () =>
                  (law11_Works F) >>= fun x23 =>
                  some x23)))

-- 5 mandrel/mandrellaw11.BathReached
def law11_BathReached (F : Nat) (x0 : ((List Int) × (List ((List Int) × (List Int))))) (x1 : (List Int)) (x2 : (List (KI .u8))) (x3 : (List Int)) (x4 : (List Int)) (x5 : Int) : Option Bool :=
  (law11_fine F (x0.1, x0.2) x1) >>= fun x7 =>
  if ((((!x7) || (decide (60 < (x2.length : Int)))) || (decide (10 < (x3.length : Int)))) || (decide (10 < (x4.length : Int)))) = true then
    (law11_Works F) >>= fun x8 =>
    some x8
  else
    (law11_Walk F (x0.1, x0.2) x1 x2) >>= fun x9 =>
    (bath_Make F (x0.1, x0.2) x1 x9) >>= fun x10 =>
    (gd (!((!decide (x10.2 = 0)) || (!decide ((x10.1.length : Int) = (x1.length : Int))))) (ref11_One F (x0.1, x0.2) x10.1) 0) >>= fun x11 =>
    if (((!decide (x10.2 = 0)) || (!decide ((x10.1.length : Int) = (x1.length : Int)))) || (!decide (x11 = 0))) = true then
      some false
    else
      (bath_Reach F (x0.1, x0.2) x1 x10.1) >>= fun x12 =>
      (bath_Make F (x0.1, x0.2) x1 x12.1) >>= fun x13 =>
      (rem (w64 x5) (x1.length : Int)) >>= fun x14 =>
      (bath_Most F (x0.1, x0.2) x1 x14) >>= fun x15 =>
      (bath_Weights F (x0.1, x0.2) x1 x10.1) >>= fun x16 =>
      ((if (!decide (x12.2 = 0)) = true then
        if true = true then
          some true
        else
          if (!decide (x15.2.2 = 0)) = true then
            if (decide ((x9.length : Int) < (x12.1.length : Int))) = true then
              (ix x10.1 x14) >>= fun x18 =>
              some (decide (x15.1 < x18))
            else
              (law11_longs F x13.1 x10.1) >>= fun x19 =>
              if (!x19) = true then
                some true
              else
                (ix x10.1 x14) >>= fun x20 =>
                some (decide (x15.1 < x20))
          else
            if (!decide (x16.2 = 5)) = true then
              (law11_longs F x13.1 x10.1) >>= fun x21 =>
              if (!x21) = true then
                some true
              else
                (ix x10.1 x14) >>= fun x22 =>
                some (decide (x15.1 < x22))
            else
              if (decide ((x9.length : Int) < (x12.1.length : Int))) = true then
                (ix x10.1 x14) >>= fun x23 =>
                some (decide (x15.1 < x23))
              else
                (law11_longs F x13.1 x10.1) >>= fun x24 =>
                if (!x24) = true then
                  some true
                else
                  (ix x10.1 x14) >>= fun x25 =>
                  some (decide (x15.1 < x25))
      else
        if (!decide (x13.2 = 0)) = true then
          if true = true then
            some true
          else
            if (!decide (x16.2 = 5)) = true then
              (law11_longs F x13.1 x10.1) >>= fun x26 =>
              if (!x26) = true then
                some true
              else
                (ix x10.1 x14) >>= fun x27 =>
                some (decide (x15.1 < x27))
            else
              if (decide ((x9.length : Int) < (x12.1.length : Int))) = true then
                (ix x10.1 x14) >>= fun x28 =>
                some (decide (x15.1 < x28))
              else
                (law11_longs F x13.1 x10.1) >>= fun x29 =>
                if (!x29) = true then
                  some true
                else
                  (ix x10.1 x14) >>= fun x30 =>
                  some (decide (x15.1 < x30))
        else
          if (!decide (x15.2.2 = 0)) = true then
            if true = true then
              some true
            else
              if (decide ((x9.length : Int) < (x12.1.length : Int))) = true then
                (ix x10.1 x14) >>= fun x31 =>
                some (decide (x15.1 < x31))
              else
                (law11_longs F x13.1 x10.1) >>= fun x32 =>
                if (!x32) = true then
                  some true
                else
                  (ix x10.1 x14) >>= fun x33 =>
                  some (decide (x15.1 < x33))
          else
            if (!decide (x16.2 = 5)) = true then
              if true = true then
                some true
              else
                (law11_longs F x13.1 x10.1) >>= fun x34 =>
                if (!x34) = true then
                  some true
                else
                  (ix x10.1 x14) >>= fun x35 =>
                  some (decide (x15.1 < x35))
            else
              if (decide ((x9.length : Int) < (x12.1.length : Int))) = true then
                if true = true then
                  some true
                else
                  (ix x10.1 x14) >>= fun x36 =>
                  some (decide (x15.1 < x36))
              else
                (law11_longs F x13.1 x10.1) >>= fun x37 =>
                if (!x37) = true then
                  some true
                else
                  (ix x10.1 x14) >>= fun x38 =>
                  some (decide (x15.1 < x38)) : Option (Bool)) >>= fun y1 =>
      if y1 = true then
        some false
      else
        (bath_CheckWeights F (x0.1, x0.2) x3) >>= fun x39 =>
        (gd ((decide (x39 = 0)) && !(!decide ((x3.length : Int) = (x1.length : Int)))) (ref11_Sum F x3 x1) 0) >>= fun x40 =>
        (gd ((decide (x39 = 0)) && !(!decide ((x3.length : Int) = (x1.length : Int)))) (ref11_Sum F x3 x10.1) 0) >>= fun x41 =>
        if ((decide (x39 = 0)) && ((!decide ((x3.length : Int) = (x1.length : Int))) || (!decide (x40 = x41)))) = true then
          some false
        else
          (ref11_One F (x0.1, x0.2) x4) >>= fun x42 =>
          if (!decide (x42 = 0)) = true then
            (law11_Works F) >>= fun x43 =>
            some x43
          else
            (bath_Weights F (x0.1, x0.2) x1 x4) >>= fun x44 =>
            (bath_Reach F (x0.1, x0.2) x1 x4) >>= fun x45 =>
            if (decide (x44.2 = 0)) = true then
              (law11_parts F (x0.1, x0.2) x44.1 x1 x4) >>= fun x46 =>
              (gd (x46 && (decide (x45.2 = 13))) (law11_Works F) false) >>= fun x47 =>
              some ((x46 && (decide (x45.2 = 13))) && x47)
            else
              (gd ((decide (x44.2 = 5)) && ((decide (x45.2 = 0)) || (decide (x45.2 = 13)))) (law11_Works F) false) >>= fun x48 =>
              some (((decide (x44.2 = 5)) && ((decide (x45.2 = 0)) || (decide (x45.2 = 13)))) && x48))

-- 6 mandrel/mandrellaw11.BathBack
def law11_BathBack_l1 (F : Nat) (x10 : (List Int)) : Nat → (List Int) → Int → Option ((List Int))
  | 0, _, _ => none
  | m + 1, y1, y2 =>
    if (decide (0 ≤ y2)) = true then
      (ix x10 y2) >>= fun x13 =>
      (app 8 y1 ([x13] : List Int)) >>= fun x14 =>
      law11_BathBack_l1 F x10 m x14 (w64 (y2 - 1))
    else
      some y1

def law11_BathBack (F : Nat) (x0 : ((List Int) × (List ((List Int) × (List Int))))) (x1 : (List Int)) (x2 : (List Int)) (x3 : (List (KI .u8))) (x4 : (List Int)) : Option Bool :=
  (law11_fine F (x0.1, x0.2) x1) >>= fun x6 =>
  (gd (!((!x6) || (decide (10 < (x2.length : Int))))) (ref11_One F (x0.1, x0.2) x2) 0) >>= fun x7 =>
  if (((((!x6) || (decide (10 < (x2.length : Int)))) || (!decide (x7 = 0))) || (decide (30 < (x3.length : Int)))) || (decide (10 < (x4.length : Int)))) = true then
    (law11_Works F) >>= fun x8 =>
    some x8
  else
    (law11_back F (x0.1, x0.2)) >>= fun x9 =>
    (law11_Walk F (x0.1, x0.2) x1 x3) >>= fun x10 =>
    (bath_Make F (x0.1, x0.2) x1 x10) >>= fun x11 =>
    (gd (!(!decide (x11.2 = 0))) (ref11_One F (x0.1, x0.2) x11.1) 0) >>= fun x12 =>
    if ((!decide (x11.2 = 0)) || (!decide (x12 = 0))) = true then
      some false
    else
      ((law11_BathBack_l1 F x10 F ([]) (w64 ((x10.length : Int) - 1))) >>= fun z1 =>
      (bath_Make F (x9.1, x9.2) x11.1 z1) >>= fun x15 =>
      (bath_Reach F (x0.1, x0.2) x1 x2) >>= fun x16 =>
      (bath_Reach F (x9.1, x9.2) x2 x1) >>= fun x17 =>
      (gd (decide (x15.2 = 0)) (law11_longs F x15.1 x1) false) >>= fun x18 =>
      (gd ((((decide (x15.2 = 0)) && x18) && (decide (x16.2 = x17.2))) && (decide ((x16.1.length : Int) = (x17.1.length : Int)))) (bath_CheckWeights F (x0.1, x0.2) x4) 0) >>= fun x19 =>
      (gd ((((decide (x15.2 = 0)) && x18) && (decide (x16.2 = x17.2))) && (decide ((x16.1.length : Int) = (x17.1.length : Int)))) (bath_CheckWeights F (x9.1, x9.2) x4) 0) >>= fun x20 =>
      (gd (((((decide (x15.2 = 0)) && x18) && (decide (x16.2 = x17.2))) && (decide ((x16.1.length : Int) = (x17.1.length : Int)))) && (decide (x19 = x20))) (law11_Works F) false) >>= fun x21 =>
      some ((((((decide (x15.2 = 0)) && x18) && (decide (x16.2 = x17.2))) && (decide ((x16.1.length : Int) = (x17.1.length : Int)))) && (decide (x19 = x20))) && x21))

-- 8 mandrel/mandrellaw11.BathMost
def law11_BathMost (F : Nat) (x0 : ((List Int) × (List ((List Int) × (List Int))))) (x1 : (List Int)) (x2 : (List (KI .u8))) (x3 : Int) : Option Bool :=
  (law11_fine F (x0.1, x0.2) x1) >>= fun x5 =>
  if ((!x5) || (decide (30 < (x2.length : Int)))) = true then
    (law11_Works F) >>= fun x6 =>
    some x6
  else
    (rem (w64 x3) (x1.length : Int)) >>= fun x7 =>
    (bath_Most F (x0.1, x0.2) x1 x7) >>= fun x8 =>
    (bath_Make F (x0.1, x0.2) x1 x8.2.1) >>= fun x9 =>
    ((if (!decide (x8.2.2 = 0)) = true then
      if true = true then
        some true
      else
        (ref11_One F (x0.1, x0.2) x9.1) >>= fun x11 =>
        if (!decide (x11 = 0)) = true then
          some true
        else
          (ix x9.1 x7) >>= fun x12 =>
          some (!decide (x12 = x8.1))
    else
      if (!decide (x9.2 = 0)) = true then
        if true = true then
          some true
        else
          (ix x9.1 x7) >>= fun x13 =>
          some (!decide (x13 = x8.1))
      else
        (ref11_One F (x0.1, x0.2) x9.1) >>= fun x14 =>
        if (!decide (x14 = 0)) = true then
          some true
        else
          (ix x9.1 x7) >>= fun x15 =>
          some (!decide (x15 = x8.1)) : Option (Bool)) >>= fun y1 =>
    if y1 = true then
      some false
    else
      (bath_Reach F (x0.1, x0.2) x1 x9.1) >>= fun x16 =>
      (bath_Stocks F (x0.1, x0.2) x1) >>= fun x17 =>
      if (((!decide (x16.2 = 0)) || (!decide (x17.2 = 0))) || (!decide ((x16.1.length : Int) = (x8.2.1.length : Int)))) = true then
        some false
      else
        (bath_Stuck F (x0.1, x0.2) x1) >>= fun x18 =>
        ((if (decide (x18.2 = 0)) = true then
          (bath_Make F (x0.1, x0.2) x1 x18.1) >>= fun x19 =>
          (gd (!(!decide (x19.2 = 0))) (ref11_One F (x0.1, x0.2) x19.1) 0) >>= fun x20 =>
          (gd (!((!decide (x19.2 = 0)) || (!decide (x20 = 0)))) (ref11_Still F (x0.1, x0.2) x19.1) false) >>= fun x21 =>
          if (((!decide (x19.2 = 0)) || (!decide (x20 = 0))) || (!x21)) = true then
            some (.inl false)
          else
            (bath_Stocks F (x0.1, x0.2) x19.1) >>= fun x22 =>
            if ((!decide (x22.2 = 0)) || (!decide (x22.1 = 1))) = true then
              some (.inl false)
            else
              some (.inr ())
        else
          some (.inr ()) : Option (Sum Bool (Unit))) >>= fun o => match o with
          | .inl r => some r
          | .inr () =>
            (law11_Walk F (x0.1, x0.2) x1 x2) >>= fun x23 =>
            (bath_Make F (x0.1, x0.2) x1 x23) >>= fun x24 =>
            (gd (!(((!decide (x18.2 = 0)) && (!decide (x18.2 = 5))) || (!decide (x24.2 = 0)))) (ref11_One F (x0.1, x0.2) x24.1) 0) >>= fun x25 =>
            (gd ((!((((!decide (x18.2 = 0)) && (!decide (x18.2 = 5))) || (!decide (x24.2 = 0))) || (!decide (x25 = 0)))) && (decide (x18.2 = 5))) (ref11_Still F (x0.1, x0.2) x24.1) false) >>= fun x26 =>
            if (((((!decide (x18.2 = 0)) && (!decide (x18.2 = 5))) || (!decide (x24.2 = 0))) || (!decide (x25 = 0))) || ((decide (x18.2 = 5)) && x26)) = true then
              some false
            else
              (bath_Most F (x0.1, x0.2) x24.1 x7) >>= fun x27 =>
              (bath_Stocks F (x0.1, x0.2) x24.1) >>= fun x28 =>
              (gd ((((decide (x27.2.2 = 0)) && (decide (x28.2 = 0))) && (decide (x27.1 ≤ x8.1))) && (decide (x28.1 ≤ x17.1))) (law11_Works F) false) >>= fun x29 =>
              some (((((decide (x27.2.2 = 0)) && (decide (x28.2 = 0))) && (decide (x27.1 ≤ x8.1))) && (decide (x28.1 ≤ x17.1))) && x29)))

-- 10 mandrel/mandrellaw11.BathEither
def law11_BathEither_l1 (F : Nat) (x19 : (List Int)) : Nat → (List Int) → Int → Option ((List Int))
  | 0, _, _ => none
  | m + 1, y1, y2 =>
    if (decide (y2 < (x19.length : Int))) = true then
      (ix x19 y2) >>= fun x21 =>
      (ix y1 x21) >>= fun x22 =>
      (ix y1 x21) >>= fun x23 =>
      law11_BathEither_l1 F x19 m (rset y1 x21 (w64 (x22 + 1))) (w64 (y2 + 1))
    else
      some y1

def law11_BathEither (F : Nat) (x0 : ((List Int) × (List ((List Int) × (List Int))))) (x1 : (List Int)) (x2 : (List Int)) (x3 : (List Int)) (x4 : ((List Int) × Int)) (x5 : (List (KI .u8))) : Option Bool :=
  (law11_great F (x0.1, x0.2)) >>= fun x7 =>
  (gd (!((x7 || (decide (10 < (x1.length : Int)))) || (decide (10 < (x2.length : Int))))) (ref11_Two F (x0.1, x0.2) x1 x2) 0) >>= fun x8 =>
  if ((((((x7 || (decide (10 < (x1.length : Int)))) || (decide (10 < (x2.length : Int)))) || (!decide (x8 = 0))) || (decide (10 < (x3.length : Int)))) || (decide (12 < (x4.1.length : Int)))) || (decide (30 < (x5.length : Int)))) = true then
    (law11_Works F) >>= fun x9 =>
    some x9
  else
    (bath_Weights F (x0.1, x0.2) x1 x2) >>= fun x10 =>
    (bath_Mix F (x0.1, x0.2) x1 x2) >>= fun x11 =>
    ((if (decide (x10.2 = 0)) = true then
      (gd (!((!decide (x11.2 = 5)) || (!decide ((x11.1.1.length : Int) = 0)))) (bath_CheckWeights F (x0.1, x0.2) x10.1) 0) >>= fun x12 =>
      (gd (!(((!decide (x11.2 = 5)) || (!decide ((x11.1.1.length : Int) = 0))) || (!decide (x12 = 0)))) (law11_parts F (x0.1, x0.2) x10.1 x1 x2) false) >>= fun x13 =>
      (gd (!((((!decide (x11.2 = 5)) || (!decide ((x11.1.1.length : Int) = 0))) || (!decide (x12 = 0))) || (!x13))) (bath_CheckMix F (x0.1, x0.2) x1 x2 (x4.1, x4.2)) 0) >>= fun x14 =>
      if (((((!decide (x11.2 = 5)) || (!decide ((x11.1.1.length : Int) = 0))) || (!decide (x12 = 0))) || (!x13)) || (decide (x14 = 0))) = true then
        some (.inl false)
      else
        some (.inr ())
    else
      (gd (!(((!decide (x10.2 = 5)) || (!decide ((x10.1.length : Int) = 0))) || (!decide (x11.2 = 0)))) (bath_CheckMix F (x0.1, x0.2) x1 x2 (x11.1.1, x11.1.2)) 0) >>= fun x15 =>
      (gd (!((((!decide (x10.2 = 5)) || (!decide ((x10.1.length : Int) = 0))) || (!decide (x11.2 = 0))) || (!decide (x15 = 0)))) (ref11_CheckMix F (x0.1, x0.2) x1 x2 (x11.1.1, x11.1.2)) 0) >>= fun x16 =>
      if (((((!decide (x10.2 = 5)) || (!decide ((x10.1.length : Int) = 0))) || (!decide (x11.2 = 0))) || (!decide (x15 = 0))) || (!decide (x16 = 0))) = true then
        some (.inl false)
      else
        (bath_CheckWeights F (x0.1, x0.2) x3) >>= fun x17 =>
        (gd (decide (x17 = 0)) (law11_parts F (x0.1, x0.2) x3 x1 x2) false) >>= fun x18 =>
        if ((decide (x17 = 0)) && x18) = true then
          some (.inl false)
        else
          some (.inr ()) : Option (Sum Bool (Unit))) >>= fun o => match o with
      | .inl r => some r
      | .inr () =>
        (law11_Walk F (x0.1, x0.2) x1 x5) >>= fun x19 =>
        (mks 8 (x0.2.length : Int) (0)) >>= fun x20 =>
        ((law11_BathEither_l1 F x19 F x20 0) >>= fun z1 =>
        (bath_Make F (x0.1, x0.2) x1 x19) >>= fun x24 =>
        (gd (decide (x24.2 = 0)) (ref11_One F (x0.1, x0.2) x24.1) 0) >>= fun x25 =>
        (gd ((decide (x24.2 = 0)) && (decide (x25 = 0))) (bath_CheckMix F (x0.1, x0.2) x1 x24.1 (z1, 1)) 0) >>= fun x26 =>
        (gd (((decide (x24.2 = 0)) && (decide (x25 = 0))) && (decide (x26 = 0))) (law11_Works F) false) >>= fun x27 =>
        some ((((decide (x24.2 = 0)) && (decide (x25 = 0))) && (decide (x26 = 0))) && x27)))

-- 11 mandrel/mandrellaw11.BathKnown
def law11_BathKnown (F : Nat)  : Option Bool :=
  (law11_Bath) >>= fun x1 =>
  (bath_Make F (x1.1, x1.2) ([5, 0, 0] : List Int) ([1] : List Int)) >>= fun x2 =>
  (bath_CheckWeights F (x1.1, x1.2) ([1, 1, 1] : List Int)) >>= fun x3 =>
  (bath_CheckMix F (x1.1, x1.2) ([5, 0, 0] : List Int) ([0, 1, 3] : List Int) (([1, 3, 0] : List Int), 1)) >>= fun x4 =>
  (bath_CheckMix F (x1.1, x1.2) ([5, 0, 0] : List Int) ([0, 1, 3] : List Int) (([2, 6, 0] : List Int), 2)) >>= fun x5 =>
  (bath_CheckMix F (x1.1, x1.2) ([5, 0, 0] : List Int) ([0, 1, 3] : List Int) (([2, 6, 0] : List Int), 1)) >>= fun x6 =>
  (gd (((((decide (x2.2 = 9)) && (decide (x3 = 14))) && (decide (x4 = 0))) && (decide (x5 = 0))) && (decide (x6 = 14))) (law11_Works F) false) >>= fun x7 =>
  some ((((((decide (x2.2 = 9)) && (decide (x3 = 14))) && (decide (x4 = 0))) && (decide (x5 = 0))) && (decide (x6 = 14))) && x7)
end Go.Proofs.Ytboefnpnoojfpaa
