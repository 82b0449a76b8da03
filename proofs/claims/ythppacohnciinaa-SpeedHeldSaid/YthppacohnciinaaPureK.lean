/-
  Pure functions, one for each function of the program, as a program of our own printed them. No condition: definitions.
-/
import Derived.Test.YthppacohnciinaaCopy
import Derived.Test.YthppacohnciinaaPureH
namespace Go.Proofs.Ythppacohnciinaa
open Go Go.Md Go.RowKit

-- 5 mandrel/mandrellaw01.SpeedHeld
def law01_SpeedHeld_l1 (F : Nat) (x0 : (Int × (List (Int × Int × Int)))) (x2 : (List Int)) (x13 : Int) (x14 : ((Int × Int) × Int)) (x22 : (List Int)) : Nat → Int → Option (Sum Bool (Unit))
  | 0, _ => none
  | m + 1, y4 =>
    if (decide (y4 < 2)) = true then
      (ix ([x22, x2] : List (List Int)) y4) >>= fun x23 =>
      (speed_CheckSpeeds F (x0.1, x0.2) x23) >>= fun x24 =>
      (ix ([x22, x2] : List (List Int)) y4) >>= fun x25 =>
      (ref01_CheckSpeeds F (x0.1, x0.2) x25) >>= fun x26 =>
      if ((!decide (x24 = x26)) || ((decide (y4 = 0)) && (!decide (x24 = 0)))) = true then
        some (.inl false)
      else
        ((if (decide (x24 = 0)) = true then
          (ix ([x22, x2] : List (List Int)) y4) >>= fun x27 =>
          (ix x27 (w64 ((w64 (1 + x13)) - 1))) >>= fun x28 =>
          if (decide (x28 < x14.1.1)) = true then
            some true
          else
            (ix ([x22, x2] : List (List Int)) y4) >>= fun x29 =>
            (ix x29 (w64 ((w64 (1 + x13)) - 1))) >>= fun x30 =>
            some (decide (x14.1.2 < x30))
        else
          some false : Option (Bool)) >>= fun y5 =>
        if y5 = true then
          some (.inl false)
        else
          law01_SpeedHeld_l1 F x0 x2 x13 x14 x22 m (w64 (y4 + 1)))
    else
      some (.inr ())

def law01_SpeedHeld (F : Nat) (x0 : (Int × (List (Int × Int × Int)))) (x1 : (List (KI .u16))) (x2 : (List Int)) (x3 : Int) : Option Bool :=
  (law01_fine F (x0.1, x0.2)) >>= fun x5 =>
  if (((!x5) || (decide (40 < (x1.length : Int)))) || (decide (40 < (x2.length : Int)))) = true then
    (law01_Works F) >>= fun x6 =>
    some x6
  else
    (speed_Ends F (x0.1, x0.2) false) >>= fun x7 =>
    (speed_Ends F (x0.1, x0.2) true) >>= fun x8 =>
    ((if (!decide (x7.2 = 0)) = true then
      none
    else
      if (!decide (x8.2 = 0)) = true then
        none
      else
        (ref01_CheckSpeeds F (x0.1, x0.2) x7.1) >>= fun x9 =>
        if (!decide (x9 = 0)) = true then
          none
        else
          (ref01_CheckSpeeds F (x0.1, x0.2) x8.1) >>= fun x10 =>
          if (!decide (x10 = 0)) = true then
            none
          else
            (speed_CheckSpeeds F (x0.1, x0.2) x7.1) >>= fun x11 =>
            if (!decide (x11 = 0)) = true then
              none
            else
              (speed_CheckSpeeds F (x0.1, x0.2) x8.1) >>= fun x12 =>
              some (!decide (x12 = 0)) : Option (Bool)) >>= fun y1 =>
    if y1 = true then
      some false
    else
      (rem (w64 x3) x0.1) >>= fun x13 =>
      (speed_Span F (x0.1, x0.2) (w64 (1 + x13))) >>= fun x14 =>
      (speed_Way F (x0.1, x0.2) 0 (w64 (1 + x13))) >>= fun x15 =>
      (speed_Way F (x0.1, x0.2) (w64 (1 + x13)) 0) >>= fun x16 =>
      ((if (!decide (x14.2 = 0)) = true then
        none
      else
        if (!decide (x15.2.2 = 0)) = true then
          none
        else
          if (!decide (x16.2.2 = 0)) = true then
            none
          else
            (ix x7.1 (w64 ((w64 (1 + x13)) - 1))) >>= fun x17 =>
            (ix x8.1 (w64 ((w64 (1 + x13)) - 1))) >>= fun x18 =>
            (law01_rg x17 x18) >>= fun x19 =>
            if (!decide ((x14.1.1, x14.1.2) = x19)) = true then
              none
            else
              if (!decide (x15.2.1 = x14.1.2)) = true then
                none
              else
                some (!decide (x16.2.1 = (w64 (0 - x14.1.1)))) : Option (Bool)) >>= fun y2 =>
      if y2 = true then
        some false
      else
        (ref01_CheckWay F (x0.1, x0.2) 0 (w64 (1 + x13)) x15.1) >>= fun x20 =>
        (ref01_CheckWay F (x0.1, x0.2) (w64 (1 + x13)) 0 x16.1) >>= fun x21 =>
        ((if (!decide (x20.2 = 0)) = true then
          none
        else
          if (!decide (x21.2 = 0)) = true then
            none
          else
            if (!decide (x20.1 = x15.2.1)) = true then
              none
            else
              some (!decide (x21.1 = x16.2.1)) : Option (Bool)) >>= fun y3 =>
        if y3 = true then
          some false
        else
          (law01_True F (x0.1, x0.2) x1) >>= fun x22 =>
          ((law01_SpeedHeld_l1 F x0 x2 x13 x14 x22 F 0) >>= fun o => match o with
            | .inl r => some r
            | .inr () =>
              (law01_Works F) >>= fun x31 =>
              some x31))))
end Go.Proofs.Ythppacohnciinaa
