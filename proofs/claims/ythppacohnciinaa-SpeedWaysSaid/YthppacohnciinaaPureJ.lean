/-
  Pure functions, one for each function of the program, as a program of our own printed them. No condition: definitions.
-/
import Derived.Test.YthppacohnciinaaCopy
import Derived.Test.YthppacohnciinaaPureH
namespace Go.Proofs.Ythppacohnciinaa
open Go Go.Md Go.RowKit

-- 12 mandrel/mandrellaw01.SpeedWays
def law01_SpeedWays_l1 (F : Nat) (x0 : (Int × (List (Int × Int × Int)))) (x8 : Int) (x21 : (List (List Int))) : Nat → (List Int) → Int → Option ((List Int))
  | 0, _, _ => none
  | m + 1, y3, y4 =>
    if (decide (y4 < (w64 (x0.1 + 1)))) = true then
      (ix x21 x8) >>= fun x22 =>
      (ix x22 y4) >>= fun x23 =>
      (ix x21 x8) >>= fun x24 =>
      (ix x24 0) >>= fun x25 =>
      (app 8 y3 ([w64 (x23 - x25)] : List Int)) >>= fun x26 =>
      law01_SpeedWays_l1 F x0 x8 x21 m x26 (w64 (y4 + 1))
    else
      some y3

def law01_SpeedWays (F : Nat) (x0 : (Int × (List (Int × Int × Int)))) (x1 : (Ar 3 (KI .u8))) (x2 : (List (KI .u16))) (x3 : (List Int)) : Option Bool :=
  (law01_fine F (x0.1, x0.2)) >>= fun x5 =>
  if (((!x5) || (decide (40 < (x2.length : Int)))) || (decide (60 < (x3.length : Int)))) = true then
    (law01_Works F) >>= fun x6 =>
    some x6
  else
    (ix x1.l 0) >>= fun x7 =>
    (rem (w64 x7.v) (w64 (x0.1 + 1))) >>= fun x8 =>
    (ix x1.l 1) >>= fun x9 =>
    (rem (w64 x9.v) (w64 (x0.1 + 1))) >>= fun x10 =>
    (ix x1.l 2) >>= fun x11 =>
    (rem (w64 x11.v) (w64 (x0.1 + 1))) >>= fun x12 =>
    (speed_Way F (x0.1, x0.2) x8 x10) >>= fun x13 =>
    (speed_Way F (x0.1, x0.2) x10 x12) >>= fun x14 =>
    (speed_Way F (x0.1, x0.2) x8 x12) >>= fun x15 =>
    ((if (!decide (x13.2.2 = 0)) = true then
      none
    else
      if (!decide (x14.2.2 = 0)) = true then
        none
      else
        if (!decide (x15.2.2 = 0)) = true then
          none
        else
          some (decide ((w64 (x13.2.1 + x14.2.1)) < x15.2.1)) : Option (Bool)) >>= fun y1 =>
    if y1 = true then
      some false
    else
      (ref01_CheckWay F (x0.1, x0.2) x8 x12 x15.1) >>= fun x16 =>
      (law01_True F (x0.1, x0.2) x2) >>= fun x17 =>
      (ref01_Of x17 x12) >>= fun x18 =>
      (ref01_Of x17 x8) >>= fun x19 =>
      ((if (!decide (x16.2 = 0)) = true then
        none
      else
        if (!decide (x16.1 = x15.2.1)) = true then
          none
        else
          some (decide (x15.2.1 < (w64 (x18 - x19)))) : Option (Bool)) >>= fun y2 =>
      if y2 = true then
        some false
      else
        (speed_CheckWay F (x0.1, x0.2) x8 x12 x3) >>= fun x20 =>
        if ((decide (x20.2 = 0)) && (decide (x20.1 < x15.2.1))) = true then
          some false
        else
          (ref01_Far F (x0.1, x0.2)) >>= fun x21 =>
          ((law01_SpeedWays_l1 F x0 x8 x21 F ([]) 1) >>= fun z1 =>
          (((speed_CheckSpeeds F (x0.1, x0.2) z1) >>= fun x27 =>
          if (decide (x27 = 0)) = true then
            (ref01_Of z1 x12) >>= fun x28 =>
            (ref01_Of z1 x8) >>= fun x29 =>
            if (decide ((w64 (x28 - x29)) = x15.2.1)) = true then
              (law01_Works F) >>= fun x30 =>
              some x30
            else
              none
          else
            none : Option (Bool)) >>= fun y5 =>
          some y5))))
end Go.Proofs.Ythppacohnciinaa
