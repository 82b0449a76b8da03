/-
  Pure functions, one for each function of the program, as a program of our own printed them. No condition: definitions.
-/
import Derived.Test.YthppacohnciinaaCopy
import Derived.Test.YthppacohnciinaaMapw
import Derived.Test.YthppacohnciinaaPureG
namespace Go.Proofs.Ythppacohnciinaa
open Go Go.Md Go.RowKit

-- 3 mandrel/mandrellaw01.SpeedSpans
def law01_SpeedSpans (F : Nat) (x0 : (Int × (List (Int × Int × Int)))) (x1 : Int) (x2 : Int) (x3 : Bool) (x4 : Int) : Option Bool :=
  (law01_great (x0.1, x0.2)) >>= fun x6 =>
  if x6 = true then
    (law01_Works F) >>= fun x7 =>
    some x7
  else
    (speed_Span F (x0.1, x0.2) x1) >>= fun x8 =>
    (ref01_Span F (x0.1, x0.2) x1) >>= fun x9 =>
    (speed_Ends F (x0.1, x0.2) x3) >>= fun x10 =>
    (ref01_Ends F (x0.1, x0.2) x3) >>= fun x11 =>
    (speed_Sung F (x0.1, x0.2) x1 x4) >>= fun x12 =>
    (ref01_Sung F (x0.1, x0.2) x1 x4) >>= fun x13 =>
    (speed_Way F (x0.1, x0.2) x1 x2) >>= fun x14 =>
    (ref01_Cost F (x0.1, x0.2) x1 x2) >>= fun x15 =>
    ((if (!decide ((x8.1.1, x8.1.2) = (x9.1.1, x9.1.2))) = true then
      none
    else
      if (!decide (x8.2 = x9.2)) = true then
        none
      else
        (law01_longs F x10.1 x11.1) >>= fun x16 =>
        if (!x16) = true then
          none
        else
          if (!decide (x10.2 = x11.2)) = true then
            none
          else
            if (!decide ((x12.1.1, x12.1.2) = (x13.1.1, x13.1.2))) = true then
              none
            else
              if (!decide (x12.2 = x13.2)) = true then
                none
              else
                if (!decide (x14.2.1 = x15.1)) = true then
                  none
                else
                  some (!decide (x14.2.2 = x15.2)) : Option (Bool)) >>= fun y1 =>
    if y1 = true then
      some false
    else
      if (!decide (x14.2.2 = 0)) = true then
        ((if (decide ((x14.1.length : Int) = 0)) = true then
          (law01_Works F) >>= fun x17 =>
          some x17
        else
          none : Option (Bool)) >>= fun y2 =>
        some y2)
      else
        (ref01_CheckWay F (x0.1, x0.2) x1 x2 x14.1) >>= fun x18 =>
        ((if (decide (x18.2 = 0)) = true then
          if (decide (x18.1 = x14.2.1)) = true then
            (law01_Works F) >>= fun x19 =>
            some x19
          else
            none
        else
          none : Option (Bool)) >>= fun y3 =>
        some y3))

-- 13 mandrel/mandrellaw01.SpeedProofs
def law01_SpeedProofs (F : Nat) (x0 : (Int × (List (Int × Int × Int)))) (x1 : Int) (x2 : Int) (x3 : (List Int)) : Option Bool :=
  (law01_great (x0.1, x0.2)) >>= fun x5 =>
  if (x5 || (decide (80 < (x3.length : Int)))) = true then
    (law01_Works F) >>= fun x6 =>
    some x6
  else
    (speed_CheckWay F (x0.1, x0.2) x1 x2 x3) >>= fun x7 =>
    (ref01_CheckWay F (x0.1, x0.2) x1 x2 x3) >>= fun x8 =>
    ((if (!decide (x7.1 = x8.1)) = true then
      none
    else
      if (!decide (x7.2 = x8.2)) = true then
        none
      else
        (speed_CheckCircle F (x0.1, x0.2) x3) >>= fun x9 =>
        (ref01_CheckCircle F (x0.1, x0.2) x3) >>= fun x10 =>
        some (!decide (x9 = x10)) : Option (Bool)) >>= fun y1 =>
    if y1 = true then
      some false
    else
      (speed_Circle F (x0.1, x0.2)) >>= fun x11 =>
      (ref01_CheckSheet F (x0.1, x0.2)) >>= fun x12 =>
      if (!decide (x12 = 0)) = true then
        (((ref01_CheckSheet F (x0.1, x0.2)) >>= fun x13 =>
        if (decide (x11.2 = x13)) = true then
          if (decide ((x11.1.length : Int) = 0)) = true then
            (law01_Works F) >>= fun x14 =>
            some x14
          else
            none
        else
          none : Option (Bool)) >>= fun y2 =>
        some y2)
      else
        (ref01_Clashes F (x0.1, x0.2)) >>= fun x15 =>
        if (!x15) = true then
          ((if (decide (x11.2 = 5)) = true then
            if (decide ((x11.1.length : Int) = 0)) = true then
              (law01_Works F) >>= fun x16 =>
              some x16
            else
              none
          else
            none : Option (Bool)) >>= fun y3 =>
          some y3)
        else
          ((if (decide (x11.2 = 0)) = true then
            (ref01_CheckCircle F (x0.1, x0.2) x11.1) >>= fun x17 =>
            if (decide (x17 = 0)) = true then
              (law01_Works F) >>= fun x18 =>
              some x18
            else
              none
          else
            none : Option (Bool)) >>= fun y4 =>
          some y4))
end Go.Proofs.Ythppacohnciinaa
