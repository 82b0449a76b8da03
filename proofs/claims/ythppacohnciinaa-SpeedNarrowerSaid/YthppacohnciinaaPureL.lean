/-
  Pure functions, one for each function of the program, as a program of our own printed them. No condition: definitions.
-/
import Derived.Test.YthppacohnciinaaCopy
import Derived.Test.YthppacohnciinaaPureH
namespace Go.Proofs.Ythppacohnciinaa
open Go Go.Md Go.RowKit

-- 6 mandrel/mandrellaw01.SpeedNarrower
def law01_SpeedNarrower (F : Nat) (x0 : (Int × (List (Int × Int × Int)))) (x1 : (Int × Int × Int)) (x2 : Int) (x3 : (List Int)) : Option Bool :=
  (((app 24 ([] : List (Int × Int × Int)) x0.2) >>= fun x5 =>
  (app 24 x5 ([(x1.1, x1.2.1, x1.2.2)] : List (Int × Int × Int))) >>= fun x6 =>
  some (x0.1, x6) : Option ((Int × (List (Int × Int × Int))))) >>= fun y1 =>
  (law01_fine F (x0.1, x0.2)) >>= fun x7 =>
  (gd (!(!x7)) (law01_great (y1.1, y1.2)) false) >>= fun x8 =>
  (gd (!((!x7) || x8)) (ref01_CheckSheet F (y1.1, y1.2)) 0) >>= fun x9 =>
  if ((((!x7) || x8) || (!decide (x9 = 0))) || (decide (40 < (x3.length : Int)))) = true then
    (law01_Works F) >>= fun x10 =>
    some x10
  else
    (rem (w64 x2) x0.1) >>= fun x11 =>
    (speed_Span F (x0.1, x0.2) (w64 (1 + x11))) >>= fun x12 =>
    (speed_Way F (x0.1, x0.2) x1.1 x1.2.1) >>= fun x13 =>
    (gd (!((!decide (x12.2 = 0)) || (!decide (x13.2.2 = 0)))) (speed_CheckSpeeds F (y1.1, y1.2) x3) 0) >>= fun x14 =>
    (gd ((!((!decide (x12.2 = 0)) || (!decide (x13.2.2 = 0)))) && (decide (x14 = 0))) (speed_CheckSpeeds F (x0.1, x0.2) x3) 0) >>= fun x15 =>
    if (((!decide (x12.2 = 0)) || (!decide (x13.2.2 = 0))) || ((decide (x14 = 0)) && (!decide (x15 = 0)))) = true then
      some false
    else
      (speed_Span F (y1.1, y1.2) (w64 (1 + x11))) >>= fun x16 =>
      (ref01_Clashes F (y1.1, y1.2)) >>= fun x17 =>
      if x17 = true then
        ((if (decide (x16.2 = 21)) = true then
          if (decide (x1.2.2 < x13.2.1)) = true then
            (law01_Works F) >>= fun x18 =>
            some x18
          else
            none
        else
          none : Option (Bool)) >>= fun y2 =>
        some y2)
      else
        (speed_Way F (y1.1, y1.2) x1.1 x1.2.1) >>= fun x19 =>
        ((if (decide (x16.2 = 0)) = true then
          if (decide (x19.2.2 = 0)) = true then
            (law01_inside (x16.1.1, x16.1.2) (x12.1.1, x12.1.2)) >>= fun x20 =>
            if x20 = true then
              if (decide (x19.2.1 = (if x1.2.2 < x13.2.1 then x1.2.2 else x13.2.1))) = true then
                if (decide (x1.2.2 < x13.2.1)) = true then
                  if true = true then
                    (law01_Works F) >>= fun x21 =>
                    some x21
                  else
                    none
                else
                  if (decide ((x16.1.1, x16.1.2) = (x12.1.1, x12.1.2))) = true then
                    (law01_Works F) >>= fun x22 =>
                    some x22
                  else
                    none
              else
                none
            else
              none
          else
            none
        else
          none : Option (Bool)) >>= fun y3 =>
        some y3))
end Go.Proofs.Ythppacohnciinaa
