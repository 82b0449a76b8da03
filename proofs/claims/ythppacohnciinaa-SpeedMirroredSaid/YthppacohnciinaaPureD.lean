/-
  Pure functions, one for each function of the program, as a program of our own printed them. No condition: definitions.
-/
import Derived.Test.YthppacohnciinaaCopy
import Derived.Test.YthppacohnciinaaMapw
import Derived.Test.YthppacohnciinaaPureC
import Derived.Test.YthppacohnciinaaManE
namespace Go.Proofs.Ythppacohnciinaa
open Go Go.Md Go.RowKit

-- 15 mandrel/mandrellaw01.Works
def law01_Works (F : Nat)  : Option Bool :=
  (law01_Sheet) >>= fun x1 =>
  (speed_CheckSpeeds F (x1.1, x1.2) ([16200, 16000, 15900] : List Int)) >>= fun x2 =>
  (speed_Span F (x1.1, x1.2) 3) >>= fun x3 =>
  (speed_Way F (x1.1, x1.2) 3 1) >>= fun x4 =>
  (speed_Circle F (x1.1, x1.2)) >>= fun x5 =>
  (law01_slow) >>= fun x6 =>
  (speed_Circle F x6) >>= fun x7 =>
  (law01_rg 42000 44000) >>= fun x8 =>
  (speed_Pipe F 1 43500 x8) >>= fun x9 =>
  (speed_Spring F 1 3 300) >>= fun x10 =>
  (speed_Sung F (x1.1, x1.2) 3 40000) >>= fun x11 =>
  (speed_Ends F (x1.1, x1.2) true) >>= fun x12 =>
  ((if (decide (x2 = 0)) = true then
    if (decide (x3.2 = 0)) = true then
      if (decide (x4.2.2 = 0)) = true then
        if (decide (x5.2 = 5)) = true then
          if (decide (x7.2 = 0)) = true then
            if (decide (x9.2 = 0)) = true then
              if (decide (x10.2 = 0)) = true then
                if (decide (x11.2 = 0)) = true then
                  if (decide (x12.2 = 0)) = true then
                    (law01_rg 15400 16500) >>= fun x13 =>
                    if (decide ((x3.1.1, x3.1.2) = x13)) = true then
                      if (decide (x4.2.1 = 600)) = true then
                        (law01_ints F x4.1 ([5, 3] : List Int)) >>= fun x14 =>
                        if x14 = true then
                          (law01_slow) >>= fun x15 =>
                          (ref01_CheckCircle F x15 x7.1) >>= fun x16 =>
                          if (decide (x16 = 0)) = true then
                            (law01_Rule 0 1 16571) >>= fun x17 =>
                            (law01_Rule 1 0 (-15819)) >>= fun x18 =>
                            (law01_rules F x9.1 ([x17, x18] : List (Int × Int × Int))) >>= fun x19 =>
                            if x19 = true then
                              (sdrop x1.2 2) >>= fun x20 =>
                              (law01_rules F x10.1 x20) >>= fun x21 =>
                              if x21 = true then
                                (law01_rg 38500 41250) >>= fun x22 =>
                                if (decide ((x11.1.1, x11.1.2) = x22)) = true then
                                  (law01_longs F x12.1 ([16500, 16500, 16500] : List Int)) >>= fun x23 =>
                                  some x23
                                else
                                  none
                              else
                                none
                            else
                              none
                          else
                            none
                        else
                          none
                      else
                        none
                    else
                      none
                  else
                    none
                else
                  none
              else
                none
            else
              none
          else
            none
        else
          none
      else
        none
    else
      none
  else
    none : Option (Bool)) >>= fun y1 =>
  some y1)
end Go.Proofs.Ythppacohnciinaa
