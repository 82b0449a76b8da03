/-
  Pure functions, one for each function of the program, as a program of our own printed them. No condition: definitions.
-/
import Derived.Test.YthppacohnciinaaCopy
import Derived.Test.YthppacohnciinaaMapw
import Derived.Test.YthppacohnciinaaPureH
namespace Go.Proofs.Ythppacohnciinaa
open Go Go.Md Go.RowKit

-- 7 mandrel/mandrellaw01.SpeedMirrored
def law01_SpeedMirrored_l1 (F : Nat) (x0 : (Int × (List (Int × Int × Int)))) : Nat → Int → (Int × (List (Int × Int × Int))) → (Int × (List (Int × Int × Int))) → Option ((Int × (List (Int × Int × Int))) × (Int × (List (Int × Int × Int))))
  | 0, _, _, _ => none
  | m + 1, y1, y2, y3 =>
    if (decide (y1 < (x0.2.length : Int))) = true then
      (((ix x0.2 y1) >>= fun x7 =>
      ((if ((decide (0 < x7.1)) && (decide (0 < x7.2.1))) = true then
        (app 24 y2.2 ([(x7.1, x7.2.1, x7.2.2)] : List (Int × Int × Int))) >>= fun x8 =>
        (law01_Rule x7.2.1 x7.1 x7.2.2) >>= fun x9 =>
        (app 24 y3.2 ([x9] : List (Int × Int × Int))) >>= fun x10 =>
        some ((y2.1, x8), (y3.1, x10))
      else
        some ((y2.1, y2.2), (y3.1, y3.2)) : Option ((Int × (List (Int × Int × Int))) × (Int × (List (Int × Int × Int))))) >>= fun (y6, y7) =>
      some ((y6.1, y6.2), (y7.1, y7.2))) : Option ((Int × (List (Int × Int × Int))) × (Int × (List (Int × Int × Int))))) >>= fun (y4, y5) =>
      law01_SpeedMirrored_l1 F x0 m (w64 (y1 + 1)) (y4.1, y4.2) (y5.1, y5.2))
    else
      some ((y2.1, y2.2), (y3.1, y3.2))

def law01_SpeedMirrored_l2 (F : Nat) (x18 : (List Int)) : Nat → (List Int) → Int → Option ((List Int))
  | 0, _, _ => none
  | m + 1, y8, y9 =>
    if (decide (y9 < (x18.length : Int))) = true then
      (ix x18 y9) >>= fun x19 =>
      (app 8 y8 ([w64 (100000 - x19)] : List Int)) >>= fun x20 =>
      law01_SpeedMirrored_l2 F x18 m x20 (w64 (y9 + 1))
    else
      some y8

def law01_SpeedMirrored (F : Nat) (x0 : (Int × (List (Int × Int × Int)))) (x1 : (List (KI .u16))) (x2 : Int) : Option Bool :=
  (law01_great (x0.1, x0.2)) >>= fun x4 =>
  (gd (!x4) (ref01_CheckSheet F (x0.1, x0.2)) 0) >>= fun x5 =>
  if ((x4 || (!decide (x5 = 0))) || (decide (40 < (x1.length : Int)))) = true then
    (law01_Works F) >>= fun x6 =>
    some x6
  else
    ((some () : Option (Unit)) >>= fun _ =>
    ((law01_SpeedMirrored_l1 F x0 F 0 (x0.1, []) (x0.1, [])) >>= fun (z1, z2) =>
    (rem (w64 x2) x0.1) >>= fun x11 =>
    (speed_Span F (z1.1, z1.2) (w64 (1 + x11))) >>= fun x12 =>
    (speed_Span F (z2.1, z2.2) (w64 (1 + x11))) >>= fun x13 =>
    if ((!decide (x12.2 = x13.2)) || ((!decide (x12.2 = 0)) && (!decide (x12.2 = 21)))) = true then
      some false
    else
      if (!decide (x12.2 = 0)) = true then
        (ref01_Clashes F (z1.1, z1.2)) >>= fun x14 =>
        (gd x14 (ref01_Clashes F (z2.1, z2.2)) false) >>= fun x15 =>
        (gd (x14 && x15) (law01_Works F) false) >>= fun x16 =>
        some ((x14 && x15) && x16)
      else
        (ref01_Clashes F (z1.1, z1.2)) >>= fun x17 =>
        if x17 = true then
          some false
        else
          (law01_True F (z1.1, z1.2) x1) >>= fun x18 =>
          ((law01_SpeedMirrored_l2 F x18 F ([]) 0) >>= fun z3 =>
          (law01_rg (w64 (100000 - x12.1.2)) (w64 (100000 - x12.1.1))) >>= fun x21 =>
          (gd (decide ((x13.1.1, x13.1.2) = x21)) (speed_CheckSpeeds F (z1.1, z1.2) x18) 0) >>= fun x22 =>
          (gd ((decide ((x13.1.1, x13.1.2) = x21)) && (decide (x22 = 0))) (speed_CheckSpeeds F (z2.1, z2.2) z3) 0) >>= fun x23 =>
          (gd (((decide ((x13.1.1, x13.1.2) = x21)) && (decide (x22 = 0))) && (decide (x23 = 0))) (law01_Works F) false) >>= fun x24 =>
          some ((((decide ((x13.1.1, x13.1.2) = x21)) && (decide (x22 = 0))) && (decide (x23 = 0))) && x24))))
end Go.Proofs.Ythppacohnciinaa
