/-
  Pure functions, one for each function of the program, as a program of our own printed them. No condition: definitions.
-/
import Derived.Test.YtboefnpnoojfpaaCopy
import Derived.Test.YtboefnpnoojfpaaMapw
import Derived.Test.YtboefnpnoojfpaaPureB
import Derived.Test.YtboefnpnoojfpaaManI
namespace Go.Proofs.Ytboefnpnoojfpaa
open Go Go.Md Go.RowKit

-- 9 mandrel/mandrellaw11.BathProofs
def law11_BathProofs (F : Nat) (x0 : ((List Int) × (List ((List Int) × (List Int))))) (x1 : (List Int)) (x2 : (List Int)) (x3 : (List Int)) (x4 : ((List Int) × Int)) : Option Bool :=
  (law11_great F (x0.1, x0.2)) >>= fun x6 =>
  if ((((x6 || (decide (10 < (x1.length : Int)))) || (decide (10 < (x2.length : Int)))) || (decide (10 < (x3.length : Int)))) || (decide (12 < (x4.1.length : Int)))) = true then
    (law11_Works F) >>= fun x7 =>
    some x7
  else
    (bath_CheckWeights F (x0.1, x0.2) x3) >>= fun x8 =>
    (ref11_CheckWeights F (x0.1, x0.2) x3) >>= fun x9 =>
    (gd (!(!decide (x8 = x9))) (bath_CheckMix F (x0.1, x0.2) x1 x2 (x4.1, x4.2)) 0) >>= fun x10 =>
    (gd (!(!decide (x8 = x9))) (ref11_CheckMix F (x0.1, x0.2) x1 x2 (x4.1, x4.2)) 0) >>= fun x11 =>
    if ((!decide (x8 = x9)) || (!decide (x10 = x11))) = true then
      some false
    else
      (bath_Weights F (x0.1, x0.2) x1 x2) >>= fun x12 =>
      (bath_Mix F (x0.1, x0.2) x1 x2) >>= fun x13 =>
      (ref11_Two F (x0.1, x0.2) x1 x2) >>= fun x14 =>
      if (!decide (x14 = 0)) = true then
        (gd (((((decide (x12.2 = x14)) && (decide (x13.2 = x14))) && (decide ((x12.1.length : Int) = 0))) && (decide ((x13.1.1.length : Int) = 0))) && (decide (x13.1.2 = 0))) (law11_Works F) false) >>= fun x15 =>
        some ((((((decide (x12.2 = x14)) && (decide (x13.2 = x14))) && (decide ((x12.1.length : Int) = 0))) && (decide ((x13.1.1.length : Int) = 0))) && (decide (x13.1.2 = 0))) && x15)
      else
        (ref11_Mixed F (x0.1, x0.2) x1 x2) >>= fun x16 =>
        if x16 = true then
          (gd (((decide (x12.2 = 5)) && (decide (x13.2 = 0))) && (decide ((x12.1.length : Int) = 0))) (ref11_CheckMix F (x0.1, x0.2) x1 x2 (x13.1.1, x13.1.2)) 0) >>= fun x17 =>
          (gd ((((decide (x12.2 = 5)) && (decide (x13.2 = 0))) && (decide ((x12.1.length : Int) = 0))) && (decide (x17 = 0))) (law11_Works F) false) >>= fun x18 =>
          some (((((decide (x12.2 = 5)) && (decide (x13.2 = 0))) && (decide ((x12.1.length : Int) = 0))) && (decide (x17 = 0))) && x18)
        else
          (gd ((decide (x12.2 = 0)) && (decide (x13.2 = 5))) (law11_parts F (x0.1, x0.2) x12.1 x1 x2) false) >>= fun x19 =>
          (gd (((((decide (x12.2 = 0)) && (decide (x13.2 = 5))) && x19) && (decide ((x13.1.1.length : Int) = 0))) && (decide (x13.1.2 = 0))) (law11_Works F) false) >>= fun x20 =>
          some ((((((decide (x12.2 = 0)) && (decide (x13.2 = 5))) && x19) && (decide ((x13.1.1.length : Int) = 0))) && (decide (x13.1.2 = 0))) && x20)
end Go.Proofs.Ytboefnpnoojfpaa
