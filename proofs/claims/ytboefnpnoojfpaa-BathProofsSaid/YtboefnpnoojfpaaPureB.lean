/-
  Pure functions, one for each function of the program, as a program of our own printed them. No condition: definitions.
-/
import Derived.Test.YtboefnpnoojfpaaCopy
import Derived.Test.YtboefnpnoojfpaaMapw
import Derived.Test.YtboefnpnoojfpaaPureZ
import Derived.Test.YtboefnpnoojfpaaManG
import Derived.Test.YtboefnpnoojfpaaManH
namespace Go.Proofs.Ytboefnpnoojfpaa
open Go Go.Md Go.RowKit

-- 32 mandrel/bath.Weights
def bath_Weights (F : Nat) (x0 : ((List Int) × (List ((List Int) × (List Int))))) (x1 : (List Int)) (x2 : (List Int)) : Option ((List Int) × Int) :=
  (bath_open F (x0.1, x0.2) ([x1, x2] : List (List Int))) >>= fun x4 =>
  if (!decide (x4.2.2 = 0)) = true then
    some ([], x4.2.2)
  else
    (((ix x4.2.1 0) >>= fun x5 =>
    (ix x4.2.1 1) >>= fun x6 =>
    (x4.1.v) >>= fun x7 =>
    (bath_shop_solve F ((x7.1.1, x7.1.2), Opq.mk) x5 x6) >>= fun x8 =>
    some x8.1 : Option ((List Int))) >>= fun y1 =>
    if (decide ((y1.length : Int) = 0)) = true then
      some ([], 5)
    else
      some (y1, 0))

-- 40 mandrel/bath.Mix
def bath_Mix (F : Nat) (x0 : ((List Int) × (List ((List Int) × (List Int))))) (x1 : (List Int)) (x2 : (List Int)) : Option (((List Int) × Int) × Int) :=
  (bath_open F (x0.1, x0.2) ([x1, x2] : List (List Int))) >>= fun x4 =>
  if (!decide (x4.2.2 = 0)) = true then
    some (([], 0), x4.2.2)
  else
    (((ix x4.2.1 0) >>= fun x5 =>
    (ix x4.2.1 1) >>= fun x6 =>
    (x4.1.v) >>= fun x7 =>
    (bath_shop_solve F ((x7.1.1, x7.1.2), Opq.mk) x5 x6) >>= fun x8 =>
    some (x8.1, (x8.2.1, x8.2.2)) : Option ((List Int) × ((List Int) × Int))) >>= fun (y1, y2) =>
    if (decide (0 < (y1.length : Int))) = true then
      some (([], 0), 5)
    else
      some ((y2.1, y2.2), 0))

-- 13 mandrel/mandrellaw11.Works
def law11_Works (F : Nat)  : Option Bool :=
  (law11_Bath) >>= fun x1 =>
  (bath_Make F (x1.1, x1.2) ([5, 0, 0] : List Int) ([0, 1, 1, 2] : List Int)) >>= fun x2 =>
  (bath_Reach F (x1.1, x1.2) ([5, 0, 0] : List Int) ([0, 1, 3] : List Int)) >>= fun x3 =>
  (bath_Reach F (x1.1, x1.2) ([5, 0, 0] : List Int) ([0, 1, 4] : List Int)) >>= fun x4 =>
  (bath_CheckWeights F (x1.1, x1.2) ([1, 2, 1] : List Int)) >>= fun x5 =>
  (bath_Weights F (x1.1, x1.2) ([5, 0, 0] : List Int) ([0, 1, 4] : List Int)) >>= fun x6 =>
  (bath_Weights F (x1.1, x1.2) ([5, 0, 0] : List Int) ([0, 1, 3] : List Int)) >>= fun x7 =>
  (bath_Mix F (x1.1, x1.2) ([5, 0, 0] : List Int) ([0, 1, 3] : List Int)) >>= fun x8 =>
  (bath_Stocks F (x1.1, x1.2) ([5, 0, 0] : List Int)) >>= fun x9 =>
  (bath_Most F (x1.1, x1.2) ([5, 0, 0] : List Int) 2) >>= fun x10 =>
  (bath_Stuck F (x1.1, x1.2) ([5, 0, 0] : List Int)) >>= fun x11 =>
  (bath_Stuck F (x1.1, x1.2) ([1, 0, 4] : List Int)) >>= fun x12 =>
  (gd (((((((((((decide (x2.2 = 0)) && (decide (x3.2 = 0))) && (decide (x4.2 = 13))) && (decide (x5 = 0))) && (decide (x6.2 = 0))) && (decide (x7.2 = 5))) && (decide (x8.2 = 0))) && (decide (x9.2 = 0))) && (decide (x10.2.2 = 0))) && (decide (x11.2 = 5))) && (decide (x12.2 = 0))) (law11_longs F x2.1 ([3, 0, 2] : List Int)) false) >>= fun x13 =>
  (gd ((((((((((((decide (x2.2 = 0)) && (decide (x3.2 = 0))) && (decide (x4.2 = 13))) && (decide (x5 = 0))) && (decide (x6.2 = 0))) && (decide (x7.2 = 5))) && (decide (x8.2 = 0))) && (decide (x9.2 = 0))) && (decide (x10.2.2 = 0))) && (decide (x11.2 = 5))) && (decide (x12.2 = 0))) && x13) (law11_ints F x3.1 ([0, 1, 1, 1] : List Int)) false) >>= fun x14 =>
  (gd (((((((((((((decide (x2.2 = 0)) && (decide (x3.2 = 0))) && (decide (x4.2 = 13))) && (decide (x5 = 0))) && (decide (x6.2 = 0))) && (decide (x7.2 = 5))) && (decide (x8.2 = 0))) && (decide (x9.2 = 0))) && (decide (x10.2.2 = 0))) && (decide (x11.2 = 5))) && (decide (x12.2 = 0))) && x13) && x14) (law11_parts F (x1.1, x1.2) x6.1 ([5, 0, 0] : List Int) ([0, 1, 4] : List Int)) false) >>= fun x15 =>
  (gd ((((((((((((((decide (x2.2 = 0)) && (decide (x3.2 = 0))) && (decide (x4.2 = 13))) && (decide (x5 = 0))) && (decide (x6.2 = 0))) && (decide (x7.2 = 5))) && (decide (x8.2 = 0))) && (decide (x9.2 = 0))) && (decide (x10.2.2 = 0))) && (decide (x11.2 = 5))) && (decide (x12.2 = 0))) && x13) && x14) && x15) (ref11_CheckMix F (x1.1, x1.2) ([5, 0, 0] : List Int) ([0, 1, 3] : List Int) (x8.1.1, x8.1.2)) 0) >>= fun x16 =>
  (gd (((((((((((((((((decide (x2.2 = 0)) && (decide (x3.2 = 0))) && (decide (x4.2 = 13))) && (decide (x5 = 0))) && (decide (x6.2 = 0))) && (decide (x7.2 = 5))) && (decide (x8.2 = 0))) && (decide (x9.2 = 0))) && (decide (x10.2.2 = 0))) && (decide (x11.2 = 5))) && (decide (x12.2 = 0))) && x13) && x14) && x15) && (decide (x16 = 0))) && (decide (x9.1 = 10))) && (decide (x10.1 = 3))) (law11_ints F x10.2.1 ([0, 1, 1, 1] : List Int)) false) >>= fun x17 =>
  some (((((((((((((((((((decide (x2.2 = 0)) && (decide (x3.2 = 0))) && (decide (x4.2 = 13))) && (decide (x5 = 0))) && (decide (x6.2 = 0))) && (decide (x7.2 = 5))) && (decide (x8.2 = 0))) && (decide (x9.2 = 0))) && (decide (x10.2.2 = 0))) && (decide (x11.2 = 5))) && (decide (x12.2 = 0))) && x13) && x14) && x15) && (decide (x16 = 0))) && (decide (x9.1 = 10))) && (decide (x10.1 = 3))) && x17) && (decide ((x12.1.length : Int) = 0)))
end Go.Proofs.Ytboefnpnoojfpaa
