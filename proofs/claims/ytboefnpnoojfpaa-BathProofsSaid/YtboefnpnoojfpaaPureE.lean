/-
  Pure functions, one for each function of the program, as a program of our own printed them. No condition: definitions.
-/
import Derived.Test.YtboefnpnoojfpaaCopy
import Derived.Test.YtboefnpnoojfpaaMapw
import Derived.Test.YtboefnpnoojfpaaPureB
namespace Go.Proofs.Ytboefnpnoojfpaa
open Go Go.Md Go.RowKit

-- 7 mandrel/mandrellaw11.BathOver
def law11_BathOver_l1 (F : Nat) (x0 : ((List Int) × (List ((List Int) × (List Int))))) (x1 : (List Int)) (x2 : (List Int)) (x13 : ((List Int) × Int)) (x16 : (Int × Int)) (x20 : Int) (x21 : Int) (y1 : ((List Int) × (List ((List Int) × (List Int))))) (y2 : ((List Int) × (List ((List Int) × (List Int))))) : Nat → Int → Option (Sum Bool (Unit))
  | 0, _ => none
  | m + 1, y3 =>
    if (decide (y3 < 2)) = true then
      (((ix ([(y1.1, y1.2), ((rset y2.1 x20 (w64 (x21 + 1))), x0.2)] : List ((List Int) × (List ((List Int) × (List Int))))) y3) >>= fun x23 =>
      (law11_fine F (x23.1, x23.2) x1) >>= fun x24 =>
      if (!x24) = true then
        some (.inr ())
      else
        (ix ([(y1.1, y1.2), ((rset y2.1 x20 (w64 (x21 + 1))), x0.2)] : List ((List Int) × (List ((List Int) × (List Int))))) y3) >>= fun x25 =>
        (bath_Reach F (x25.1, x25.2) x1 x2) >>= fun x26 =>
        (ix ([(y1.1, y1.2), ((rset y2.1 x20 (w64 (x21 + 1))), x0.2)] : List ((List Int) × (List ((List Int) × (List Int))))) y3) >>= fun x27 =>
        (bath_Stocks F (x27.1, x27.2) x1) >>= fun x28 =>
        if (((!decide (x28.2 = 0)) || (decide (x28.1 < x16.1))) || ((decide (x13.2 = 0)) && ((!decide (x26.2 = 0)) || (decide ((x13.1.length : Int) < (x26.1.length : Int)))))) = true then
          some (.inl false)
        else
          some (.inr ()) : Option (Sum Bool (Unit))) >>= fun o => match o with
        | .inl r => some (.inl r)
        | .inr () =>
          law11_BathOver_l1 F x0 x1 x2 x13 x16 x20 x21 y1 y2 m (w64 (y3 + 1)))
    else
      some (.inr ())

def law11_BathOver (F : Nat) (x0 : ((List Int) × (List ((List Int) × (List Int))))) (x1 : (List Int)) (x2 : (List Int)) (x3 : (List (KI .u8))) (x4 : ((List Int) × (List Int))) (x5 : Int) : Option Bool :=
  (law11_fine F (x0.1, x0.2) x1) >>= fun x7 =>
  (gd (!((!x7) || (decide (10 < (x2.length : Int))))) (ref11_One F (x0.1, x0.2) x2) 0) >>= fun x8 =>
  if ((((!x7) || (decide (10 < (x2.length : Int)))) || (!decide (x8 = 0))) || (decide (30 < (x3.length : Int)))) = true then
    (law11_Works F) >>= fun x9 =>
    some x9
  else
    (law11_Walk F (x0.1, x0.2) x1 x3) >>= fun x10 =>
    (bath_Make F (x0.1, x0.2) x1 x10) >>= fun x11 =>
    (gd (!(!decide (x11.2 = 0))) (ref11_One F (x0.1, x0.2) x11.1) 0) >>= fun x12 =>
    if ((!decide (x11.2 = 0)) || (!decide (x12 = 0))) = true then
      some false
    else
      (bath_Reach F (x0.1, x0.2) x1 x2) >>= fun x13 =>
      (bath_Reach F (x0.1, x0.2) x1 x11.1) >>= fun x14 =>
      (bath_Reach F (x0.1, x0.2) x11.1 x2) >>= fun x15 =>
      (bath_Stocks F (x0.1, x0.2) x1) >>= fun x16 =>
      if ((((!decide (x14.2 = 0)) || (!decide (x16.2 = 0))) || ((decide (x15.2 = 0)) && ((!decide (x13.2 = 0)) || (decide ((w64 ((x14.1.length : Int) + (x15.1.length : Int))) < (x13.1.length : Int)))))) || ((!decide (x13.2 = 0)) && (!decide (x13.2 = 13)))) = true then
        some false
      else
        (((app 48 ([] : List ((List Int) × (List Int))) x0.2) >>= fun x17 =>
        (app 48 x17 ([(x4.1, x4.2)] : List ((List Int) × (List Int)))) >>= fun x18 =>
        some (x0.1, x18) : Option (((List Int) × (List ((List Int) × (List Int)))))) >>= fun y1 =>
        (((app 8 ([] : List Int) x0.1) >>= fun x19 =>
        some (x19, x0.2) : Option (((List Int) × (List ((List Int) × (List Int)))))) >>= fun y2 =>
        (rem (w64 x5) (y2.1.length : Int)) >>= fun x20 =>
        (ix y2.1 x20) >>= fun x21 =>
        (ix y2.1 x20) >>= fun x22 =>
        ((law11_BathOver_l1 F x0 x1 x2 x13 x16 x20 x21 y1 y2 F 0) >>= fun o => match o with
          | .inl r => some r
          | .inr () =>
            (law11_Works F) >>= fun x29 =>
            some x29)))
end Go.Proofs.Ytboefnpnoojfpaa
