/-
  Pure functions, one for each function of the program, as a program of our own printed them. No condition: definitions.
-/
import Derived.Test.YtdimoehnkagghaaCopy
import Derived.Test.YtdimoehnkagghaaMapw
import Derived.Test.YtdimoehnkagghaaPureD
namespace Go.Proofs.Ytdimoehnkagghaa
open Go Go.Md Go.RowKit

-- 9 mandrel/mandrellaw10.RightProved
def law10_RightProved_l1 (F : Nat) (x8 : ((List Int) × Int)) : Nat → Int → Int → Option (Int)
  | 0, _, _ => none
  | m + 1, y1, y2 =>
    if (decide (y2 < (x8.1.length : Int))) = true then
      (((ix x8.1 y2) >>= fun x12 =>
      ((if (!decide (x12 = (-1))) = true then
        some (w64 (y1 + 1))
      else
        some y1 : Option (Int)) >>= fun y4 =>
      some y4) : Option (Int)) >>= fun y3 =>
      law10_RightProved_l1 F x8 m y3 (w64 (y2 + 1)))
    else
      some y1

def law10_RightProved_l2 (F : Nat) (x0 : (Int × (List Int) × (List ((List Int) × Int)) × (List ((List Int) × Int)) × (List (List Int)))) (x2 : (List (KI .u16))) : Nat → (List (List Int)) → Int → Option ((List (List Int)))
  | 0, _, _ => none
  | m + 1, y5, y6 =>
    if (decide (y6 < (x2.length : Int))) = true then
      (ix x2 y6) >>= fun x14 =>
      (law10_Granted F (x0.1, x0.2.1, x0.2.2.1, x0.2.2.2.1, x0.2.2.2.2) x14.v) >>= fun x15 =>
      (app 24 y5 ([x15] : List (List Int))) >>= fun x16 =>
      law10_RightProved_l2 F x0 x2 m x16 (w64 (y6 + 1))
    else
      some y5

def law10_RightProved (F : Nat) (x0 : (Int × (List Int) × (List ((List Int) × Int)) × (List ((List Int) × Int)) × (List (List Int)))) (x1 : Int) (x2 : (List (KI .u16))) : Option Bool :=
  (law10_fine F (x0.1, x0.2.1, x0.2.2.1, x0.2.2.2.1, x0.2.2.2.2)) >>= fun x4 =>
  if ((!x4) || (decide (20 < (x2.length : Int)))) = true then
    (law10_Works F) >>= fun x5 =>
    some x5
  else
    (right_Fewest F (x0.1, x0.2.1, x0.2.2.1, x0.2.2.2.1, x0.2.2.2.2)) >>= fun x6 =>
    (right_Conflicts F (x0.1, x0.2.1, x0.2.2.1, x0.2.2.2.1, x0.2.2.2.2)) >>= fun x7 =>
    (right_Decide F (x0.1, x0.2.1, x0.2.2.1, x0.2.2.2.1, x0.2.2.2.2)) >>= fun x8 =>
    (gd (!((((!decide (x6.2 = 0)) || (!decide (x7.2 = 0))) || (!decide (x8.2 = 0))) || (!decide ((x8.1.length : Int) = (x0.2.2.2.1.length : Int))))) (ref10_Check F (x0.1, x0.2.1, x0.2.2.1, x0.2.2.2.1, x0.2.2.2.2) x6.1) 0) >>= fun x9 =>
    (gd (!(((((!decide (x6.2 = 0)) || (!decide (x7.2 = 0))) || (!decide (x8.2 = 0))) || (!decide ((x8.1.length : Int) = (x0.2.2.2.1.length : Int)))) || (!decide (x9 = 0)))) (right_Check F (x0.1, x0.2.1, x0.2.2.1, x0.2.2.2.1, x0.2.2.2.2) x6.1) 0) >>= fun x10 =>
    if ((((((!decide (x6.2 = 0)) || (!decide (x7.2 = 0))) || (!decide (x8.2 = 0))) || (!decide ((x8.1.length : Int) = (x0.2.2.2.1.length : Int)))) || (!decide (x9 = 0))) || (!decide (x10 = 0))) = true then
      some false
    else
      (right_CheckConflicts F (x0.1, x0.2.1, x0.2.2.1, x0.2.2.2.1, x0.2.2.2.2) x7.1) >>= fun x11 =>
      if ((!decide (x11.2 = 0)) || (!decide (x11.1 = (w64 ((x0.2.2.2.1.length : Int) - (x6.1.length : Int)))))) = true then
        some false
      else
        ((law10_RightProved_l1 F x8 F 0 0) >>= fun z1 =>
        (law10_Granted F (x0.1, x0.2.1, x0.2.2.1, x0.2.2.2.1, x0.2.2.2.2) x1) >>= fun x13 =>
        ((law10_RightProved_l2 F x0 x2 F ([]) 0) >>= fun z2 =>
        (right_CheckConflicts F (x0.1, x0.2.1, x0.2.2.1, x0.2.2.2.1, x0.2.2.2.2) z2) >>= fun x17 =>
        if ((decide (z1 < (w64 ((x0.2.2.2.1.length : Int) - (x6.1.length : Int))))) || ((decide (x17.2 = 0)) && (decide ((w64 ((x0.2.2.2.1.length : Int) - (x6.1.length : Int))) < x17.1)))) = true then
          some false
        else
          (right_Check F (x0.1, x0.2.1, x0.2.2.1, x0.2.2.2.1, x0.2.2.2.2) x13) >>= fun x18 =>
          (gd ((!decide (x18 = 0)) || ((decide ((w64 ((x0.2.2.2.1.length : Int) - (x6.1.length : Int))) ≤ (w64 ((x0.2.2.2.1.length : Int) - (x13.length : Int))))) && ((!decide (x17.2 = 0)) || (decide (x17.1 ≤ (w64 ((x0.2.2.2.1.length : Int) - (x13.length : Int)))))))) (law10_Works F) false) >>= fun x19 =>
          some (((!decide (x18 = 0)) || ((decide ((w64 ((x0.2.2.2.1.length : Int) - (x6.1.length : Int))) ≤ (w64 ((x0.2.2.2.1.length : Int) - (x13.length : Int))))) && ((!decide (x17.2 = 0)) || (decide (x17.1 ≤ (w64 ((x0.2.2.2.1.length : Int) - (x13.length : Int)))))))) && x19)))

-- 10 mandrel/mandrellaw10.RightLess
def law10_RightLess_l1 (F : Nat) (x0 : (Int × (List Int) × (List ((List Int) × Int)) × (List ((List Int) × Int)) × (List (List Int)))) (x15 : Int) : Nat → Int → (Int × (List Int) × (List ((List Int) × Int)) × (List ((List Int) × Int)) × (List (List Int))) → Option ((Int × (List Int) × (List ((List Int) × Int)) × (List ((List Int) × Int)) × (List (List Int))))
  | 0, _, _ => none
  | m + 1, y1, y2 =>
    if (decide (y1 < x0.1)) = true then
      (((gd (!(decide (y1 = x15))) (ref10_In F x0.2.1 y1) false) >>= fun x16 =>
      ((if ((decide (y1 = x15)) || x16) = true then
        (app 8 y2.2.1 ([y1] : List Int)) >>= fun x17 =>
        some (y2.1, x17, x0.2.2.1, x0.2.2.2.1, x0.2.2.2.2)
      else
        some (y2.1, y2.2.1, x0.2.2.1, x0.2.2.2.1, x0.2.2.2.2) : Option ((Int × (List Int) × (List ((List Int) × Int)) × (List ((List Int) × Int)) × (List (List Int))))) >>= fun y4 =>
      some (y4.1, y4.2.1, x0.2.2.1, x0.2.2.2.1, x0.2.2.2.2)) : Option ((Int × (List Int) × (List ((List Int) × Int)) × (List ((List Int) × Int)) × (List (List Int))))) >>= fun y3 =>
      law10_RightLess_l1 F x0 x15 m (w64 (y1 + 1)) (y3.1, y3.2.1, x0.2.2.1, x0.2.2.2.1, x0.2.2.2.2))
    else
      some (y2.1, y2.2.1, x0.2.2.1, x0.2.2.2.1, x0.2.2.2.2)

def law10_RightLess_l2 (F : Nat) (x0 : (Int × (List Int) × (List ((List Int) × Int)) × (List ((List Int) × Int)) × (List (List Int)))) (x8 : (List Int)) (x10 : ((List Int) × Int)) (y5 : (Int × (List Int) × (List ((List Int) × Int)) × (List ((List Int) × Int)) × (List (List Int)))) (z1 : (Int × (List Int) × (List ((List Int) × Int)) × (List ((List Int) × Int)) × (List (List Int)))) : Nat → Int → Option (Sum Bool (Unit))
  | 0, _ => none
  | m + 1, y6 =>
    if (decide (y6 < 2)) = true then
      (((ix ([(z1.1, z1.2.1, x0.2.2.1, x0.2.2.2.1, x0.2.2.2.2), (y5.1, x0.2.1, y5.2.2.1, x0.2.2.2.1, x0.2.2.2.2)] : List (Int × (List Int) × (List ((List Int) × Int)) × (List ((List Int) × Int)) × (List (List Int)))) y6) >>= fun x20 =>
      (law10_fine F (x20.1, x20.2.1, x20.2.2.1, x20.2.2.2.1, x20.2.2.2.2)) >>= fun x21 =>
      if (!x21) = true then
        some (.inr ())
      else
        (ix ([(z1.1, z1.2.1, x0.2.2.1, x0.2.2.2.1, x0.2.2.2.2), (y5.1, x0.2.1, y5.2.2.1, x0.2.2.2.1, x0.2.2.2.2)] : List (Int × (List Int) × (List ((List Int) × Int)) × (List ((List Int) × Int)) × (List (List Int)))) y6) >>= fun x22 =>
        (right_Holds F (x22.1, x22.2.1, x22.2.2.1, x22.2.2.2.1, x22.2.2.2.2) x8) >>= fun x23 =>
        ((if (!decide (x23.2 = 0)) = true then
          if true = true then
            some true
          else
            (ix ([(z1.1, z1.2.1, x0.2.2.1, x0.2.2.2.1, x0.2.2.2.2), (y5.1, x0.2.1, y5.2.2.1, x0.2.2.2.1, x0.2.2.2.2)] : List (Int × (List Int) × (List ((List Int) × Int)) × (List ((List Int) × Int)) × (List (List Int)))) y6) >>= fun x25 =>
            (right_Check F (x25.1, x25.2.1, x25.2.2.1, x25.2.2.2.1, x25.2.2.2.2) x8) >>= fun x26 =>
            if (decide (x26 = 0)) = true then
              (right_Check F (x0.1, x0.2.1, x0.2.2.1, x0.2.2.2.1, x0.2.2.2.2) x8) >>= fun x27 =>
              some (!decide (x27 = 0))
            else
              some false
        else
          (law10_there F x23.1 x10.1) >>= fun x28 =>
          if (!x28) = true then
            some true
          else
            (ix ([(z1.1, z1.2.1, x0.2.2.1, x0.2.2.2.1, x0.2.2.2.2), (y5.1, x0.2.1, y5.2.2.1, x0.2.2.2.1, x0.2.2.2.2)] : List (Int × (List Int) × (List ((List Int) × Int)) × (List ((List Int) × Int)) × (List (List Int)))) y6) >>= fun x29 =>
            (right_Check F (x29.1, x29.2.1, x29.2.2.1, x29.2.2.2.1, x29.2.2.2.2) x8) >>= fun x30 =>
            if (decide (x30 = 0)) = true then
              (right_Check F (x0.1, x0.2.1, x0.2.2.1, x0.2.2.2.1, x0.2.2.2.2) x8) >>= fun x31 =>
              some (!decide (x31 = 0))
            else
              some false : Option (Bool)) >>= fun y7 =>
        if y7 = true then
          some (.inl false)
        else
          some (.inr ())) : Option (Sum Bool (Unit))) >>= fun o => match o with
        | .inl r => some (.inl r)
        | .inr () =>
          law10_RightLess_l2 F x0 x8 x10 y5 z1 m (w64 (y6 + 1)))
    else
      some (.inr ())

def law10_RightLess (F : Nat) (x0 : (Int × (List Int) × (List ((List Int) × Int)) × (List ((List Int) × Int)) × (List (List Int)))) (x1 : Int) (x2 : Int) (x3 : Int) (x4 : ((List Int) × Int)) : Option Bool :=
  (law10_fine F (x0.1, x0.2.1, x0.2.2.1, x0.2.2.2.1, x0.2.2.2.2)) >>= fun x6 =>
  if (!x6) = true then
    (law10_Works F) >>= fun x7 =>
    some x7
  else
    (law10_Granted F (x0.1, x0.2.1, x0.2.2.1, x0.2.2.2.1, x0.2.2.2.2) x1) >>= fun x8 =>
    (law10_Granted F (x0.1, x0.2.1, x0.2.2.1, x0.2.2.2.1, x0.2.2.2.2) (band .u16 x1 x2)) >>= fun x9 =>
    (right_Holds F (x0.1, x0.2.1, x0.2.2.1, x0.2.2.2.1, x0.2.2.2.2) x8) >>= fun x10 =>
    (right_Holds F (x0.1, x0.2.1, x0.2.2.1, x0.2.2.2.1, x0.2.2.2.2) x9) >>= fun x11 =>
    (gd (!((!decide (x10.2 = 0)) || (!decide (x11.2 = 0)))) (law10_there F x10.1 x11.1) false) >>= fun x12 =>
    (gd (!(((!decide (x10.2 = 0)) || (!decide (x11.2 = 0))) || (!x12))) (right_Check F (x0.1, x0.2.1, x0.2.2.1, x0.2.2.2.1, x0.2.2.2.2) x8) 0) >>= fun x13 =>
    (gd ((!(((!decide (x10.2 = 0)) || (!decide (x11.2 = 0))) || (!x12))) && (decide (x13 = 0))) (right_Check F (x0.1, x0.2.1, x0.2.2.1, x0.2.2.2.1, x0.2.2.2.2) x9) 0) >>= fun x14 =>
    if ((((!decide (x10.2 = 0)) || (!decide (x11.2 = 0))) || (!x12)) || ((decide (x13 = 0)) && (!decide (x14 = 0)))) = true then
      some false
    else
      ((some () : Option (Unit)) >>= fun _ =>
      (rem (w64 x3) x0.1) >>= fun x15 =>
      ((law10_RightLess_l1 F x0 x15 F 0 (x0.1, [], x0.2.2.1, x0.2.2.2.1, x0.2.2.2.2)) >>= fun z1 =>
      (((app 32 ([] : List ((List Int) × Int)) x0.2.2.1) >>= fun x18 =>
      (app 32 x18 ([(x4.1, x4.2)] : List ((List Int) × Int))) >>= fun x19 =>
      some (x0.1, x0.2.1, x19, x0.2.2.2.1, x0.2.2.2.2) : Option ((Int × (List Int) × (List ((List Int) × Int)) × (List ((List Int) × Int)) × (List (List Int))))) >>= fun y5 =>
      ((law10_RightLess_l2 F x0 x8 x10 y5 z1 F 0) >>= fun o => match o with
        | .inl r => some r
        | .inr () =>
          (law10_Works F) >>= fun x32 =>
          some x32))))

-- 11 mandrel/mandrellaw10.RightOrdered
def law10_RightOrdered_l1 (F : Nat) (x0 : (Int × (List Int) × (List ((List Int) × Int)) × (List ((List Int) × Int)) × (List (List Int)))) (x2 : Int) : Nat → Int → (Int × (List Int) × (List ((List Int) × Int)) × (List ((List Int) × Int)) × (List (List Int))) → Option ((Int × (List Int) × (List ((List Int) × Int)) × (List ((List Int) × Int)) × (List (List Int))))
  | 0, _, _ => none
  | m + 1, y1, y2 =>
    if (decide (y1 < (x0.2.2.1.length : Int))) = true then
      (rem (w64 (y1 + (w64 x2))) (x0.2.2.1.length : Int)) >>= fun x8 =>
      (ix x0.2.2.1 x8) >>= fun x9 =>
      (app 32 y2.2.2.1 ([(x9.1, x9.2)] : List ((List Int) × Int))) >>= fun x10 =>
      law10_RightOrdered_l1 F x0 x2 m (w64 (y1 + 1)) (y2.1, x0.2.1, x10, x0.2.2.2.1, x0.2.2.2.2)
    else
      some (y2.1, x0.2.1, y2.2.2.1, x0.2.2.2.1, x0.2.2.2.2)

def law10_RightOrdered (F : Nat) (x0 : (Int × (List Int) × (List ((List Int) × Int)) × (List ((List Int) × Int)) × (List (List Int)))) (x1 : Int) (x2 : Int) (x3 : Int) (x4 : Int) : Option Bool :=
  (law10_fine F (x0.1, x0.2.1, x0.2.2.1, x0.2.2.2.1, x0.2.2.2.2)) >>= fun x6 =>
  if (!x6) = true then
    (law10_Works F) >>= fun x7 =>
    some x7
  else
    ((law10_RightOrdered_l1 F x0 x2 F 0 (x0.1, x0.2.1, [], x0.2.2.2.1, x0.2.2.2.2)) >>= fun z1 =>
    ((if ((decide (0 < (x0.2.1.length : Int))) && (decide ((x0.2.2.1.length : Int) < 40))) = true then
      (rem (w64 x3) (x0.2.1.length : Int)) >>= fun x11 =>
      (ix x0.2.1 x11) >>= fun x12 =>
      (rem (w64 x4) x0.1) >>= fun x13 =>
      (app 32 z1.2.2.1 ([(([x13] : List Int), x12)] : List ((List Int) × Int))) >>= fun x14 =>
      some (z1.1, x0.2.1, x14, x0.2.2.2.1, x0.2.2.2.2)
    else
      some (z1.1, x0.2.1, z1.2.2.1, x0.2.2.2.1, x0.2.2.2.2) : Option ((Int × (List Int) × (List ((List Int) × Int)) × (List ((List Int) × Int)) × (List (List Int))))) >>= fun y3 =>
    (law10_Granted F (x0.1, x0.2.1, x0.2.2.1, x0.2.2.2.1, x0.2.2.2.2) x1) >>= fun x15 =>
    (right_Holds F (x0.1, x0.2.1, x0.2.2.1, x0.2.2.2.1, x0.2.2.2.2) x15) >>= fun x16 =>
    (right_Holds F (y3.1, x0.2.1, y3.2.2.1, x0.2.2.2.1, x0.2.2.2.2) x15) >>= fun x17 =>
    (right_Decide F (x0.1, x0.2.1, x0.2.2.1, x0.2.2.2.1, x0.2.2.2.2)) >>= fun x18 =>
    (right_Decide F (y3.1, x0.2.1, y3.2.2.1, x0.2.2.2.1, x0.2.2.2.2)) >>= fun x19 =>
    (right_Fewest F (x0.1, x0.2.1, x0.2.2.1, x0.2.2.2.1, x0.2.2.2.2)) >>= fun x20 =>
    (right_Fewest F (y3.1, x0.2.1, y3.2.2.1, x0.2.2.2.1, x0.2.2.2.2)) >>= fun x21 =>
    (gd ((((((decide (x16.2 = 0)) && (decide (x17.2 = 0))) && (decide (x18.2 = 0))) && (decide (x19.2 = 0))) && (decide (x20.2 = 0))) && (decide (x21.2 = 0))) (law10_ints F x16.1 x17.1) false) >>= fun x22 =>
    (gd (((((((decide (x16.2 = 0)) && (decide (x17.2 = 0))) && (decide (x18.2 = 0))) && (decide (x19.2 = 0))) && (decide (x20.2 = 0))) && (decide (x21.2 = 0))) && x22) (law10_ints F x18.1 x19.1) false) >>= fun x23 =>
    (gd ((((((((decide (x16.2 = 0)) && (decide (x17.2 = 0))) && (decide (x18.2 = 0))) && (decide (x19.2 = 0))) && (decide (x20.2 = 0))) && (decide (x21.2 = 0))) && x22) && x23) (law10_ints F x20.1 x21.1) false) >>= fun x24 =>
    (gd (((((((((decide (x16.2 = 0)) && (decide (x17.2 = 0))) && (decide (x18.2 = 0))) && (decide (x19.2 = 0))) && (decide (x20.2 = 0))) && (decide (x21.2 = 0))) && x22) && x23) && x24) (law10_Works F) false) >>= fun x25 =>
    some ((((((((((decide (x16.2 = 0)) && (decide (x17.2 = 0))) && (decide (x18.2 = 0))) && (decide (x19.2 = 0))) && (decide (x20.2 = 0))) && (decide (x21.2 = 0))) && x22) && x23) && x24) && x25)))
end Go.Proofs.Ytdimoehnkagghaa
