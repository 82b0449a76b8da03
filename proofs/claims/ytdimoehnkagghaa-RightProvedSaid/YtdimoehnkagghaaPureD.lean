/-
  Pure functions, one for each function of the program, as a program of our own printed them. No condition: definitions.
-/
import Derived.Test.YtdimoehnkagghaaCopy
import Derived.Test.YtdimoehnkagghaaMapw
import Derived.Test.YtdimoehnkagghaaPureC
namespace Go.Proofs.Ytdimoehnkagghaa
open Go Go.Md Go.RowKit

-- 45 (*mandrel/right.treaty).chain
def right_treaty_chain_l2 (F : Nat) : List ((Bool × Int) × Int × Int) → (List Int) → (List (Int × ((Bool × Int) × Int × Int))) → Option ((List Int) × (List (Int × ((Bool × Int) × Int × Int))))
  | [], y4, y5 => some (y4, y5)
  | x6 :: us, y4, y5 =>
    (((kok x6.2.2) >>= fun x7 =>
    ((if (decide ((mget ((false, 0), 0, 0) y5 x6.2.2) = ((false, 0), 0, 0))) = true then
      (kok x6.2.2) >>= fun x8 =>
      (app 8 y4 ([x6.2.2] : List Int)) >>= fun x9 =>
      some (x9, (mput y5 x6.2.2 ((x6.1.1, x6.1.2), x6.2.1, x6.2.2)))
    else
      some (y4, y5) : Option ((List Int) × (List (Int × ((Bool × Int) × Int × Int))))) >>= fun (y8, y9) =>
    some (y8, y9)) : Option ((List Int) × (List (Int × ((Bool × Int) × Int × Int))))) >>= fun (y6, y7) =>
    right_treaty_chain_l2 F us y6 y7)

def right_treaty_chain_l3 (F : Nat) (z3 : (List Int)) : Nat → Int → Int → Option (Int)
  | 0, _, _ => none
  | m + 1, y10, y11 =>
    if (decide (y11 < (z3.length : Int))) = true then
      (ix z3 y11) >>= fun x10 =>
      right_treaty_chain_l3 F z3 m (bor .i64 y10 x10) (w64 (y11 + 1))
    else
      some y10

def right_treaty_chain_l1 (F : Nat) (x0 : ((Int × (List Int) × (List ((List Int) × Int)) × (List ((List Int) × Int)) × (List (List Int))) × Int × (List ((Bool × Int) × Int × Int)) × (List Int))) (x1 : Int) (x4 : Int) : Nat → Int → (List Int) → (List (Int × ((Bool × Int) × Int × Int))) → Option ((List Int) × (List (Int × ((Bool × Int) × Int × Int))))
  | 0, _, _, _ => none
  | m + 1, y1, y2, y3 =>
    (right_treaty_usable ((x0.1.1, x0.1.2.1, x0.1.2.2.1, x0.1.2.2.2.1, x0.1.2.2.2.2), x0.2.1, x0.2.2.1, x0.2.2.2) x1 y1) >>= fun x5 =>
    ((right_treaty_chain_l2 F x5 y2 y3) >>= fun (z3, z4) =>
    ((right_treaty_chain_l3 F z3 F y1 0) >>= fun z5 =>
    if (decide ((bandn .i64 x4 z5) = 0)) = true then
      some (z3, z4)
    else
      right_treaty_chain_l1 F x0 x1 x4 m z5 z3 z4))

def right_treaty_chain_l4 (F : Nat) (z1 : (List Int)) : Nat → Int → Int → (List (Int × ((Bool × Int) × Int × Int))) → Option ((List (Int × ((Bool × Int) × Int × Int))))
  | 0, _, _, _ => none
  | m + 1, y12, y13, y14 =>
    if (decide (0 ≤ y13)) = true then
      (((ix z1 y13) >>= fun x11 =>
      (kok x11) >>= fun x12 =>
      ((if (!decide ((band .i64 y12 ((mget ((false, 0), 0, 0) y14 x11).2.2)) = 0)) = true then
        some (bor .i64 y12 ((mget ((false, 0), 0, 0) y14 x11).2.1), y14)
      else
        (ix z1 y13) >>= fun x13 =>
        (kok x13) >>= fun x14 =>
        some (y12, (mdel y14 x13)) : Option (Int × (List (Int × ((Bool × Int) × Int × Int))))) >>= fun (y17, y18) =>
      some (y17, y18)) : Option (Int × (List (Int × ((Bool × Int) × Int × Int))))) >>= fun (y15, y16) =>
      right_treaty_chain_l4 F z1 m y15 (w64 (y13 - 1)) y16)
    else
      some y14

def right_treaty_chain_l5 (F : Nat) (z1 : (List Int)) (z6 : (List (Int × ((Bool × Int) × Int × Int)))) : Nat → (List (Bool × Int)) → Int → Option ((List (Bool × Int)))
  | 0, _, _ => none
  | m + 1, y19, y20 =>
    if (decide (y20 < (z1.length : Int))) = true then
      (((ix z1 y20) >>= fun x15 =>
      (kok x15) >>= fun x16 =>
      ((if (mhas z6 x15) = true then
        (app 16 y19 ([(((mget ((false, 0), 0, 0) z6 x15).1).1, ((mget ((false, 0), 0, 0) z6 x15).1).2)] : List (Bool × Int))) >>= fun x17 =>
        some x17
      else
        some y19 : Option ((List (Bool × Int)))) >>= fun y22 =>
      some y22) : Option ((List (Bool × Int)))) >>= fun y21 =>
      right_treaty_chain_l5 F z1 z6 m y21 (w64 (y20 + 1)))
    else
      some y19

def right_treaty_chain (F : Nat) (x0 : ((Int × (List Int) × (List ((List Int) × Int)) × (List ((List Int) × Int)) × (List (List Int))) × Int × (List ((Bool × Int) × Int × Int)) × (List Int))) (x1 : Int) (x2 : Int) : Option (List (Bool × Int)) :=
  (ix x0.2.2.2 x2) >>= fun x4 =>
  ((right_treaty_chain_l1 F x0 x1 x4 F x0.2.1 ([]) ([] : (List (Int × ((Bool × Int) × Int × Int))))) >>= fun (z1, z2) =>
  ((right_treaty_chain_l4 F z1 F x4 (w64 ((z1.length : Int) - 1)) z2) >>= fun z6 =>
  ((right_treaty_chain_l5 F z1 z6 F ([]) 0) >>= fun z7 =>
  some z7)))

-- 16 mandrel/right.Broken
def right_Broken (F : Nat) (x0 : (Int × (List Int) × (List ((List Int) × Int)) × (List ((List Int) × Int)) × (List (List Int)))) (x1 : (List Int)) : Option (Int × (List (Bool × Int)) × Int) :=
  (right_open F (x0.1, x0.2.1, x0.2.2.1, x0.2.2.2.1, x0.2.2.2.2) x1) >>= fun x3 =>
  if (!decide (x3.2.2 = 0)) = true then
    some (0, [], x3.2.2)
  else
    (x3.1.v) >>= fun x4 =>
    (right_treaty_broken F ((x4.1.1, x4.1.2.1, x4.1.2.2.1, x4.1.2.2.2.1, x4.1.2.2.2.2), x4.2.1, x4.2.2.1, x4.2.2.2) x3.2.1) >>= fun x5 =>
    if (decide (x5 < 0)) = true then
      some (0, [], 5)
    else
      (right_treaty_chain F ((x4.1.1, x4.1.2.1, x4.1.2.2.1, x4.1.2.2.2.1, x4.1.2.2.2.2), x4.2.1, x4.2.2.1, x4.2.2.2) x3.2.1 x5) >>= fun x6 =>
      (mks 16 (x6.length : Int) ((false, 0))) >>= fun x7 =>
      some (x5, (rcopy x7 x6), 0)

-- 15 mandrel/mandrellaw10.Works
def law10_Works (F : Nat)  : Option Bool :=
  (law10_Book) >>= fun x1 =>
  (right_Holds F (x1.1, x1.2.1, x1.2.2.1, x1.2.2.2.1, x1.2.2.2.2) ([0] : List Int)) >>= fun x2 =>
  (right_Check F (x1.1, x1.2.1, x1.2.2.1, x1.2.2.2.1, x1.2.2.2.2) ([1] : List Int)) >>= fun x3 =>
  (right_Check F (x1.1, x1.2.1, x1.2.2.1, x1.2.2.2.1, x1.2.2.2.2) ([1, 2] : List Int)) >>= fun x4 =>
  (right_Broken F (x1.1, x1.2.1, x1.2.2.1, x1.2.2.2.1, x1.2.2.2.2) ([0] : List Int)) >>= fun x5 =>
  (right_CheckChain F (x1.1, x1.2.1, x1.2.2.1, x1.2.2.2.1, x1.2.2.2.2) ([0] : List Int) 0 ([(false, 0), (true, 0)] : List (Bool × Int))) >>= fun x6 =>
  (right_CheckChain F (x1.1, x1.2.1, x1.2.2.1, x1.2.2.2.1, x1.2.2.2.2) ([0] : List Int) 0 ([(true, 0)] : List (Bool × Int))) >>= fun x7 =>
  (right_Decide F (x1.1, x1.2.1, x1.2.2.1, x1.2.2.2.1, x1.2.2.2.2)) >>= fun x8 =>
  (right_Fewest F (x1.1, x1.2.1, x1.2.2.1, x1.2.2.2.1, x1.2.2.2.2)) >>= fun x9 =>
  (right_CheckConflicts F (x1.1, x1.2.1, x1.2.2.1, x1.2.2.2.1, x1.2.2.2.2) ([([0] : List Int), ([1, 2] : List Int)] : List (List Int))) >>= fun x10 =>
  (right_Conflicts F (x1.1, x1.2.1, x1.2.2.1, x1.2.2.2.1, x1.2.2.2.2)) >>= fun x11 =>
  if ((((((((((!decide (x2.2 = 0)) || (!decide (x3 = 0))) || (!decide (x4 = 23))) || (!decide (x5.2.2 = 0))) || (!decide (x6 = 16))) || (!decide (x7 = 14))) || (!decide (x8.2 = 0))) || (!decide (x9.2 = 0))) || (!decide (x10.2 = 0))) || (!decide (x11.2 = 0))) = true then
    some false
  else
    (ref10_CheckConflicts F (x1.1, x1.2.1, x1.2.2.1, x1.2.2.2.1, x1.2.2.2.2) x11.1) >>= fun x12 =>
    (gd (((decide (x12.2 = 0)) && (decide (x12.1 = 2))) && (decide (x10.1 = 2))) (law10_ints F x2.1 ([0, 1, 2, 3] : List Int)) false) >>= fun x13 =>
    (gd (((((decide (x12.2 = 0)) && (decide (x12.1 = 2))) && (decide (x10.1 = 2))) && x13) && (decide (x5.1 = 0))) (ref10_CheckChain F (x1.1, x1.2.1, x1.2.2.1, x1.2.2.2.1, x1.2.2.2.2) ([0] : List Int) 0 x5.2.1) 0) >>= fun x14 =>
    (gd ((((((decide (x12.2 = 0)) && (decide (x12.1 = 2))) && (decide (x10.1 = 2))) && x13) && (decide (x5.1 = 0))) && (decide (x14 = 0))) (law10_ints F x8.1 ([0, (-1), 0] : List Int)) false) >>= fun x15 =>
    (gd (((((((decide (x12.2 = 0)) && (decide (x12.1 = 2))) && (decide (x10.1 = 2))) && x13) && (decide (x5.1 = 0))) && (decide (x14 = 0))) && x15) (law10_ints F x9.1 ([1] : List Int)) false) >>= fun x16 =>
    some ((((((((decide (x12.2 = 0)) && (decide (x12.1 = 2))) && (decide (x10.1 = 2))) && x13) && (decide (x5.1 = 0))) && (decide (x14 = 0))) && x15) && x16)
end Go.Proofs.Ytdimoehnkagghaa
