/-
  Pure functions, one for each function of the program, as a program of our own printed them. No condition: definitions.
-/
import Derived.Test.YtdimoehnkagghaaCopy
import Derived.Test.YtdimoehnkagghaaMapw
import Derived.Test.YtdimoehnkagghaaPureD
namespace Go.Proofs.Ytdimoehnkagghaa
open Go Go.Md Go.RowKit

-- 3 mandrel/mandrellaw10.RightChains
def law10_RightChains (F : Nat) (x0 : (Int × (List Int) × (List ((List Int) × Int)) × (List ((List Int) × Int)) × (List (List Int)))) (x1 : (List Int)) (x2 : Int) (x3 : (List (Bool × Int))) : Option Bool :=
  (law10_great F (x0.1, x0.2.1, x0.2.2.1, x0.2.2.2.1, x0.2.2.2.2)) >>= fun x5 =>
  if ((x5 || (decide (20 < (x1.length : Int)))) || (decide (100 < (x3.length : Int)))) = true then
    (law10_Works F) >>= fun x6 =>
    some x6
  else
    (right_Broken F (x0.1, x0.2.1, x0.2.2.1, x0.2.2.2.1, x0.2.2.2.2) x1) >>= fun x7 =>
    (right_CheckChain F (x0.1, x0.2.1, x0.2.2.1, x0.2.2.2.1, x0.2.2.2.2) x1 x2 x3) >>= fun x8 =>
    (ref10_CheckChain F (x0.1, x0.2.1, x0.2.2.1, x0.2.2.2.1, x0.2.2.2.2) x1 x2 x3) >>= fun x9 =>
    (gd (!(!decide (x8 = x9))) (ref10_BrokenError F (x0.1, x0.2.1, x0.2.2.1, x0.2.2.2.1, x0.2.2.2.2) x1) 0) >>= fun x10 =>
    if ((!decide (x8 = x9)) || (!decide (x7.2.2 = x10))) = true then
      some false
    else
      if (!decide (x7.2.2 = 0)) = true then
        (gd ((decide (x7.1 = 0)) && (decide ((x7.2.1.length : Int) = 0))) (law10_Works F) false) >>= fun x11 =>
        some (((decide (x7.1 = 0)) && (decide ((x7.2.1.length : Int) = 0))) && x11)
      else
        (ref10_Taboo F (x0.1, x0.2.1, x0.2.2.1, x0.2.2.2.1, x0.2.2.2.2) x1) >>= fun x12 =>
        (gd ((decide (x7.1 = x12)) && (decide ((x7.2.1.length : Int) ≤ 30))) (ref10_CheckChain F (x0.1, x0.2.1, x0.2.2.1, x0.2.2.2.1, x0.2.2.2.2) x1 x7.1 x7.2.1) 0) >>= fun x13 =>
        (gd (((decide (x7.1 = x12)) && (decide ((x7.2.1.length : Int) ≤ 30))) && (decide (x13 = 0))) (law10_Works F) false) >>= fun x14 =>
        some ((((decide (x7.1 = x12)) && (decide ((x7.2.1.length : Int) ≤ 30))) && (decide (x13 = 0))) && x14)

-- 4 mandrel/mandrellaw10.RightDecides
def law10_RightDecides (F : Nat) (x0 : (Int × (List Int) × (List ((List Int) × Int)) × (List ((List Int) × Int)) × (List (List Int)))) : Option Bool :=
  (law10_great F (x0.1, x0.2.1, x0.2.2.1, x0.2.2.2.1, x0.2.2.2.2)) >>= fun x2 =>
  if x2 = true then
    (law10_Works F) >>= fun x3 =>
    some x3
  else
    (right_Decide F (x0.1, x0.2.1, x0.2.2.1, x0.2.2.2.1, x0.2.2.2.2)) >>= fun x4 =>
    (ref10_Decide F (x0.1, x0.2.1, x0.2.2.1, x0.2.2.2.1, x0.2.2.2.2)) >>= fun x5 =>
    (law10_ints F x4.1 x5.1) >>= fun x6 =>
    (gd (x6 && (decide (x4.2 = x5.2))) (law10_Works F) false) >>= fun x7 =>
    some ((x6 && (decide (x4.2 = x5.2))) && x7)

-- 5 mandrel/mandrellaw10.RightFewest
def law10_RightFewest (F : Nat) (x0 : (Int × (List Int) × (List ((List Int) × Int)) × (List ((List Int) × Int)) × (List (List Int)))) : Option Bool :=
  (law10_great F (x0.1, x0.2.1, x0.2.2.1, x0.2.2.2.1, x0.2.2.2.2)) >>= fun x2 =>
  if (x2 || ((decide (7 < (x0.2.2.2.1.length : Int))) && (decide ((x0.2.2.2.1.length : Int) ≤ 12)))) = true then
    (law10_Works F) >>= fun x3 =>
    some x3
  else
    (right_Fewest F (x0.1, x0.2.1, x0.2.2.1, x0.2.2.2.1, x0.2.2.2.2)) >>= fun x4 =>
    (ref10_Fewest F (x0.1, x0.2.1, x0.2.2.1, x0.2.2.2.1, x0.2.2.2.2)) >>= fun x5 =>
    (law10_ints F x4.1 x5.1) >>= fun x6 =>
    (gd (x6 && (decide (x4.2 = x5.2))) (law10_Works F) false) >>= fun x7 =>
    some ((x6 && (decide (x4.2 = x5.2))) && x7)

-- 6 mandrel/mandrellaw10.RightConflicts
def law10_RightConflicts_l1 (F : Nat) (x1 : (List (List Int))) : Nat → Int → Option (Sum Bool (Unit))
  | 0, _ => none
  | m + 1, y1 =>
    if (decide (y1 < (x1.length : Int))) = true then
      (ix x1 y1) >>= fun x5 =>
      if (decide (20 < (x5.length : Int))) = true then
        (law10_Works F) >>= fun x6 =>
        some (.inl x6)
      else
        law10_RightConflicts_l1 F x1 m (w64 (y1 + 1))
    else
      some (.inr ())

def law10_RightConflicts (F : Nat) (x0 : (Int × (List Int) × (List ((List Int) × Int)) × (List ((List Int) × Int)) × (List (List Int)))) (x1 : (List (List Int))) : Option Bool :=
  (law10_great F (x0.1, x0.2.1, x0.2.2.1, x0.2.2.2.1, x0.2.2.2.2)) >>= fun x3 =>
  if ((x3 || ((decide (7 < (x0.2.2.2.1.length : Int))) && (decide ((x0.2.2.2.1.length : Int) ≤ 12)))) || (decide (20 < (x1.length : Int)))) = true then
    (law10_Works F) >>= fun x4 =>
    some x4
  else
    ((law10_RightConflicts_l1 F x1 F 0) >>= fun o => match o with
      | .inl r => some r
      | .inr () =>
        (right_CheckConflicts F (x0.1, x0.2.1, x0.2.2.1, x0.2.2.2.1, x0.2.2.2.2) x1) >>= fun x7 =>
        (ref10_CheckConflicts F (x0.1, x0.2.1, x0.2.2.1, x0.2.2.2.1, x0.2.2.2.2) x1) >>= fun x8 =>
        if ((!decide (x7.1 = x8.1)) || (!decide (x7.2 = x8.2))) = true then
          some false
        else
          (right_Conflicts F (x0.1, x0.2.1, x0.2.2.1, x0.2.2.2.1, x0.2.2.2.2)) >>= fun x9 =>
          (ref10_CheckBook F (x0.1, x0.2.1, x0.2.2.1, x0.2.2.2.1, x0.2.2.2.2)) >>= fun x10 =>
          if (!decide (x10 = 0)) = true then
            (ref10_CheckBook F (x0.1, x0.2.1, x0.2.2.1, x0.2.2.2.1, x0.2.2.2.2)) >>= fun x11 =>
            (gd ((decide (x9.2 = x11)) && (decide ((x9.1.length : Int) = 0))) (law10_Works F) false) >>= fun x12 =>
            some (((decide (x9.2 = x11)) && (decide ((x9.1.length : Int) = 0))) && x12)
          else
            if ((decide (x9.2 = 0)) && (decide (200 < (x9.1.length : Int)))) = true then
              (gd (decide ((x9.1.length : Int) ≤ 4096)) (law10_Works F) false) >>= fun x13 =>
              some ((decide ((x9.1.length : Int) ≤ 4096)) && x13)
            else
              (ref10_Fewest F (x0.1, x0.2.1, x0.2.2.1, x0.2.2.2.1, x0.2.2.2.2)) >>= fun x14 =>
              (ref10_CheckConflicts F (x0.1, x0.2.1, x0.2.2.1, x0.2.2.2.1, x0.2.2.2.2) x9.1) >>= fun x15 =>
              (gd (((decide (x9.2 = 0)) && (decide (x15.2 = 0))) && (decide (x15.1 = (w64 ((x0.2.2.2.1.length : Int) - (x14.1.length : Int)))))) (law10_Works F) false) >>= fun x16 =>
              some ((((decide (x9.2 = 0)) && (decide (x15.2 = 0))) && (decide (x15.1 = (w64 ((x0.2.2.2.1.length : Int) - (x14.1.length : Int)))))) && x16))

-- 12 mandrel/mandrellaw10.RightKnown
def law10_RightKnown (F : Nat)  : Option Bool :=
  (law10_Book) >>= fun x1 =>
  (right_Holds F (x1.1, x1.2.1, x1.2.2.1, x1.2.2.2.1, x1.2.2.2.2) ([1] : List Int)) >>= fun x2 =>
  (right_Holds F (x1.1, x1.2.1, x1.2.2.1, x1.2.2.2.1, x1.2.2.2.2) ([2] : List Int)) >>= fun x3 =>
  (right_CheckConflicts F (x1.1, x1.2.1, x1.2.2.1, x1.2.2.2.1, x1.2.2.2.2) ([([0, 1] : List Int)] : List (List Int))) >>= fun x4 =>
  (right_CheckConflicts F (x1.1, x1.2.1, x1.2.2.1, x1.2.2.2.1, x1.2.2.2.2) ([([1] : List Int)] : List (List Int))) >>= fun x5 =>
  (right_CheckChain F (x1.1, x1.2.1, x1.2.2.1, x1.2.2.2.1, x1.2.2.2.2) ([0] : List Int) 0 ([(true, 0), (false, 0)] : List (Bool × Int))) >>= fun x6 =>
  (gd (((((decide (x2.2 = 0)) && (decide (x3.2 = 0))) && (decide (x4.2 = 0))) && (decide (x5.2 = 14))) && (decide (x6 = 0))) (law10_ints F x2.1 ([0, 3, 4] : List Int)) false) >>= fun x7 =>
  (gd ((((((decide (x2.2 = 0)) && (decide (x3.2 = 0))) && (decide (x4.2 = 0))) && (decide (x5.2 = 14))) && (decide (x6 = 0))) && x7) (law10_ints F x3.1 ([0, 3] : List Int)) false) >>= fun x8 =>
  (gd ((((((((decide (x2.2 = 0)) && (decide (x3.2 = 0))) && (decide (x4.2 = 0))) && (decide (x5.2 = 14))) && (decide (x6 = 0))) && x7) && x8) && (decide (x4.1 = 1))) (law10_Works F) false) >>= fun x9 =>
  some (((((((((decide (x2.2 = 0)) && (decide (x3.2 = 0))) && (decide (x4.2 = 0))) && (decide (x5.2 = 14))) && (decide (x6 = 0))) && x7) && x8) && (decide (x4.1 = 1))) && x9)

-- 13 mandrel/mandrellaw10.RightBooks
def law10_RightBooks (F : Nat) (x0 : (Int × (List Int) × (List ((List Int) × Int)) × (List ((List Int) × Int)) × (List (List Int)))) (x1 : (List Int)) : Option Bool :=
  (law10_great F (x0.1, x0.2.1, x0.2.2.1, x0.2.2.2.1, x0.2.2.2.2)) >>= fun x3 =>
  if (x3 || (decide (20 < (x1.length : Int)))) = true then
    (law10_Works F) >>= fun x4 =>
    some x4
  else
    (right_Holds F (x0.1, x0.2.1, x0.2.2.1, x0.2.2.2.1, x0.2.2.2.2) x1) >>= fun x5 =>
    (ref10_Holds F (x0.1, x0.2.1, x0.2.2.1, x0.2.2.2.1, x0.2.2.2.2) x1) >>= fun x6 =>
    (right_CheckBook F (x0.1, x0.2.1, x0.2.2.1, x0.2.2.2.1, x0.2.2.2.2)) >>= fun x7 =>
    (ref10_CheckBook F (x0.1, x0.2.1, x0.2.2.1, x0.2.2.2.1, x0.2.2.2.2)) >>= fun x8 =>
    (gd (decide (x7 = x8)) (law10_ints F x5.1 x6.1) false) >>= fun x9 =>
    (gd (((decide (x7 = x8)) && x9) && (decide (x5.2 = x6.2))) (right_Check F (x0.1, x0.2.1, x0.2.2.1, x0.2.2.2.1, x0.2.2.2.2) x1) 0) >>= fun x10 =>
    (gd (((decide (x7 = x8)) && x9) && (decide (x5.2 = x6.2))) (ref10_Check F (x0.1, x0.2.1, x0.2.2.1, x0.2.2.2.1, x0.2.2.2.2) x1) 0) >>= fun x11 =>
    (gd ((((decide (x7 = x8)) && x9) && (decide (x5.2 = x6.2))) && (decide (x10 = x11))) (law10_Works F) false) >>= fun x12 =>
    some (((((decide (x7 = x8)) && x9) && (decide (x5.2 = x6.2))) && (decide (x10 = x11))) && x12)
end Go.Proofs.Ytdimoehnkagghaa
