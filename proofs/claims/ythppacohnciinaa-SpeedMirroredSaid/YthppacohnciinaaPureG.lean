/-
  Pure functions, one for each function of the program, as a program of our own printed them. No condition: definitions.
-/
import Derived.Test.YthppacohnciinaaCopy
import Derived.Test.YthppacohnciinaaMapw
import Derived.Test.YthppacohnciinaaPureE
import Derived.Test.YthppacohnciinaaManF
namespace Go.Proofs.Ythppacohnciinaa
open Go Go.Md Go.RowKit

-- 37 mandrel/mandrelref01.Clashes
def ref01_Clashes_l1 (F : Nat) (x2 : (List (List Int))) : Nat → Int → Option (Sum Bool (Unit))
  | 0, _ => none
  | m + 1, y1 =>
    if (decide (y1 < (x2.length : Int))) = true then
      (ix x2 y1) >>= fun x3 =>
      (ix x3 y1) >>= fun x4 =>
      if (decide (x4 < 0)) = true then
        some (.inl true)
      else
        ref01_Clashes_l1 F x2 m (w64 (y1 + 1))
    else
      some (.inr ())

def ref01_Clashes (F : Nat) (x0 : (Int × (List (Int × Int × Int)))) : Option Bool :=
  (ref01_Far F (x0.1, x0.2)) >>= fun x2 =>
  ((ref01_Clashes_l1 F x2 F 0) >>= fun o => match o with
    | .inl r => some r
    | .inr () =>
      some false)

-- 17 mandrel/mandrelref01.Span
def ref01_Span (F : Nat) (x0 : (Int × (List (Int × Int × Int)))) (x1 : Int) : Option ((Int × Int) × Int) :=
  (ref01_CheckSheet F (x0.1, x0.2)) >>= fun x3 =>
  if (!decide (x3 = 0)) = true then
    (ref01_CheckSheet F (x0.1, x0.2)) >>= fun x4 =>
    some ((0, 0), x4)
  else
    if ((decide (x1 < 1)) || (decide (x0.1 < x1))) = true then
      some ((0, 0), 3)
    else
      (ref01_Clashes F (x0.1, x0.2)) >>= fun x5 =>
      if x5 = true then
        some ((0, 0), 21)
      else
        (ref01_Far F (x0.1, x0.2)) >>= fun x6 =>
        (ix x6 x1) >>= fun x7 =>
        (ix x7 0) >>= fun x8 =>
        (ix x6 0) >>= fun x9 =>
        (ix x9 x1) >>= fun x10 =>
        some ((w64 (0 - x8), x10), 0)

-- 19 mandrel/mandrelref01.Ends
def ref01_Ends_l1 (F : Nat) (x0 : (Int × (List (Int × Int × Int)))) (x1 : Bool) (x6 : (List (List Int))) : Nat → (List Int) → Int → Option ((List Int))
  | 0, _, _ => none
  | m + 1, y1, y2 =>
    if (decide (y2 ≤ x0.1)) = true then
      ((((if x1 = true then
        (ix x6 0) >>= fun x7 =>
        (ix x7 y2) >>= fun x8 =>
        (app 8 y1 ([x8] : List Int)) >>= fun x9 =>
        some x9
      else
        (ix x6 y2) >>= fun x10 =>
        (ix x10 0) >>= fun x11 =>
        (app 8 y1 ([w64 (0 - x11)] : List Int)) >>= fun x12 =>
        some x12 : Option ((List Int))) >>= fun y4 =>
      some y4) : Option ((List Int))) >>= fun y3 =>
      ref01_Ends_l1 F x0 x1 x6 m y3 (w64 (y2 + 1)))
    else
      some y1

def ref01_Ends (F : Nat) (x0 : (Int × (List (Int × Int × Int)))) (x1 : Bool) : Option ((List Int) × Int) :=
  (ref01_CheckSheet F (x0.1, x0.2)) >>= fun x3 =>
  if (!decide (x3 = 0)) = true then
    (ref01_CheckSheet F (x0.1, x0.2)) >>= fun x4 =>
    some ([], x4)
  else
    (ref01_Clashes F (x0.1, x0.2)) >>= fun x5 =>
    if x5 = true then
      some ([], 21)
    else
      (ref01_Far F (x0.1, x0.2)) >>= fun x6 =>
      ((ref01_Ends_l1 F x0 x1 x6 F ([]) 1) >>= fun z1 =>
      some (z1, 0))

-- 21 mandrel/mandrelref01.Sung
def ref01_Sung (F : Nat) (x0 : (Int × (List (Int × Int × Int)))) (x1 : Int) (x2 : Int) : Option ((Int × Int) × Int) :=
  (ref01_CheckSheet F (x0.1, x0.2)) >>= fun x4 =>
  if (!decide (x4 = 0)) = true then
    (ref01_CheckSheet F (x0.1, x0.2)) >>= fun x5 =>
    some ((0, 0), x5)
  else
    (gd (!((decide (x1 < 1)) || (decide (x0.1 < x1)))) (ref01_tone x2) false) >>= fun x6 =>
    if (((decide (x1 < 1)) || (decide (x0.1 < x1))) || (!x6)) = true then
      some ((0, 0), 3)
    else
      (ref01_Span F (x0.1, x0.2) x1) >>= fun x7 =>
      if (!decide (x7.2 = 0)) = true then
        some ((0, 0), x7.2)
      else
        some ((w64 (Int.tdiv (w64 (x2 * x7.1.1)) 16000), w64 (Int.tdiv (w64 (x2 * x7.1.2)) 16000)), 0)

-- 23 mandrel/mandrelref01.Cost
def ref01_Cost (F : Nat) (x0 : (Int × (List (Int × Int × Int)))) (x1 : Int) (x2 : Int) : Option (Int × Int) :=
  (ref01_CheckSheet F (x0.1, x0.2)) >>= fun x4 =>
  if (!decide (x4 = 0)) = true then
    (ref01_CheckSheet F (x0.1, x0.2)) >>= fun x5 =>
    some (0, x5)
  else
    if ((((decide (x1 < 0)) || (decide (x0.1 < x1))) || (decide (x2 < 0))) || (decide (x0.1 < x2))) = true then
      some (0, 2)
    else
      (ref01_Clashes F (x0.1, x0.2)) >>= fun x6 =>
      if x6 = true then
        some (0, 21)
      else
        (ref01_Far F (x0.1, x0.2)) >>= fun x7 =>
        (ix x7 x1) >>= fun x8 =>
        (ix x8 x2) >>= fun x9 =>
        some (x9, 0)

-- 31 mandrel/mandrellaw01.fine
def law01_fine (F : Nat) (x0 : (Int × (List (Int × Int × Int)))) : Option Bool :=
  (law01_great (x0.1, x0.2)) >>= fun x2 =>
  (gd (!x2) (ref01_CheckSheet F (x0.1, x0.2)) 0) >>= fun x3 =>
  (gd ((!x2) && (decide (x3 = 0))) (ref01_Clashes F (x0.1, x0.2)) false) >>= fun x4 =>
  some (((!x2) && (decide (x3 = 0))) && (!x4))

-- 35 mandrel/mandrellaw01.True
def law01_True_l2 (F : Nat) (x3 : (List (List Int))) (y1 : (List Int)) (y2 : Int) : Nat → Int → Int → Int → Option (Int × Int)
  | 0, _, _, _ => none
  | m + 1, y3, y4, y5 =>
    if (decide (y5 < y2)) = true then
      (ix y1 (w64 (y5 - 1))) >>= fun x8 =>
      (ix x3 y2) >>= fun x9 =>
      (ix x9 y5) >>= fun x10 =>
      (ix y1 (w64 (y5 - 1))) >>= fun x11 =>
      (ix x3 y5) >>= fun x12 =>
      (ix x12 y2) >>= fun x13 =>
      law01_True_l2 F x3 y1 y2 m (if y3 < (w64 (x8 - x10)) then (w64 (x8 - x10)) else y3) (if (w64 (x11 + x13)) < y4 then (w64 (x11 + x13)) else y4) (w64 (y5 + 1))
    else
      some (y3, y4)

def law01_True_l1 (F : Nat) (x0 : (Int × (List (Int × Int × Int)))) (x1 : (List (KI .u16))) (x3 : (List (List Int))) : Nat → (List Int) → Int → Option ((List Int))
  | 0, _, _ => none
  | m + 1, y1, y2 =>
    if (decide (y2 ≤ x0.1)) = true then
      (ix x3 y2) >>= fun x4 =>
      (ix x4 0) >>= fun x5 =>
      (ix x3 0) >>= fun x6 =>
      (ix x6 y2) >>= fun x7 =>
      ((law01_True_l2 F x3 y1 y2 F (w64 (0 - x5)) x7 1) >>= fun (z2, z3) =>
      ((if (decide (0 < (x1.length : Int))) = true then
        (rem y2 (x1.length : Int)) >>= fun x14 =>
        (ix x1 x14) >>= fun x15 =>
        (rem (w64 x15.v) (w64 ((w64 (z3 - z2)) + 1))) >>= fun x16 =>
        some (w64 (z2 + x16))
      else
        some z2 : Option (Int)) >>= fun y6 =>
      (app 8 y1 ([y6] : List Int)) >>= fun x17 =>
      law01_True_l1 F x0 x1 x3 m x17 (w64 (y2 + 1))))
    else
      some y1

def law01_True (F : Nat) (x0 : (Int × (List (Int × Int × Int)))) (x1 : (List (KI .u16))) : Option (List Int) :=
  (ref01_Far F (x0.1, x0.2)) >>= fun x3 =>
  ((law01_True_l1 F x0 x1 x3 F ([]) 1) >>= fun z1 =>
  some z1)
end Go.Proofs.Ythppacohnciinaa
