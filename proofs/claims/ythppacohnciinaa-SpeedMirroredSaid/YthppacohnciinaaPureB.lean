/-
  Pure functions, one for each function of the program, as a program of our own printed them. No condition: definitions.
-/
import Derived.Test.YthppacohnciinaaCopy
import Derived.Test.YthppacohnciinaaMapw
import Derived.Test.YthppacohnciinaaPureA
import Derived.Test.YthppacohnciinaaManA
namespace Go.Proofs.Ythppacohnciinaa
open Go Go.Md Go.RowKit

-- 67 mandrel/speed.newNet
def speed_newNet_l1 (F : Nat) (x0 : (Int × (List (Int × Int × Int)))) : Nat → Int → ((Int × (List (Int × Int × Int))) × (List (Int × Int × Int))) → Option (((Int × (List (Int × Int × Int))) × (List (Int × Int × Int))))
  | 0, _, _ => none
  | m + 1, y1, y2 =>
    if (decide (y1 < x0.1)) = true then
      (app 24 y2.2 ([(0, w64 (y1 + 1), 100000), (w64 (y1 + 1), 0, 0)] : List (Int × Int × Int))) >>= fun x3 =>
      speed_newNet_l1 F x0 m (w64 (y1 + 1)) ((y2.1.1, x0.2), x3)
    else
      some ((y2.1.1, x0.2), y2.2)

def speed_newNet (F : Nat) (x0 : (Int × (List (Int × Int × Int)))) : Option (Ob ((Int × (List (Int × Int × Int))) × (List (Int × Int × Int)))) :=
  (slices_Clone_rules x0.2) >>= fun x2 =>
  ((speed_newNet_l1 F x0 F 0 ((x0.1, x0.2), x2)) >>= fun z1 =>
  some (⟨some ((z1.1.1, x0.2), z1.2)⟩ : (Ob ((Int × (List (Int × Int × Int))) × (List (Int × Int × Int))))))

-- 41 mandrel/speed.Whole
def speed_Whole (F : Nat) (x0 : (Int × (List (Int × Int × Int)))) : Option ((List (Int × Int × Int)) × Int) :=
  (speed_CheckSheet F (x0.1, x0.2)) >>= fun x2 =>
  if (!decide (x2 = 0)) = true then
    some ([], x2)
  else
    (speed_newNet F (x0.1, x0.2)) >>= fun x3 =>
    (x3.v) >>= fun x4 =>
    some (x4.2, 0)

-- 45 mandrel/speed.CheckCircle
def speed_CheckCircle (F : Nat) (x0 : (Int × (List (Int × Int × Int)))) (x1 : (List Int)) : Option Int :=
  (speed_CheckSheet F (x0.1, x0.2)) >>= fun x3 =>
  if (!decide (x3 = 0)) = true then
    some x3
  else
    (speed_turns F 1 60 ([(x1.length : Int)] : List Int)) >>= fun x4 =>
    if (!x4) = true then
      some 6
    else
      (speed_newNet F (x0.1, x0.2)) >>= fun x5 =>
      (x5.v) >>= fun x6 =>
      (speed_net_follow F ((x6.1.1, x6.1.2), x6.2) x1) >>= fun x7 =>
      if (!decide (x7.2.2.2 = 0)) = true then
        some x7.2.2.2
      else
        if (!decide (x7.1 = x7.2.1)) = true then
          some 16
        else
          if (decide (0 ≤ x7.2.2.1)) = true then
            some 14
          else
            some 0

-- 50 mandrel/speed.CheckWay
def speed_CheckWay (F : Nat) (x0 : (Int × (List (Int × Int × Int)))) (x1 : Int) (x2 : Int) (x3 : (List Int)) : Option (Int × Int) :=
  (speed_CheckSheet F (x0.1, x0.2)) >>= fun x5 =>
  if (!decide (x5 = 0)) = true then
    some (0, x5)
  else
    (speed_turns F 0 x0.1 ([x1, x2] : List Int)) >>= fun x6 =>
    if (!x6) = true then
      some (0, 2)
    else
      if (decide (60 < (x3.length : Int))) = true then
        some (0, 6)
      else
        (speed_newNet F (x0.1, x0.2)) >>= fun x7 =>
        (x7.v) >>= fun x8 =>
        (speed_net_follow F ((x8.1.1, x8.1.2), x8.2) x3) >>= fun x9 =>
        if (!decide (x9.2.2.2 = 0)) = true then
          some (0, x9.2.2.2)
        else
          ((if ((decide ((x3.length : Int) = 0)) && (!decide (x1 = x2))) = true then
            some ((decide ((x3.length : Int) = 0)) && (!decide (x1 = x2)))
          else
            some ((decide (0 < (x3.length : Int))) && ((!decide (x9.1 = x1)) || (!decide (x9.2.1 = x2)))) : Option (Bool)) >>= fun y1 =>
          if y1 = true then
            some (0, 16)
          else
            some (x9.2.2.1, 0))

-- 47 mandrel/mandrellaw01.Sheet
def law01_Sheet  : Option (Int × (List (Int × Int × Int))) :=
  (law01_Rule 0 1 16500) >>= fun x1 =>
  (law01_Rule 1 0 (-16000)) >>= fun x2 =>
  (law01_Rule 1 2 0) >>= fun x3 =>
  (law01_Rule 2 1 300) >>= fun x4 =>
  (law01_Rule 2 3 0) >>= fun x5 =>
  (law01_Rule 3 2 300) >>= fun x6 =>
  some (3, ([x1, x2, x3, x4, x5, x6] : List (Int × Int × Int)))

-- 48 mandrel/mandrellaw01.slow
def law01_slow  : Option (Int × (List (Int × Int × Int))) :=
  (law01_Sheet) >>= fun x1 =>
  (law01_Rule 0 3 15000) >>= fun x2 =>
  (app 24 x1.2 ([x2] : List (Int × Int × Int))) >>= fun x3 =>
  some (x1.1, x3)

-- 33 mandrel/speed.CheckSpeeds
def speed_CheckSpeeds_l1 (F : Nat) (x0 : (Int × (List (Int × Int × Int)))) (x1 : (List Int)) : Nat → Int → Option (Sum Int (Unit))
  | 0, _ => none
  | m + 1, y1 =>
    if (decide (y1 < (x0.2.length : Int))) = true then
      (ix x0.2 y1) >>= fun x5 =>
      (speed_list_keeps (acopy (aset (Ar.fill 21 0 : (Ar 21 Int)) 0 0) 1 x1) (x5.1, x5.2.1, x5.2.2)) >>= fun x6 =>
      if (!x6) = true then
        some (.inl 17)
      else
        speed_CheckSpeeds_l1 F x0 x1 m (w64 (y1 + 1))
    else
      some (.inr ())

def speed_CheckSpeeds (F : Nat) (x0 : (Int × (List (Int × Int × Int)))) (x1 : (List Int)) : Option Int :=
  (speed_CheckSheet F (x0.1, x0.2)) >>= fun x3 =>
  if (!decide (x3 = 0)) = true then
    some x3
  else
    if (!decide ((x1.length : Int) = x0.1)) = true then
      some 15
    else
      (speed_within F 0 100000 x1) >>= fun x4 =>
      if (!x4) = true then
        some 3
      else
        ((speed_CheckSpeeds_l1 F x0 x1 F 0) >>= fun o => match o with
          | .inl r => some r
          | .inr () =>
            some 0)
end Go.Proofs.Ythppacohnciinaa
