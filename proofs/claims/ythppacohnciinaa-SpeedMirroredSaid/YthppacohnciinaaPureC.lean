/-
  Pure functions, one for each function of the program, as a program of our own printed them. No condition: definitions.
-/
import Derived.Test.YthppacohnciinaaCopy
import Derived.Test.YthppacohnciinaaMapw
import Derived.Test.YthppacohnciinaaPureB
import Derived.Test.YthppacohnciinaaManD
namespace Go.Proofs.Ythppacohnciinaa
open Go Go.Md Go.RowKit

-- 54 mandrel/speed.open
def speed_open (F : Nat) (x0 : (Int × (List (Int × Int × Int)))) : Option ((Ob ((Int × (List (Int × Int × Int))) × (List (Int × Int × Int)))) × Int) :=
  (speed_CheckSheet F (x0.1, x0.2)) >>= fun x2 =>
  if (!decide (x2 = 0)) = true then
    some ((⟨none⟩ : (Ob ((Int × (List (Int × Int × Int))) × (List (Int × Int × Int))))), x2)
  else
    (speed_newNet F (x0.1, x0.2)) >>= fun x3 =>
    (x3.v) >>= fun x4 =>
    (speed_net_circle F ((x4.1.1, x4.1.2), x4.2)) >>= fun x5 =>
    if (decide (0 < (x5.length : Int))) = true then
      some ((⟨none⟩ : (Ob ((Int × (List (Int × Int × Int))) × (List (Int × Int × Int))))), 21)
    else
      some ((⟨some ((x4.1.1, x4.1.2), x4.2)⟩ : (Ob ((Int × (List (Int × Int × Int))) × (List (Int × Int × Int))))), 0)

-- 44 mandrel/speed.Circle
def speed_Circle (F : Nat) (x0 : (Int × (List (Int × Int × Int)))) : Option ((List Int) × Int) :=
  (speed_CheckSheet F (x0.1, x0.2)) >>= fun x2 =>
  if (!decide (x2 = 0)) = true then
    some ([], x2)
  else
    (speed_newNet F (x0.1, x0.2)) >>= fun x3 =>
    (x3.v) >>= fun x4 =>
    (speed_net_circle F ((x4.1.1, x4.1.2), x4.2)) >>= fun x5 =>
    if (decide ((x5.length : Int) = 0)) = true then
      some ([], 5)
    else
      some (x5, 0)

-- 57 mandrel/speed.Ends$2
def speed_Ends_2 (F : Nat) (x0 : Int) (x1 : (Ob ((Int × (List (Int × Int × Int))) × (List (Int × Int × Int))))) : Option Int :=
  (x1.v) >>= fun x3 =>
  (speed_net_find F ((x3.1.1, x3.1.2), x3.2) x0) >>= fun x4 =>
  (ix x4.1.l 0) >>= fun x5 =>
  some (w64 (0 - x5))

-- 16 mandrel/speed.Span
def speed_Span (F : Nat) (x0 : (Int × (List (Int × Int × Int)))) (x1 : Int) : Option ((Int × Int) × Int) :=
  (speed_CheckSheet F (x0.1, x0.2)) >>= fun x3 =>
  if (!decide (x3 = 0)) = true then
    some ((0, 0), x3)
  else
    (speed_turns F 1 x0.1 ([x1] : List Int)) >>= fun x4 =>
    if (!x4) = true then
      some ((0, 0), 3)
    else
      (speed_open F (x0.1, x0.2)) >>= fun x5 =>
      if (!decide (x5.2 = 0)) = true then
        some ((0, 0), x5.2)
      else
        (x5.1.v) >>= fun x6 =>
        (speed_net_find F ((x6.1.1, x6.1.2), x6.2) 0) >>= fun x7 =>
        (speed_net_find F ((x6.1.1, x6.1.2), x6.2) x1) >>= fun x8 =>
        (ix x8.1.l 0) >>= fun x9 =>
        (ix x7.1.l x1) >>= fun x10 =>
        some ((w64 (0 - x9), x10), 0)

-- 18 mandrel/speed.Ends
def speed_Ends_l1 (F : Nat) (x0 : (Int × (List (Int × Int × Int)))) (y1 : (Int → Option Int)) : Nat → (List Int) → Int → Option ((List Int))
  | 0, _, _ => none
  | m + 1, y2, y3 =>
    if (decide (y3 < x0.1)) = true then
      (y1 (w64 (y3 + 1))) >>= fun x6 =>
      (app 8 y2 ([x6] : List Int)) >>= fun x7 =>
      speed_Ends_l1 F x0 y1 m x7 (w64 (y3 + 1))
    else
      some y2

def speed_Ends (F : Nat) (x0 : (Int × (List (Int × Int × Int)))) (x1 : Bool) : Option ((List Int) × Int) :=
  (speed_open F (x0.1, x0.2)) >>= fun x3 =>
  if (!decide (x3.2 = 0)) = true then
    some ([], x3.2)
  else
    (x3.1.v) >>= fun x4 =>
    (speed_net_find F ((x4.1.1, x4.1.2), x4.2) 0) >>= fun x5 =>
    ((if (!x1) = true then
      some (fun y => speed_Ends_2 F y (⟨some ((x4.1.1, x4.1.2), x4.2)⟩ : (Ob ((Int × (List (Int × Int × Int))) × (List (Int × Int × Int))))))
    else
      some (fun y => speed_Ends_1 y x5.1) : Option ((Int → Option Int))) >>= fun y1 =>
    ((speed_Ends_l1 F x0 y1 F ([]) 0) >>= fun z1 =>
    some (z1, 0)))

-- 20 mandrel/speed.Sung
def speed_Sung (F : Nat) (x0 : (Int × (List (Int × Int × Int)))) (x1 : Int) (x2 : Int) : Option ((Int × Int) × Int) :=
  (speed_CheckSheet F (x0.1, x0.2)) >>= fun x4 =>
  if (!decide (x4 = 0)) = true then
    some ((0, 0), x4)
  else
    (speed_turns F 1 x0.1 ([x1] : List Int)) >>= fun x5 =>
    (gd (!(!x5)) (speed_tone F ([x2] : List Int)) false) >>= fun x6 =>
    if ((!x5) || (!x6)) = true then
      some ((0, 0), 3)
    else
      (speed_Span F (x0.1, x0.2) x1) >>= fun x7 =>
      if (!decide (x7.2 = 0)) = true then
        some ((0, 0), x7.2)
      else
        some ((w64 (Int.tdiv (w64 (x2 * x7.1.1)) 16000), w64 (Int.tdiv (w64 (x2 * x7.1.2)) 16000)), 0)
end Go.Proofs.Ythppacohnciinaa
