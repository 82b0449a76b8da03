/-
  Pure functions, one for each function of the program, as a program of our own printed them. No condition: definitions.
-/
import Derived.Test.YthppacohnciinaaCopy
import Derived.Test.YthppacohnciinaaMapw
import Derived.Test.YthppacohnciinaaPureD
namespace Go.Proofs.Ythppacohnciinaa
open Go Go.Md Go.RowKit

-- 4 mandrel/mandrellaw01.SpeedPipes
def law01_SpeedPipes (F : Nat) (x0 : Int) (x1 : Int) (x2 : (Int × Int)) (x3 : Int) (x4 : Int) : Option Bool :=
  (speed_Pipe F x0 x1 (x2.1, x2.2)) >>= fun x6 =>
  (ref01_Pipe x0 x1 (x2.1, x2.2)) >>= fun x7 =>
  (speed_Spring F x0 x3 x4) >>= fun x8 =>
  (ref01_Spring F x0 x3 x4) >>= fun x9 =>
  (((law01_rules F x6.1 x7.1) >>= fun x10 =>
  if x10 = true then
    if (decide (x6.2 = x7.2)) = true then
      (law01_rules F x8.1 x9.1) >>= fun x11 =>
      if x11 = true then
        if (decide (x8.2 = x9.2)) = true then
          (law01_Works F) >>= fun x12 =>
          some x12
        else
          none
      else
        none
    else
      none
  else
    none : Option (Bool)) >>= fun y1 =>
  some y1)

-- 9 mandrel/mandrellaw01.SpeedSheets
def law01_SpeedSheets (F : Nat) (x0 : (Int × (List (Int × Int × Int)))) (x1 : (List Int)) : Option Bool :=
  (law01_great (x0.1, x0.2)) >>= fun x3 =>
  if (x3 || (decide (40 < (x1.length : Int)))) = true then
    (law01_Works F) >>= fun x4 =>
    some x4
  else
    (speed_Whole F (x0.1, x0.2)) >>= fun x5 =>
    (ref01_Whole F (x0.1, x0.2)) >>= fun x6 =>
    (((speed_CheckSheet F (x0.1, x0.2)) >>= fun x7 =>
    (ref01_CheckSheet F (x0.1, x0.2)) >>= fun x8 =>
    if (decide (x7 = x8)) = true then
      (law01_rules F x5.1 x6.1) >>= fun x9 =>
      if x9 = true then
        if (decide (x5.2 = x6.2)) = true then
          (speed_CheckSpeeds F (x0.1, x0.2) x1) >>= fun x10 =>
          (ref01_CheckSpeeds F (x0.1, x0.2) x1) >>= fun x11 =>
          if (decide (x10 = x11)) = true then
            (law01_Works F) >>= fun x12 =>
            some x12
          else
            none
        else
          none
      else
        none
    else
      none : Option (Bool)) >>= fun y1 =>
    some y1)

-- 11 mandrel/mandrellaw01.SpeedKnown
def law01_SpeedKnown (F : Nat)  : Option Bool :=
  (law01_Sheet) >>= fun x1 =>
  (speed_CheckSpeeds F (x1.1, x1.2) ([16200, 16300, 15900] : List Int)) >>= fun x2 =>
  (speed_Span F (x1.1, x1.2) 1) >>= fun x3 =>
  (speed_Span F (x1.1, x1.2) 2) >>= fun x4 =>
  (law01_slow) >>= fun x5 =>
  (speed_CheckCircle F x5 ([6, 5, 3, 1] : List Int)) >>= fun x6 =>
  (law01_slow) >>= fun x7 =>
  (speed_Span F x7 1) >>= fun x8 =>
  (speed_Ends F (x1.1, x1.2) false) >>= fun x9 =>
  ((if (decide (x2 = 17)) = true then
    if (decide (x3.2 = 0)) = true then
      if (decide (x4.2 = 0)) = true then
        if (decide (x6 = 0)) = true then
          if (decide (x8.2 = 21)) = true then
            if (decide (x9.2 = 0)) = true then
              (law01_rg 16000 16500) >>= fun x10 =>
              if (decide ((x3.1.1, x3.1.2) = x10)) = true then
                (law01_rg 15700 16500) >>= fun x11 =>
                if (decide ((x4.1.1, x4.1.2) = x11)) = true then
                  (law01_longs F x9.1 ([16000, 15700, 15400] : List Int)) >>= fun x12 =>
                  if x12 = true then
                    (law01_Works F) >>= fun x13 =>
                    some x13
                  else
                    none
                else
                  none
              else
                none
            else
              none
          else
            none
        else
          none
      else
        none
    else
      none
  else
    none : Option (Bool)) >>= fun y1 =>
  some y1)

-- 8 mandrel/mandrellaw01.SpeedHeard
def law01_SpeedHeard (F : Nat) (x0 : Int) (x1 : Int) (x2 : Int) (x3 : Int) : Option Bool :=
  (law01_rg (w64 (1 + (Int.tmod (w64 x1) 1000000))) (if (w64 ((w64 (1 + (Int.tmod (w64 x1) 1000000))) + (w64 x2))) < 1000000 then (w64 ((w64 (1 + (Int.tmod (w64 x1) 1000000))) + (w64 x2))) else 1000000)) >>= fun x5 =>
  (speed_Pipe F 1 (w64 (1 + (Int.tmod (w64 x0) 1000000))) x5) >>= fun x6 =>
  (law01_rg (w64 (1 + (Int.tmod (w64 x1) 1000000))) (if (w64 ((w64 (1 + (Int.tmod (w64 x1) 1000000))) + (w64 x2))) < 1000000 then (w64 ((w64 (1 + (Int.tmod (w64 x1) 1000000))) + (w64 x2))) else 1000000)) >>= fun x7 =>
  (ref01_Heard (w64 (1 + (Int.tmod (w64 x0) 1000000))) (Int.tmod (w64 x3) 100001) x7) >>= fun x8 =>
  if (decide (x6.2 = 17)) = true then
    ((if (!x8) = true then
      (law01_Works F) >>= fun x9 =>
      some x9
    else
      none : Option (Bool)) >>= fun y1 =>
    some y1)
  else
    ((if (!decide (x6.2 = 0)) = true then
      none
    else
      some (!decide ((x6.1.length : Int) = 2)) : Option (Bool)) >>= fun y2 =>
    if y2 = true then
      some false
    else
      (ref01_CheckSheet F (1, x6.1)) >>= fun x10 =>
      if (!decide (x10 = 0)) = true then
        some false
      else
        (speed_Span F (1, x6.1) 1) >>= fun x11 =>
        ((if (decide (x11.2 = 0)) = true then
          (speed_CheckSpeeds F (1, x6.1) ([Int.tmod (w64 x3) 100001] : List Int)) >>= fun x12 =>
          if ((decide (x12 = 0)) == x8) = true then
            (law01_rg (w64 (1 + (Int.tmod (w64 x1) 1000000))) (if (w64 ((w64 (1 + (Int.tmod (w64 x1) 1000000))) + (w64 x2))) < 1000000 then (w64 ((w64 (1 + (Int.tmod (w64 x1) 1000000))) + (w64 x2))) else 1000000)) >>= fun x13 =>
            (ref01_Heard (w64 (1 + (Int.tmod (w64 x0) 1000000))) x11.1.1 x13) >>= fun x14 =>
            if x14 = true then
              (law01_rg (w64 (1 + (Int.tmod (w64 x1) 1000000))) (if (w64 ((w64 (1 + (Int.tmod (w64 x1) 1000000))) + (w64 x2))) < 1000000 then (w64 ((w64 (1 + (Int.tmod (w64 x1) 1000000))) + (w64 x2))) else 1000000)) >>= fun x15 =>
              (ref01_Heard (w64 (1 + (Int.tmod (w64 x0) 1000000))) x11.1.2 x15) >>= fun x16 =>
              if x16 = true then
                if (decide (x11.1.1 ≤ (Int.tmod (w64 x3) 100001))) = true then
                  if ((decide ((Int.tmod (w64 x3) 100001) ≤ x11.1.2)) == x8) = true then
                    (law01_Works F) >>= fun x17 =>
                    some x17
                  else
                    none
                else
                  if (false == x8) = true then
                    (law01_Works F) >>= fun x18 =>
                    some x18
                  else
                    none
              else
                none
            else
              none
          else
            none
        else
          none : Option (Bool)) >>= fun y3 =>
        some y3))

-- 10 mandrel/mandrellaw01.SpeedEither
def law01_SpeedEither (F : Nat) (x0 : (Int × (List (Int × Int × Int)))) (x1 : (List Int)) (x2 : (List Int)) : Option Bool :=
  (law01_great (x0.1, x0.2)) >>= fun x4 =>
  (gd (!x4) (ref01_CheckSheet F (x0.1, x0.2)) 0) >>= fun x5 =>
  if (((x4 || (!decide (x5 = 0))) || (decide (40 < (x1.length : Int)))) || (decide (60 < (x2.length : Int)))) = true then
    (law01_Works F) >>= fun x6 =>
    some x6
  else
    (speed_Circle F (x0.1, x0.2)) >>= fun x7 =>
    (speed_Ends F (x0.1, x0.2) false) >>= fun x8 =>
    if (decide (x7.2 = 0)) = true then
      ((if (decide (x8.2 = 21)) = true then
        if (decide ((x8.1.length : Int) = 0)) = true then
          (speed_CheckCircle F (x0.1, x0.2) x7.1) >>= fun x9 =>
          if (decide (x9 = 0)) = true then
            (ref01_CheckCircle F (x0.1, x0.2) x7.1) >>= fun x10 =>
            if (decide (x10 = 0)) = true then
              (speed_CheckSpeeds F (x0.1, x0.2) x1) >>= fun x11 =>
              if (!decide (x11 = 0)) = true then
                (law01_Works F) >>= fun x12 =>
                some x12
              else
                none
            else
              none
          else
            none
        else
          none
      else
        none : Option (Bool)) >>= fun y1 =>
      some y1)
    else
      ((if (decide (x7.2 = 5)) = true then
        if (decide (x8.2 = 0)) = true then
          (ref01_CheckSpeeds F (x0.1, x0.2) x8.1) >>= fun x13 =>
          if (decide (x13 = 0)) = true then
            (speed_CheckCircle F (x0.1, x0.2) x2) >>= fun x14 =>
            if (!decide (x14 = 0)) = true then
              (law01_Works F) >>= fun x15 =>
              some x15
            else
              none
          else
            none
        else
          none
      else
        none : Option (Bool)) >>= fun y2 =>
      some y2)
end Go.Proofs.Ythppacohnciinaa
