/-
  Pure functions, one for each function of the program, as a program of our own printed them. No condition: definitions.
-/
import Derived.Test.YtdimoehnkagghaaCopy
import Derived.Test.YtdimoehnkagghaaMapw
import Derived.Test.YtdimoehnkagghaaPureD
namespace Go.Proofs.Ytdimoehnkagghaa
open Go Go.Md Go.RowKit

-- 7 mandrel/mandrellaw10.RightKept
def law10_RightKept_l1 (F : Nat) (x0 : (Int × (List Int) × (List ((List Int) × Int)) × (List ((List Int) × Int)) × (List (List Int)))) (x11 : ((List Int) × Int)) (x29 : (List (Bool × Int))) : Nat → Int → Option (Sum Bool (Unit))
  | 0, _ => none
  | m + 1, y2 =>
    if (decide (y2 < (x29.length : Int))) = true then
      (ix x29 y2) >>= fun x30 =>
      ((if x30.1 = true then
        (ix x29 y2) >>= fun x31 =>
        (ix x0.2.2.2.1 x31.2) >>= fun x32 =>
        some x32.2
      else
        (ix x29 y2) >>= fun x33 =>
        (ix x0.2.2.1 x33.2) >>= fun x34 =>
        some x34.2 : Option (Int)) >>= fun y3 =>
      (ref10_In F x11.1 y3) >>= fun x35 =>
      if (!x35) = true then
        some (.inl false)
      else
        law10_RightKept_l1 F x0 x11 x29 m (w64 (y2 + 1)))
    else
      some (.inr ())

def law10_RightKept (F : Nat) (x0 : (Int × (List Int) × (List ((List Int) × Int)) × (List ((List Int) × Int)) × (List (List Int)))) (x1 : Int) (x2 : Int) (x3 : (List (KI .u8))) (x4 : (List (Bool × Int))) : Option Bool :=
  (law10_fine F (x0.1, x0.2.1, x0.2.2.1, x0.2.2.2.1, x0.2.2.2.2)) >>= fun x6 =>
  if (((!x6) || (decide (60 < (x3.length : Int)))) || (decide (100 < (x4.length : Int)))) = true then
    (law10_Works F) >>= fun x7 =>
    some x7
  else
    (law10_Granted F (x0.1, x0.2.1, x0.2.2.1, x0.2.2.2.1, x0.2.2.2.2) x1) >>= fun x8 =>
    (right_Check F (x0.1, x0.2.1, x0.2.2.1, x0.2.2.2.1, x0.2.2.2.2) x8) >>= fun x9 =>
    (right_Broken F (x0.1, x0.2.1, x0.2.2.1, x0.2.2.2.1, x0.2.2.2.2) x8) >>= fun x10 =>
    (right_Holds F (x0.1, x0.2.1, x0.2.2.1, x0.2.2.2.1, x0.2.2.2.2) x8) >>= fun x11 =>
    if ((((!decide (x11.2 = 0)) || ((!decide (x9 = 0)) && (!decide (x9 = 23)))) || (!((decide (x9 = 0)) == (decide (x10.2.2 = 5))))) || (!((decide (x9 = 23)) == (decide (x10.2.2 = 0))))) = true then
      some false
    else
      ((if (decide (x10.2.2 = 0)) = true then
        if (decide (x10.1 < 0)) = true then
          if true = true then
            some true
          else
            (right_CheckChain F (x0.1, x0.2.1, x0.2.2.1, x0.2.2.2.1, x0.2.2.2.2) x8 x10.1 x10.2.1) >>= fun x14 =>
            if (!decide (x14 = 0)) = true then
              (ix x0.2.2.2.2 x10.1) >>= fun x15 =>
              (law10_there F x11.1 x15) >>= fun x16 =>
              some (!x16)
            else
              (ref10_CheckChain F (x0.1, x0.2.1, x0.2.2.1, x0.2.2.2.1, x0.2.2.2.2) x8 x10.1 x10.2.1) >>= fun x17 =>
              if (!decide (x17 = 0)) = true then
                some true
              else
                (ix x0.2.2.2.2 x10.1) >>= fun x18 =>
                (law10_there F x11.1 x18) >>= fun x19 =>
                some (!x19)
        else
          if (decide ((x0.2.2.2.2.length : Int) ≤ x10.1)) = true then
            if true = true then
              some true
            else
              (ref10_CheckChain F (x0.1, x0.2.1, x0.2.2.1, x0.2.2.2.1, x0.2.2.2.2) x8 x10.1 x10.2.1) >>= fun x20 =>
              if (!decide (x20 = 0)) = true then
                some true
              else
                (ix x0.2.2.2.2 x10.1) >>= fun x21 =>
                (law10_there F x11.1 x21) >>= fun x22 =>
                some (!x22)
          else
            (right_CheckChain F (x0.1, x0.2.1, x0.2.2.1, x0.2.2.2.1, x0.2.2.2.2) x8 x10.1 x10.2.1) >>= fun x23 =>
            if (!decide (x23 = 0)) = true then
              if true = true then
                some true
              else
                (ix x0.2.2.2.2 x10.1) >>= fun x24 =>
                (law10_there F x11.1 x24) >>= fun x25 =>
                some (!x25)
            else
              (ref10_CheckChain F (x0.1, x0.2.1, x0.2.2.1, x0.2.2.2.1, x0.2.2.2.2) x8 x10.1 x10.2.1) >>= fun x26 =>
              if (!decide (x26 = 0)) = true then
                some true
              else
                (ix x0.2.2.2.2 x10.1) >>= fun x27 =>
                (law10_there F x11.1 x27) >>= fun x28 =>
                some (!x28)
      else
        some false : Option (Bool)) >>= fun y1 =>
      if y1 = true then
        some false
      else
        (law10_Walk F (x0.1, x0.2.1, x0.2.2.1, x0.2.2.2.1, x0.2.2.2.2) x8 x3) >>= fun x29 =>
        ((law10_RightKept_l1 F x0 x11 x29 F 0) >>= fun o => match o with
          | .inl r => some r
          | .inr () =>
            if (decide ((x0.2.2.2.2.length : Int) = 0)) = true then
              (gd (decide (x9 = 0)) (law10_Works F) false) >>= fun x36 =>
              some ((decide (x9 = 0)) && x36)
            else
              (rem (w64 x2) (x0.2.2.2.2.length : Int)) >>= fun x37 =>
              (right_CheckChain F (x0.1, x0.2.1, x0.2.2.1, x0.2.2.2.1, x0.2.2.2.2) x8 x37 x29) >>= fun x38 =>
              (right_CheckChain F (x0.1, x0.2.1, x0.2.2.1, x0.2.2.2.1, x0.2.2.2.2) x8 x37 x4) >>= fun x39 =>
              if (((!decide (x38 = 0)) && (!decide (x38 = 14))) || ((decide (x9 = 0)) && ((decide (x38 = 0)) || (decide (x39 = 0))))) = true then
                some false
              else
                ((if (!decide (x38 = 0)) = true then
                  if true = true then
                    if (!decide (x39 = 0)) = true then
                      (law10_Works F) >>= fun x40 =>
                      some x40
                    else
                      (ix x0.2.2.2.2 x37) >>= fun x41 =>
                      (law10_there F x11.1 x41) >>= fun x42 =>
                      if x42 = true then
                        (law10_Works F) >>= fun x43 =>
                        some x43
                      else
                        some false
                  else
                    if false = true then
                      (law10_Works F) >>= fun x44 =>
                      some x44
                    else
                      some false
                else
                  (ix x0.2.2.2.2 x37) >>= fun x45 =>
                  (law10_there F x11.1 x45) >>= fun x46 =>
                  if x46 = true then
                    if (!decide (x39 = 0)) = true then
                      if true = true then
                        (law10_Works F) >>= fun x47 =>
                        some x47
                      else
                        some false
                    else
                      (ix x0.2.2.2.2 x37) >>= fun x48 =>
                      (law10_there F x11.1 x48) >>= fun x49 =>
                      if x49 = true then
                        (law10_Works F) >>= fun x50 =>
                        some x50
                      else
                        some false
                  else
                    if false = true then
                      (law10_Works F) >>= fun x51 =>
                      some x51
                    else
                      some false : Option (Bool)) >>= fun y4 =>
                some y4)))

-- 8 mandrel/mandrellaw10.RightNamed
def law10_RightNamed_l1 (F : Nat) (x0 : (Int × (List Int) × (List ((List Int) × Int)) × (List ((List Int) × Int)) × (List (List Int)))) (x5 : ((List Int) × Int)) : Nat → (List Int) → Int → Option (Sum Bool ((List Int)))
  | 0, _, _ => none
  | m + 1, y1, y2 =>
    if (decide (y2 < (x5.1.length : Int))) = true then
      (((((ix x5.1 y2) >>= fun x7 =>
      if (decide (x7 < (-1))) = true then
        some true
      else
        (ix x5.1 y2) >>= fun x8 =>
        some (decide ((x0.2.2.2.2.length : Int) ≤ x8)) : Option (Bool)) >>= fun y4 =>
      if y4 = true then
        some (.inl false)
      else
        (ix x5.1 y2) >>= fun x9 =>
        ((if (decide (x9 = (-1))) = true then
          (app 8 y1 ([y2] : List Int)) >>= fun x10 =>
          some x10
        else
          some y1 : Option ((List Int))) >>= fun y5 =>
        some (.inr y5))) : Option (Sum Bool ((List Int)))) >>= fun o => match o with
        | .inl r => some (.inl r)
        | .inr y3 =>
          law10_RightNamed_l1 F x0 x5 m y3 (w64 (y2 + 1)))
    else
      some (.inr y1)

def law10_RightNamed_l2 (F : Nat) (x5 : ((List Int) × Int)) (x14 : Int) : Nat → (List Int) → Int → Option ((List Int))
  | 0, _, _ => none
  | m + 1, y6, y7 =>
    if (decide (y7 ≤ x14)) = true then
      ((((if (decide (y7 = x14)) = true then
        some true
      else
        (ix x5.1 y7) >>= fun x17 =>
        some (decide (x17 = (-1))) : Option (Bool)) >>= fun y9 =>
      ((if y9 = true then
        (app 8 y6 ([y7] : List Int)) >>= fun x18 =>
        some x18
      else
        some y6 : Option ((List Int))) >>= fun y10 =>
      some y10)) : Option ((List Int))) >>= fun y8 =>
      law10_RightNamed_l2 F x5 x14 m y8 (w64 (y7 + 1)))
    else
      some y6

def law10_RightNamed (F : Nat) (x0 : (Int × (List Int) × (List ((List Int) × Int)) × (List ((List Int) × Int)) × (List (List Int)))) (x1 : Int) : Option Bool :=
  (law10_fine F (x0.1, x0.2.1, x0.2.2.1, x0.2.2.2.1, x0.2.2.2.2)) >>= fun x3 =>
  if (!x3) = true then
    (law10_Works F) >>= fun x4 =>
    some x4
  else
    (right_Decide F (x0.1, x0.2.1, x0.2.2.1, x0.2.2.2.1, x0.2.2.2.2)) >>= fun x5 =>
    if ((!decide (x5.2 = 0)) || (!decide ((x5.1.length : Int) = (x0.2.2.2.1.length : Int)))) = true then
      some false
    else
      ((law10_RightNamed_l1 F x0 x5 F ([]) 0) >>= fun o => match o with
        | .inl r => some r
        | .inr z1 =>
          (right_Check F (x0.1, x0.2.1, x0.2.2.1, x0.2.2.2.1, x0.2.2.2.2) z1) >>= fun x11 =>
          (gd (!(!decide (x11 = 0))) (ref10_Check F (x0.1, x0.2.1, x0.2.2.1, x0.2.2.2.1, x0.2.2.2.2) z1) 0) >>= fun x12 =>
          if ((!decide (x11 = 0)) || (!decide (x12 = 0))) = true then
            some false
          else
            if (decide ((x5.1.length : Int) = 0)) = true then
              (law10_Works F) >>= fun x13 =>
              some x13
            else
              (rem (w64 x1) (x5.1.length : Int)) >>= fun x14 =>
              (ix x5.1 x14) >>= fun x15 =>
              if (decide (x15 = (-1))) = true then
                (law10_Works F) >>= fun x16 =>
                some x16
              else
                ((law10_RightNamed_l2 F x5 x14 F ([]) 0) >>= fun z2 =>
                (right_Broken F (x0.1, x0.2.1, x0.2.2.1, x0.2.2.2.1, x0.2.2.2.2) z2) >>= fun x19 =>
                ((if (decide (x19.2.2 = 0)) = true then
                  (ix x5.1 x14) >>= fun x20 =>
                  if (decide (x19.1 = x20)) = true then
                    (ref10_CheckChain F (x0.1, x0.2.1, x0.2.2.1, x0.2.2.2.1, x0.2.2.2.2) z2 x19.1 x19.2.1) >>= fun x21 =>
                    if (decide (x21 = 0)) = true then
                      (law10_Works F) >>= fun x22 =>
                      some x22
                    else
                      some false
                  else
                    if false = true then
                      (law10_Works F) >>= fun x23 =>
                      some x23
                    else
                      some false
                else
                  if false = true then
                    (ref10_CheckChain F (x0.1, x0.2.1, x0.2.2.1, x0.2.2.2.1, x0.2.2.2.2) z2 x19.1 x19.2.1) >>= fun x24 =>
                    if (decide (x24 = 0)) = true then
                      (law10_Works F) >>= fun x25 =>
                      some x25
                    else
                      some false
                  else
                    some false : Option (Bool)) >>= fun y11 =>
                some y11)))
end Go.Proofs.Ytdimoehnkagghaa
