/-
  Pure functions, one for each function of the program, as a program of our own printed them. No condition: definitions.
-/
import Derived.Test.YthppacohnciinaaCopy
import Derived.Test.YthppacohnciinaaMapw
namespace Go.Proofs.Ythppacohnciinaa
open Go Go.Md Go.RowKit

-- 14 mandrel/mandrellaw01.great
def law01_great (x0 : (Int × (List (Int × Int × Int)))) : Option Bool :=
  some (decide (70 < (x0.2.length : Int)))

-- 80 slices.IndexFunc[[]int,int]
def slices_IndexFunc_int_l1 (F : Nat) (x0 : (List Int)) (x1 : (Int → Option Bool)) : Nat → Int → Option (Sum Int (Unit))
  | 0, _ => none
  | m + 1, y1 =>
    if (decide (y1 < (x0.length : Int))) = true then
      (ix x0 y1) >>= fun x3 =>
      (x1 x3) >>= fun x4 =>
      if x4 = true then
        some (.inl y1)
      else
        slices_IndexFunc_int_l1 F x0 x1 m (w64 (y1 + 1))
    else
      some (.inr ())

def slices_IndexFunc_int (F : Nat) (x0 : (List Int)) (x1 : (Int → Option Bool)) : Option Int :=
  ((slices_IndexFunc_int_l1 F x0 x1 F 0) >>= fun o => match o with
    | .inl r => some r
    | .inr () =>
      some (-1))

-- 72 slices.ContainsFunc[[]int,int]
def slices_ContainsFunc_int (F : Nat) (x0 : (List Int)) (x1 : (Int → Option Bool)) : Option Bool :=
  (slices_IndexFunc_int F x0 x1) >>= fun x3 =>
  some (decide (0 ≤ x3))

-- 73 mandrel/speed.turns$1
def speed_turns_1 (x0 : Int) (x1 : Int) (x2 : Int) : Option Bool :=
  some ((decide (x0 < x1)) || (decide (x2 < x0)))

-- 53 mandrel/speed.turns
def speed_turns (F : Nat) (x0 : Int) (x1 : Int) (x2 : (List Int)) : Option Bool :=
  (slices_ContainsFunc_int F x2 (fun y => speed_turns_1 y x0 x1)) >>= fun x4 =>
  some (!x4)

-- 82 slices.IndexFunc[[]int64,int64]
def slices_IndexFunc_int64_l1 (F : Nat) (x0 : (List Int)) (x1 : (Int → Option Bool)) : Nat → Int → Option (Sum Int (Unit))
  | 0, _ => none
  | m + 1, y1 =>
    if (decide (y1 < (x0.length : Int))) = true then
      (ix x0 y1) >>= fun x3 =>
      (x1 x3) >>= fun x4 =>
      if x4 = true then
        some (.inl y1)
      else
        slices_IndexFunc_int64_l1 F x0 x1 m (w64 (y1 + 1))
    else
      some (.inr ())

def slices_IndexFunc_int64 (F : Nat) (x0 : (List Int)) (x1 : (Int → Option Bool)) : Option Int :=
  ((slices_IndexFunc_int64_l1 F x0 x1 F 0) >>= fun o => match o with
    | .inl r => some r
    | .inr () =>
      some (-1))

-- 75 slices.ContainsFunc[[]int64,int64]
def slices_ContainsFunc_int64 (F : Nat) (x0 : (List Int)) (x1 : (Int → Option Bool)) : Option Bool :=
  (slices_IndexFunc_int64 F x0 x1) >>= fun x3 =>
  some (decide (0 ≤ x3))

-- 76 mandrel/speed.within$1
def speed_within_1 (x0 : Int) (x1 : Int) (x2 : Int) : Option Bool :=
  some ((decide (x0 < x1)) || (decide (x2 < x0)))

-- 64 mandrel/speed.within
def speed_within (F : Nat) (x0 : Int) (x1 : Int) (x2 : (List Int)) : Option Bool :=
  (slices_ContainsFunc_int64 F x2 (fun y => speed_within_1 y x0 x1)) >>= fun x4 =>
  some (!x4)

-- 68 mandrel/speed.CheckSheet$1
def speed_CheckSheet_1 (F : Nat) (x0 : (Int × Int × Int)) (x1 : (Int × (List (Int × Int × Int)))) : Option Bool :=
  (speed_turns F 0 x1.1 ([x0.1, x0.2.1] : List Int)) >>= fun x3 =>
  (gd (!((!x3) || (decide (x0.1 = x0.2.1)))) (speed_within F (-100000) 100000 ([x0.2.2] : List Int)) false) >>= fun x4 =>
  some (((!x3) || (decide (x0.1 = x0.2.1))) || (!x4))

-- 78 slices.IndexFunc[[]mandrel/api.SpeedRule,mandrel/api.SpeedRule]
def slices_IndexFunc_api_SpeedRule_l1 (F : Nat) (x0 : (List (Int × Int × Int))) (x1 : ((Int × Int × Int) → Option Bool)) : Nat → Int → Option (Sum Int (Unit))
  | 0, _ => none
  | m + 1, y1 =>
    if (decide (y1 < (x0.length : Int))) = true then
      (ix x0 y1) >>= fun x3 =>
      (x1 (x3.1, x3.2.1, x3.2.2)) >>= fun x4 =>
      if x4 = true then
        some (.inl y1)
      else
        slices_IndexFunc_api_SpeedRule_l1 F x0 x1 m (w64 (y1 + 1))
    else
      some (.inr ())

def slices_IndexFunc_api_SpeedRule (F : Nat) (x0 : (List (Int × Int × Int))) (x1 : ((Int × Int × Int) → Option Bool)) : Option Int :=
  ((slices_IndexFunc_api_SpeedRule_l1 F x0 x1 F 0) >>= fun o => match o with
    | .inl r => some r
    | .inr () =>
      some (-1))

-- 69 slices.ContainsFunc[[]mandrel/api.SpeedRule,mandrel/api.SpeedRule]
def slices_ContainsFunc_api_SpeedRule (F : Nat) (x0 : (List (Int × Int × Int))) (x1 : ((Int × Int × Int) → Option Bool)) : Option Bool :=
  (slices_IndexFunc_api_SpeedRule F x0 x1) >>= fun x3 =>
  some (decide (0 ≤ x3))

-- 43 mandrel/speed.CheckSheet
def speed_CheckSheet (F : Nat) (x0 : (Int × (List (Int × Int × Int)))) : Option Int :=
  if (decide (60 < (x0.2.length : Int))) = true then
    some 6
  else
    (speed_turns F 1 20 ([x0.1] : List Int)) >>= fun x2 =>
    if (!x2) = true then
      some 2
    else
      (slices_ContainsFunc_api_SpeedRule F x0.2 (fun y => speed_CheckSheet_1 F y (x0.1, x0.2))) >>= fun x3 =>
      if x3 = true then
        some 3
      else
        some 0

-- 66 mandrel/mandrelref01.IsRule
def ref01_IsRule (x0 : (Int × Int × Int)) (x1 : Int) : Option Bool :=
  some (((((((decide (0 ≤ x0.1)) && (decide (x0.1 ≤ x1))) && (decide (0 ≤ x0.2.1))) && (decide (x0.2.1 ≤ x1))) && (!decide (x0.1 = x0.2.1))) && (decide ((-100000) ≤ x0.2.2))) && (decide (x0.2.2 ≤ 100000)))

-- 36 mandrel/mandrelref01.CheckSheet
def ref01_CheckSheet_l1 (F : Nat) (x0 : (Int × (List (Int × Int × Int)))) : Nat → Int → Option (Sum Int (Unit))
  | 0, _ => none
  | m + 1, y1 =>
    if (decide (y1 < (x0.2.length : Int))) = true then
      (ix x0.2 y1) >>= fun x2 =>
      (ref01_IsRule (x2.1, x2.2.1, x2.2.2) x0.1) >>= fun x3 =>
      if (!x3) = true then
        some (.inl 3)
      else
        ref01_CheckSheet_l1 F x0 m (w64 (y1 + 1))
    else
      some (.inr ())

def ref01_CheckSheet (F : Nat) (x0 : (Int × (List (Int × Int × Int)))) : Option Int :=
  if (decide (60 < (x0.2.length : Int))) = true then
    some 6
  else
    if ((decide (x0.1 < 1)) || (decide (20 < x0.1))) = true then
      some 2
    else
      ((ref01_CheckSheet_l1 F x0 F 0) >>= fun o => match o with
        | .inl r => some r
        | .inr () =>
          some 0)

-- 24 mandrel/mandrellaw01.longs
def law01_longs_l1 (F : Nat) (x0 : (List Int)) (x1 : (List Int)) : Nat → Int → Option (Sum Bool (Unit))
  | 0, _ => none
  | m + 1, y1 =>
    if (decide (y1 < (x0.length : Int))) = true then
      (ix x0 y1) >>= fun x3 =>
      (ix x1 y1) >>= fun x4 =>
      if (!decide (x3 = x4)) = true then
        some (.inl false)
      else
        law01_longs_l1 F x0 x1 m (w64 (y1 + 1))
    else
      some (.inr ())

def law01_longs (F : Nat) (x0 : (List Int)) (x1 : (List Int)) : Option Bool :=
  if (!decide ((x0.length : Int) = (x1.length : Int))) = true then
    some false
  else
    ((law01_longs_l1 F x0 x1 F 0) >>= fun o => match o with
      | .inl r => some r
      | .inr () =>
        some true)

-- 62 mandrel/mandrelref01.All
def ref01_All_l1 (F : Nat) (x0 : (Int × (List (Int × Int × Int)))) : Nat → (List (Int × Int × Int)) → Int → Option ((List (Int × Int × Int)))
  | 0, _, _ => none
  | m + 1, y1, y2 =>
    if (decide (y2 ≤ x0.1)) = true then
      (app 24 y1 ([(0, y2, 100000), (y2, 0, 0)] : List (Int × Int × Int))) >>= fun x3 =>
      ref01_All_l1 F x0 m x3 (w64 (y2 + 1))
    else
      some y1

def ref01_All (F : Nat) (x0 : (Int × (List (Int × Int × Int)))) : Option (List (Int × Int × Int)) :=
  (app 24 ([] : List (Int × Int × Int)) x0.2) >>= fun x2 =>
  ((ref01_All_l1 F x0 F x2 1) >>= fun z1 =>
  some z1)

-- 61 mandrel/mandrelref01.chain
def ref01_chain_l1 (F : Nat) (x1 : (List Int)) (x3 : (List (Int × Int × Int))) : Nat → Int → Option (Sum (Int × Int) (Unit))
  | 0, _ => none
  | m + 1, y1 =>
    if (decide (y1 < (x1.length : Int))) = true then
      (((ix x1 y1) >>= fun x5 =>
      if (decide (x5 < 0)) = true then
        some true
      else
        (ix x1 y1) >>= fun x6 =>
        some (decide ((x3.length : Int) ≤ x6)) : Option (Bool)) >>= fun y2 =>
      if y2 = true then
        some (.inl (0, 3))
      else
        ref01_chain_l1 F x1 x3 m (w64 (y1 + 1)))
    else
      some (.inr ())

def ref01_chain_l2 (F : Nat) (x1 : (List Int)) (x3 : (List (Int × Int × Int))) : Nat → Int → Int → Option (Sum (Int × Int) (Int))
  | 0, _, _ => none
  | m + 1, y3, y4 =>
    if (decide (y4 < (x1.length : Int))) = true then
      ((if (decide (0 < y4)) = true then
        (ix x1 y4) >>= fun x7 =>
        (ix x3 x7) >>= fun x8 =>
        (ix x1 (w64 (y4 - 1))) >>= fun x9 =>
        (ix x3 x9) >>= fun x10 =>
        some (!decide (x8.1 = x10.2.1))
      else
        some false : Option (Bool)) >>= fun y5 =>
      if y5 = true then
        some (.inl (0, 16))
      else
        (ix x1 y4) >>= fun x11 =>
        (ix x3 x11) >>= fun x12 =>
        ref01_chain_l2 F x1 x3 m (w64 (y3 + x12.2.2)) (w64 (y4 + 1)))
    else
      some (.inr y3)

def ref01_chain (F : Nat) (x0 : (Int × (List (Int × Int × Int)))) (x1 : (List Int)) : Option (Int × Int) :=
  (ref01_All F (x0.1, x0.2)) >>= fun x3 =>
  ((ref01_chain_l1 F x1 x3 F 0) >>= fun o => match o with
    | .inl r => some r
    | .inr () =>
      ((ref01_chain_l2 F x1 x3 F 0 0) >>= fun o => match o with
        | .inl r => some r
        | .inr z1 =>
          some (z1, 0)))

-- 25 mandrel/mandrelref01.CheckWay
def ref01_CheckWay (F : Nat) (x0 : (Int × (List (Int × Int × Int)))) (x1 : Int) (x2 : Int) (x3 : (List Int)) : Option (Int × Int) :=
  (ref01_CheckSheet F (x0.1, x0.2)) >>= fun x5 =>
  if (!decide (x5 = 0)) = true then
    (ref01_CheckSheet F (x0.1, x0.2)) >>= fun x6 =>
    some (0, x6)
  else
    if ((((decide (x1 < 0)) || (decide (x0.1 < x1))) || (decide (x2 < 0))) || (decide (x0.1 < x2))) = true then
      some (0, 2)
    else
      if (decide (60 < (x3.length : Int))) = true then
        some (0, 6)
      else
        (ref01_chain F (x0.1, x0.2) x3) >>= fun x7 =>
        if (!decide (x7.2 = 0)) = true then
          some (0, x7.2)
        else
          if (decide ((x3.length : Int) = 0)) = true then
            if (!decide (x1 = x2)) = true then
              some (0, 16)
            else
              some (0, 0)
          else
            (ref01_All F (x0.1, x0.2)) >>= fun x8 =>
            (((ix x3 0) >>= fun x11 =>
            (ix x8 x11) >>= fun x12 =>
            if (!decide (x12.1 = x1)) = true then
              some true
            else
              (ix x3 (w64 ((x3.length : Int) - 1))) >>= fun x13 =>
              (ix x8 x13) >>= fun x14 =>
              some (!decide (x14.2.1 = x2)) : Option (Bool)) >>= fun y1 =>
            if y1 = true then
              some (0, 16)
            else
              some (x7.1, 0))

-- 58 mandrel/speed.tone
def speed_tone (F : Nat) (x0 : (List Int)) : Option Bool :=
  (speed_within F 1 1000000 x0) >>= fun x2 =>
  some x2

-- 63 mandrel/speed.up[int64]
def speed_up__int64 (x0 : Int) (x1 : Int) : Option Int :=
  (quo (w64 ((w64 (x0 + x1)) - 1)) x1) >>= fun x3 =>
  some x3

-- 26 mandrel/speed.Pipe
def speed_Pipe (F : Nat) (x0 : Int) (x1 : Int) (x2 : (Int × Int)) : Option ((List (Int × Int × Int)) × Int) :=
  (speed_turns F 1 20 ([x0] : List Int)) >>= fun x4 =>
  if (!x4) = true then
    some ([], 2)
  else
    (speed_tone F ([x1, x2.1, x2.2] : List Int)) >>= fun x5 =>
    if ((!x5) || (decide (x2.2 < x2.1))) = true then
      some ([], 3)
    else
      (quo (w64 (x1 * 16000)) x2.1) >>= fun x6 =>
      (speed_up__int64 (w64 (x1 * 16000)) x2.2) >>= fun x7 =>
      if (decide ((if x6 < 100000 then x6 else 100000) < x7)) = true then
        some ([], 17)
      else
        some (([(0, x0, if x6 < 100000 then x6 else 100000), (x0, 0, w64 (0 - x7))] : List (Int × Int × Int)), 0)

-- 59 mandrel/mandrelref01.tone
def ref01_tone (x0 : Int) : Option Bool :=
  some ((decide (1 ≤ x0)) && (decide (x0 ≤ 1000000)))

-- 27 mandrel/mandrelref01.Pipe
def ref01_Pipe (x0 : Int) (x1 : Int) (x2 : (Int × Int)) : Option ((List (Int × Int × Int)) × Int) :=
  if ((decide (x0 < 1)) || (decide (20 < x0))) = true then
    some ([], 2)
  else
    (ref01_tone x1) >>= fun x4 =>
    (gd (!(!x4)) (ref01_tone x2.1) false) >>= fun x5 =>
    (gd (!((!x4) || (!x5))) (ref01_tone x2.2) false) >>= fun x6 =>
    if ((((!x4) || (!x5)) || (!x6)) || (decide (x2.2 < x2.1))) = true then
      some ([], 3)
    else
      (quo (w64 ((w64 ((w64 (x1 * 16000)) + x2.2)) - 1)) x2.2) >>= fun x7 =>
      (quo (w64 (x1 * 16000)) x2.1) >>= fun x8 =>
      if (decide ((if x8 < 100000 then x8 else 100000) < x7)) = true then
        some ([], 17)
      else
        some (([(0, x0, if x8 < 100000 then x8 else 100000), (x0, 0, w64 (0 - x7))] : List (Int × Int × Int)), 0)

-- 28 mandrel/speed.Spring
def speed_Spring_l1 (F : Nat) (x1 : Int) (x2 : Int) : Nat → (List (Int × Int × Int)) → Int → Option ((List (Int × Int × Int)))
  | 0, _, _ => none
  | m + 1, y1, y2 =>
    if (decide (y2 < x1)) = true then
      (app 24 y1 ([(y2, w64 (y2 + 1), 0), (w64 (y2 + 1), y2, x2)] : List (Int × Int × Int))) >>= fun x6 =>
      speed_Spring_l1 F x1 x2 m x6 (w64 (y2 + 1))
    else
      some y1

def speed_Spring (F : Nat) (x0 : Int) (x1 : Int) (x2 : Int) : Option ((List (Int × Int × Int)) × Int) :=
  (speed_turns F 1 20 ([x0, x1] : List Int)) >>= fun x4 =>
  if ((!x4) || (decide (x1 ≤ x0))) = true then
    some ([], 2)
  else
    (speed_within F 0 100000 ([x2] : List Int)) >>= fun x5 =>
    if (!x5) = true then
      some ([], 3)
    else
      ((speed_Spring_l1 F x1 x2 F ([]) x0) >>= fun z1 =>
      some (z1, 0))

-- 29 mandrel/mandrelref01.Spring
def ref01_Spring_l1 (F : Nat) (x1 : Int) (x2 : Int) : Nat → (List (Int × Int × Int)) → Int → Option ((List (Int × Int × Int)))
  | 0, _, _ => none
  | m + 1, y1, y2 =>
    if (decide (y2 < x1)) = true then
      (app 24 y1 ([(y2, w64 (y2 + 1), 0), (w64 (y2 + 1), y2, x2)] : List (Int × Int × Int))) >>= fun x4 =>
      ref01_Spring_l1 F x1 x2 m x4 (w64 (y2 + 1))
    else
      some y1

def ref01_Spring (F : Nat) (x0 : Int) (x1 : Int) (x2 : Int) : Option ((List (Int × Int × Int)) × Int) :=
  if (((((decide (x0 < 1)) || (decide (20 < x0))) || (decide (x1 < 1))) || (decide (20 < x1))) || (decide (x1 ≤ x0))) = true then
    some ([], 2)
  else
    if ((decide (x2 < 0)) || (decide (100000 < x2))) = true then
      some ([], 3)
    else
      ((ref01_Spring_l1 F x1 x2 F ([]) x0) >>= fun z1 =>
      some (z1, 0))

-- 30 mandrel/mandrellaw01.rules
def law01_rules_l1 (F : Nat) (x0 : (List (Int × Int × Int))) (x1 : (List (Int × Int × Int))) : Nat → Int → Option (Sum Bool (Unit))
  | 0, _ => none
  | m + 1, y1 =>
    if (decide (y1 < (x0.length : Int))) = true then
      (ix x0 y1) >>= fun x3 =>
      (ix x1 y1) >>= fun x4 =>
      if (!decide ((x3.1, x3.2.1, x3.2.2) = (x4.1, x4.2.1, x4.2.2))) = true then
        some (.inl false)
      else
        law01_rules_l1 F x0 x1 m (w64 (y1 + 1))
    else
      some (.inr ())

def law01_rules (F : Nat) (x0 : (List (Int × Int × Int))) (x1 : (List (Int × Int × Int))) : Option Bool :=
  if (!decide ((x0.length : Int) = (x1.length : Int))) = true then
    some false
  else
    ((law01_rules_l1 F x0 x1 F 0) >>= fun o => match o with
      | .inl r => some r
      | .inr () =>
        some true)

-- 49 mandrel/mandrelref01.Of
def ref01_Of (x0 : (List Int)) (x1 : Int) : Option Int :=
  if (decide (x1 = 0)) = true then
    some 0
  else
    (ix x0 (w64 (x1 - 1))) >>= fun x3 =>
    some x3

-- 32 mandrel/mandrelref01.CheckSpeeds
def ref01_CheckSpeeds_l1 (F : Nat) (x1 : (List Int)) : Nat → Int → Option (Sum Int (Unit))
  | 0, _ => none
  | m + 1, y1 =>
    if (decide (y1 < (x1.length : Int))) = true then
      (((ix x1 y1) >>= fun x6 =>
      if (decide (x6 < 0)) = true then
        some true
      else
        (ix x1 y1) >>= fun x7 =>
        some (decide (100000 < x7)) : Option (Bool)) >>= fun y2 =>
      if y2 = true then
        some (.inl 3)
      else
        ref01_CheckSpeeds_l1 F x1 m (w64 (y1 + 1)))
    else
      some (.inr ())

def ref01_CheckSpeeds_l2 (F : Nat) (x0 : (Int × (List (Int × Int × Int)))) (x1 : (List Int)) : Nat → Int → Option (Sum Int (Unit))
  | 0, _ => none
  | m + 1, y3 =>
    if (decide (y3 < (x0.2.length : Int))) = true then
      (ix x0.2 y3) >>= fun x8 =>
      (ref01_Of x1 x8.2.1) >>= fun x9 =>
      (ref01_Of x1 x8.1) >>= fun x10 =>
      if (decide ((w64 (x10 + x8.2.2)) < x9)) = true then
        some (.inl 17)
      else
        ref01_CheckSpeeds_l2 F x0 x1 m (w64 (y3 + 1))
    else
      some (.inr ())

def ref01_CheckSpeeds (F : Nat) (x0 : (Int × (List (Int × Int × Int)))) (x1 : (List Int)) : Option Int :=
  (ref01_CheckSheet F (x0.1, x0.2)) >>= fun x3 =>
  if (!decide (x3 = 0)) = true then
    (ref01_CheckSheet F (x0.1, x0.2)) >>= fun x4 =>
    some x4
  else
    if (!decide ((x1.length : Int) = x0.1)) = true then
      some 15
    else
      ((ref01_CheckSpeeds_l1 F x1 F 0) >>= fun o => match o with
        | .inl r => some r
        | .inr () =>
          ((ref01_CheckSpeeds_l2 F x0 x1 F 0) >>= fun o => match o with
            | .inl r => some r
            | .inr () =>
              some 0))

-- 34 mandrel/mandrellaw01.rg
def law01_rg (x0 : Int) (x1 : Int) : Option (Int × Int) :=
  some (x0, x1)

-- 38 mandrel/mandrellaw01.inside
def law01_inside (x0 : (Int × Int)) (x1 : (Int × Int)) : Option Bool :=
  some (((decide (x1.1 ≤ x0.1)) && (decide (x0.2 ≤ x1.2))) && (decide (x0.1 ≤ x0.2)))

-- 39 mandrel/mandrellaw01.Rule
def law01_Rule (x0 : Int) (x1 : Int) (x2 : Int) : Option (Int × Int × Int) :=
  some (x0, x1, x2)

-- 40 mandrel/mandrelref01.Heard
def ref01_Heard (x0 : Int) (x1 : Int) (x2 : (Int × Int)) : Option Bool :=
  some (((decide (0 < x1)) && (decide ((w64 (x2.1 * x1)) ≤ (w64 (x0 * 16000))))) && (decide ((w64 (x0 * 16000)) ≤ (w64 (x2.2 * x1)))))

-- 42 mandrel/mandrelref01.Whole
def ref01_Whole (F : Nat) (x0 : (Int × (List (Int × Int × Int)))) : Option ((List (Int × Int × Int)) × Int) :=
  (ref01_CheckSheet F (x0.1, x0.2)) >>= fun x2 =>
  if (!decide (x2 = 0)) = true then
    (ref01_CheckSheet F (x0.1, x0.2)) >>= fun x3 =>
    some ([], x3)
  else
    (ref01_All F (x0.1, x0.2)) >>= fun x4 =>
    some (x4, 0)

-- 46 mandrel/mandrelref01.CheckCircle
def ref01_CheckCircle (F : Nat) (x0 : (Int × (List (Int × Int × Int)))) (x1 : (List Int)) : Option Int :=
  (ref01_CheckSheet F (x0.1, x0.2)) >>= fun x3 =>
  if (!decide (x3 = 0)) = true then
    (ref01_CheckSheet F (x0.1, x0.2)) >>= fun x4 =>
    some x4
  else
    if ((decide ((x1.length : Int) < 1)) || (decide (60 < (x1.length : Int)))) = true then
      some 6
    else
      (ref01_chain F (x0.1, x0.2) x1) >>= fun x5 =>
      if (!decide (x5.2 = 0)) = true then
        some x5.2
      else
        (ref01_All F (x0.1, x0.2)) >>= fun x6 =>
        (ix x1 0) >>= fun x7 =>
        (ix x6 x7) >>= fun x8 =>
        (ix x1 (w64 ((x1.length : Int) - 1))) >>= fun x9 =>
        (ix x6 x9) >>= fun x10 =>
        if (!decide (x8.1 = x10.2.1)) = true then
          some 16
        else
          if (decide (0 ≤ x5.1)) = true then
            some 14
          else
            some 0

-- 52 mandrel/mandrellaw01.ints
def law01_ints_l1 (F : Nat) (x0 : (List Int)) (x1 : (List Int)) : Nat → Int → Option (Sum Bool (Unit))
  | 0, _ => none
  | m + 1, y1 =>
    if (decide (y1 < (x0.length : Int))) = true then
      (ix x0 y1) >>= fun x3 =>
      (ix x1 y1) >>= fun x4 =>
      if (!decide (x3 = x4)) = true then
        some (.inl false)
      else
        law01_ints_l1 F x0 x1 m (w64 (y1 + 1))
    else
      some (.inr ())

def law01_ints (F : Nat) (x0 : (List Int)) (x1 : (List Int)) : Option Bool :=
  if (!decide ((x0.length : Int) = (x1.length : Int))) = true then
    some false
  else
    ((law01_ints_l1 F x0 x1 F 0) >>= fun o => match o with
      | .inl r => some r
      | .inr () =>
        some true)

-- 56 mandrel/speed.Ends$1
def speed_Ends_1 (x0 : Int) (x1 : (Ar 21 Int)) : Option Int :=
  (ix x1.l x0) >>= fun x3 =>
  some x3

-- 65 (mandrel/speed.list).keeps
def speed_list_keeps (x0 : (Ar 21 Int)) (x1 : (Int × Int × Int)) : Option Bool :=
  (ix x0.l x1.2.1) >>= fun x3 =>
  (ix x0.l x1.1) >>= fun x4 =>
  some (decide (x3 ≤ (w64 (x4 + x1.2.2))))

-- 79 (*mandrel/speed.net).follow$1
def speed_net_follow_1 (x0 : Int) (x1 : (Ob ((Int × (List (Int × Int × Int))) × (List (Int × Int × Int))))) : Option Bool :=
  (x1.v) >>= fun x3 =>
  some ((decide (x0 < 0)) || (decide ((x3.2.length : Int) ≤ x0)))

-- 71 (*mandrel/speed.net).follow
def speed_net_follow_l1 (F : Nat) (x0 : ((Int × (List (Int × Int × Int))) × (List (Int × Int × Int)))) (x1 : (List Int)) : Nat → Int → Int → (Int × Int × Int) → (Int × Int × Int) → Option (Sum (Int × Int × Int × Int) (Int × (Int × Int × Int) × (Int × Int × Int)))
  | 0, _, _, _, _ => none
  | m + 1, y3, y4, y5, y6 =>
    if (decide (y4 < (x1.length : Int))) = true then
      (ix x1 y4) >>= fun x4 =>
      (ix x0.2 x4) >>= fun x5 =>
      if ((!decide ((y6.1, y6.2.1, y6.2.2) = (0, 0, 0))) && (!decide (x5.1 = y6.2.1))) = true then
        some (.inl (0, 0, 0, 16))
      else
        ((if (decide ((y5.1, y5.2.1, y5.2.2) = (0, 0, 0))) = true then
          some (x5.1, x5.2.1, x5.2.2)
        else
          some (y5.1, y5.2.1, y5.2.2) : Option ((Int × Int × Int))) >>= fun y7 =>
        speed_net_follow_l1 F x0 x1 m (w64 (y3 + x5.2.2)) (w64 (y4 + 1)) (y7.1, y7.2.1, y7.2.2) (x5.1, x5.2.1, x5.2.2))
    else
      some (.inr (y3, (y5.1, y5.2.1, y5.2.2), (y6.1, y6.2.1, y6.2.2)))

def speed_net_follow (F : Nat) (x0 : ((Int × (List (Int × Int × Int))) × (List (Int × Int × Int)))) (x1 : (List Int)) : Option (Int × Int × Int × Int) :=
  (slices_ContainsFunc_int F x1 (fun y => speed_net_follow_1 y (⟨some ((x0.1.1, x0.1.2), x0.2)⟩ : (Ob ((Int × (List (Int × Int × Int))) × (List (Int × Int × Int))))))) >>= fun x3 =>
  if x3 = true then
    some (0, 0, 0, 3)
  else
    ((some ((0, 0, 0), (0, 0, 0)) : Option ((Int × Int × Int) × (Int × Int × Int))) >>= fun (y1, y2) =>
    ((speed_net_follow_l1 F x0 x1 F 0 0 (y1.1, y1.2.1, y1.2.2) (y2.1, y2.2.1, y2.2.2)) >>= fun o => match o with
      | .inl r => some r
      | .inr (z1, z2, z3) =>
        some (z2.1, z3.2.1, z1, 0)))
end Go.Proofs.Ythppacohnciinaa
