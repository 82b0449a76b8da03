/-
  Pure functions, one for each function of the program, as a program of our own printed them. No condition: definitions.
-/
import Derived.Test.YtdimoehnkagghaaCopy
import Derived.Test.YtdimoehnkagghaaMark
namespace Go.Proofs.Ytdimoehnkagghaa
open Go Go.Md Go.RowKit

-- 42 mandrel/mandrellaw10.long
def law10_long_l1 (F : Nat) (x0 : (List ((List Int) × Int))) : Nat → Int → Option (Sum Bool (Unit))
  | 0, _ => none
  | m + 1, y1 =>
    if (decide (y1 < (x0.length : Int))) = true then
      (ix x0 y1) >>= fun x2 =>
      if (decide (12 < (x2.1.length : Int))) = true then
        some (.inl true)
      else
        law10_long_l1 F x0 m (w64 (y1 + 1))
    else
      some (.inr ())

def law10_long (F : Nat) (x0 : (List ((List Int) × Int))) : Option Bool :=
  ((law10_long_l1 F x0 F 0) >>= fun o => match o with
    | .inl r => some r
    | .inr () =>
      some false)

-- 14 mandrel/mandrellaw10.great
def law10_great_l1 (F : Nat) (x0 : (Int × (List Int) × (List ((List Int) × Int)) × (List ((List Int) × Int)) × (List (List Int)))) : Nat → Int → Option (Sum Bool (Unit))
  | 0, _ => none
  | m + 1, y1 =>
    if (decide (y1 < (x0.2.2.2.2.length : Int))) = true then
      (ix x0.2.2.2.2 y1) >>= fun x4 =>
      if (decide (12 < (x4.length : Int))) = true then
        some (.inl true)
      else
        law10_great_l1 F x0 m (w64 (y1 + 1))
    else
      some (.inr ())

def law10_great (F : Nat) (x0 : (Int × (List Int) × (List ((List Int) × Int)) × (List ((List Int) × Int)) × (List (List Int)))) : Option Bool :=
  (gd (!((((decide (40 < (x0.2.1.length : Int))) || (decide (50 < (x0.2.2.1.length : Int)))) || (decide (20 < (x0.2.2.2.1.length : Int)))) || (decide (20 < (x0.2.2.2.2.length : Int))))) (law10_long F x0.2.2.1) false) >>= fun x2 =>
  (gd (!(((((decide (40 < (x0.2.1.length : Int))) || (decide (50 < (x0.2.2.1.length : Int)))) || (decide (20 < (x0.2.2.2.1.length : Int)))) || (decide (20 < (x0.2.2.2.2.length : Int)))) || x2)) (law10_long F x0.2.2.2.1) false) >>= fun x3 =>
  if ((((((decide (40 < (x0.2.1.length : Int))) || (decide (50 < (x0.2.2.1.length : Int)))) || (decide (20 < (x0.2.2.2.1.length : Int)))) || (decide (20 < (x0.2.2.2.2.length : Int)))) || x2) || x3) = true then
    some true
  else
    ((law10_great_l1 F x0 F 0) >>= fun o => match o with
      | .inl r => some r
      | .inr () =>
        some false)

-- 36 mandrel/mandrelref10.In
def ref10_In_l1 (F : Nat) (x0 : (List Int)) (x1 : Int) : Nat → Int → Option (Sum Bool (Unit))
  | 0, _ => none
  | m + 1, y1 =>
    if (decide (y1 < (x0.length : Int))) = true then
      (ix x0 y1) >>= fun x3 =>
      if (decide (x3 = x1)) = true then
        some (.inl true)
      else
        ref10_In_l1 F x0 x1 m (w64 (y1 + 1))
    else
      some (.inr ())

def ref10_In (F : Nat) (x0 : (List Int)) (x1 : Int) : Option Bool :=
  ((ref10_In_l1 F x0 x1 F 0) >>= fun o => match o with
    | .inl r => some r
    | .inr () =>
      some false)

-- 50 mandrel/mandrelref10.all
def ref10_all_l1 (F : Nat) (x0 : (List Int)) (x1 : (List Int)) : Nat → Int → Option (Sum Bool (Unit))
  | 0, _ => none
  | m + 1, y1 =>
    if (decide (y1 < (x1.length : Int))) = true then
      (ix x1 y1) >>= fun x3 =>
      (ref10_In F x0 x3) >>= fun x4 =>
      if (!x4) = true then
        some (.inl false)
      else
        ref10_all_l1 F x0 x1 m (w64 (y1 + 1))
    else
      some (.inr ())

def ref10_all (F : Nat) (x0 : (List Int)) (x1 : (List Int)) : Option Bool :=
  ((ref10_all_l1 F x0 x1 F 0) >>= fun o => match o with
    | .inl r => some r
    | .inr () =>
      some true)

-- 51 mandrel/mandrelref10.Closed
def ref10_Closed_l2 (F : Nat) (x0 : (Int × (List Int) × (List ((List Int) × Int)) × (List ((List Int) × Int)) × (List (List Int)))) : Nat → (List Int) → Int → Option ((List Int))
  | 0, _, _ => none
  | m + 1, y2, y3 =>
    if (decide (y3 < (x0.2.2.1.length : Int))) = true then
      (((((ix x0.2.2.1 y3) >>= fun x6 =>
      (ref10_all F y2 x6.1) >>= fun x7 =>
      if x7 = true then
        (ix x0.2.2.1 y3) >>= fun x8 =>
        (ref10_In F y2 x8.2) >>= fun x9 =>
        some (!x9)
      else
        some false : Option (Bool)) >>= fun y5 =>
      ((if y5 = true then
        (ix x0.2.2.1 y3) >>= fun x10 =>
        (app 8 y2 ([x10.2] : List Int)) >>= fun x11 =>
        some x11
      else
        some y2 : Option ((List Int))) >>= fun y6 =>
      some y6)) : Option ((List Int))) >>= fun y4 =>
      ref10_Closed_l2 F x0 m y4 (w64 (y3 + 1)))
    else
      some y2

def ref10_Closed_l3 (F : Nat) (x0 : (Int × (List Int) × (List ((List Int) × Int)) × (List ((List Int) × Int)) × (List (List Int)))) (x1 : (List Int)) : Nat → (List Int) → Int → Option ((List Int))
  | 0, _, _ => none
  | m + 1, y7, y8 =>
    if (decide (y8 < (x1.length : Int))) = true then
      (((ix x1 y8) >>= fun x12 =>
      (ix x0.2.2.2.1 x12) >>= fun x13 =>
      (ref10_all F y7 x13.1) >>= fun x14 =>
      (gd x14 (ref10_In F y7 x13.2) false) >>= fun x15 =>
      ((if (x14 && (!x15)) = true then
        (app 8 y7 ([x13.2] : List Int)) >>= fun x16 =>
        some x16
      else
        some y7 : Option ((List Int))) >>= fun y10 =>
      some y10) : Option ((List Int))) >>= fun y9 =>
      ref10_Closed_l3 F x0 x1 m y9 (w64 (y8 + 1)))
    else
      some y7

def ref10_Closed_l1 (F : Nat) (x0 : (Int × (List Int) × (List ((List Int) × Int)) × (List ((List Int) × Int)) × (List (List Int)))) (x1 : (List Int)) : Nat → (List Int) → Option (Sum (List Int) (Unit))
  | 0, _ => none
  | m + 1, y1 =>
    ((ref10_Closed_l2 F x0 F y1 0) >>= fun z1 =>
    ((ref10_Closed_l3 F x0 x1 F z1 0) >>= fun z2 =>
    if (decide ((z2.length : Int) = (y1.length : Int))) = true then
      some (.inl z2)
    else
      ref10_Closed_l1 F x0 x1 m z2))

def ref10_Closed (F : Nat) (x0 : (Int × (List Int) × (List ((List Int) × Int)) × (List ((List Int) × Int)) × (List (List Int)))) (x1 : (List Int)) : Option (List Int) :=
  (app 8 ([] : List Int) x0.2.1) >>= fun x3 =>
  ((ref10_Closed_l1 F x0 x1 F x3) >>= fun o => match o with
    | .inl r => some r
    | .inr _ => none)

-- 20 mandrel/mandrelref10.Taboo
def ref10_Taboo_l1 (F : Nat) (x0 : (Int × (List Int) × (List ((List Int) × Int)) × (List ((List Int) × Int)) × (List (List Int)))) (x3 : (List Int)) : Nat → Int → Option (Sum Int (Unit))
  | 0, _ => none
  | m + 1, y1 =>
    if (decide (y1 < (x0.2.2.2.2.length : Int))) = true then
      (ix x0.2.2.2.2 y1) >>= fun x4 =>
      (ref10_all F x3 x4) >>= fun x5 =>
      if x5 = true then
        some (.inl y1)
      else
        ref10_Taboo_l1 F x0 x3 m (w64 (y1 + 1))
    else
      some (.inr ())

def ref10_Taboo (F : Nat) (x0 : (Int × (List Int) × (List ((List Int) × Int)) × (List ((List Int) × Int)) × (List (List Int)))) (x1 : (List Int)) : Option Int :=
  (ref10_Closed F (x0.1, x0.2.1, x0.2.2.1, x0.2.2.2.1, x0.2.2.2.2) x1) >>= fun x3 =>
  ((ref10_Taboo_l1 F x0 x3 F 0) >>= fun o => match o with
    | .inl r => some r
    | .inr () =>
      some (-1))

-- 64 mandrel/mandrelref10.Rising
def ref10_Rising_l1 (F : Nat) (x0 : (List Int)) (x1 : Int) : Nat → Int → Option (Sum Bool (Unit))
  | 0, _ => none
  | m + 1, y1 =>
    if (decide (y1 < (x0.length : Int))) = true then
      (((ix x0 y1) >>= fun x4 =>
      if (decide (x4 < 0)) = true then
        if true = true then
          some true
        else
          if (decide (0 < y1)) = true then
            (ix x0 y1) >>= fun x5 =>
            (ix x0 (w64 (y1 - 1))) >>= fun x6 =>
            some (decide (x5 ≤ x6))
          else
            some false
      else
        (ix x0 y1) >>= fun x7 =>
        if (decide (x1 ≤ x7)) = true then
          some true
        else
          if (decide (0 < y1)) = true then
            (ix x0 y1) >>= fun x8 =>
            (ix x0 (w64 (y1 - 1))) >>= fun x9 =>
            some (decide (x8 ≤ x9))
          else
            some false : Option (Bool)) >>= fun y2 =>
      if y2 = true then
        some (.inl false)
      else
        ref10_Rising_l1 F x0 x1 m (w64 (y1 + 1)))
    else
      some (.inr ())

def ref10_Rising (F : Nat) (x0 : (List Int)) (x1 : Int) : Option Bool :=
  ((ref10_Rising_l1 F x0 x1 F 0) >>= fun o => match o with
    | .inl r => some r
    | .inr () =>
      some true)

-- 66 mandrel/mandrelref10.many
def ref10_many_l1 (F : Nat) (x0 : (List ((List Int) × Int))) : Nat → Int → Option (Sum Bool (Unit))
  | 0, _ => none
  | m + 1, y1 =>
    if (decide (y1 < (x0.length : Int))) = true then
      (ix x0 y1) >>= fun x2 =>
      if (decide (6 < (x2.1.length : Int))) = true then
        some (.inl true)
      else
        ref10_many_l1 F x0 m (w64 (y1 + 1))
    else
      some (.inr ())

def ref10_many (F : Nat) (x0 : (List ((List Int) × Int))) : Option Bool :=
  ((ref10_many_l1 F x0 F 0) >>= fun o => match o with
    | .inl r => some r
    | .inr () =>
      some false)

-- 67 mandrel/mandrelref10.odd
def ref10_odd_l1 (F : Nat) (x0 : (List ((List Int) × Int))) (x1 : Int) : Nat → Int → Option (Sum Bool (Unit))
  | 0, _ => none
  | m + 1, y1 =>
    if (decide (y1 < (x0.length : Int))) = true then
      (((ix x0 y1) >>= fun x5 =>
      (ref10_Rising F x5.1 x1) >>= fun x6 =>
      if (!x6) = true then
        if true = true then
          some true
        else
          (ix x0 y1) >>= fun x7 =>
          some (decide (x1 ≤ x7.2))
      else
        (ix x0 y1) >>= fun x8 =>
        if (decide (x8.2 < 0)) = true then
          some true
        else
          (ix x0 y1) >>= fun x9 =>
          some (decide (x1 ≤ x9.2)) : Option (Bool)) >>= fun y2 =>
      if y2 = true then
        some (.inl true)
      else
        ref10_odd_l1 F x0 x1 m (w64 (y1 + 1)))
    else
      some (.inr ())

def ref10_odd (F : Nat) (x0 : (List ((List Int) × Int))) (x1 : Int) : Option Bool :=
  ((ref10_odd_l1 F x0 x1 F 0) >>= fun o => match o with
    | .inl r => some r
    | .inr () =>
      some false)

-- 29 mandrel/mandrelref10.CheckBook
def ref10_CheckBook_l1 (F : Nat) (x0 : (Int × (List Int) × (List ((List Int) × Int)) × (List ((List Int) × Int)) × (List (List Int)))) : Nat → Int → Option (Sum Int (Unit))
  | 0, _ => none
  | m + 1, y1 =>
    if (decide (y1 < (x0.2.2.2.2.length : Int))) = true then
      (((ix x0.2.2.2.2 y1) >>= fun x5 =>
      if (decide ((x5.length : Int) < 1)) = true then
        some true
      else
        (ix x0.2.2.2.2 y1) >>= fun x6 =>
        some (decide (6 < (x6.length : Int))) : Option (Bool)) >>= fun y2 =>
      if y2 = true then
        some (.inl 6)
      else
        ref10_CheckBook_l1 F x0 m (w64 (y1 + 1)))
    else
      some (.inr ())

def ref10_CheckBook_l2 (F : Nat) (x0 : (Int × (List Int) × (List ((List Int) × Int)) × (List ((List Int) × Int)) × (List (List Int)))) : Nat → Int → Option (Sum Int (Unit))
  | 0, _ => none
  | m + 1, y3 =>
    if (decide (y3 < (x0.2.2.2.2.length : Int))) = true then
      (ix x0.2.2.2.2 y3) >>= fun x10 =>
      (ref10_Rising F x10 x0.1) >>= fun x11 =>
      if (!x11) = true then
        some (.inl 2)
      else
        ref10_CheckBook_l2 F x0 m (w64 (y3 + 1))
    else
      some (.inr ())

def ref10_CheckBook (F : Nat) (x0 : (Int × (List Int) × (List ((List Int) × Int)) × (List ((List Int) × Int)) × (List (List Int)))) : Option Int :=
  (gd (!(((((decide (x0.1 < 1)) || (decide (30 < x0.1))) || (decide (40 < (x0.2.2.1.length : Int)))) || (decide (12 < (x0.2.2.2.1.length : Int)))) || (decide (10 < (x0.2.2.2.2.length : Int))))) (ref10_many F x0.2.2.1) false) >>= fun x2 =>
  (gd (!((((((decide (x0.1 < 1)) || (decide (30 < x0.1))) || (decide (40 < (x0.2.2.1.length : Int)))) || (decide (12 < (x0.2.2.2.1.length : Int)))) || (decide (10 < (x0.2.2.2.2.length : Int)))) || x2)) (ref10_many F x0.2.2.2.1) false) >>= fun x3 =>
  if (((((((decide (x0.1 < 1)) || (decide (30 < x0.1))) || (decide (40 < (x0.2.2.1.length : Int)))) || (decide (12 < (x0.2.2.2.1.length : Int)))) || (decide (10 < (x0.2.2.2.2.length : Int)))) || x2) || x3) = true then
    some 6
  else
    ((ref10_CheckBook_l1 F x0 F 0) >>= fun o => match o with
      | .inl r => some r
      | .inr () =>
        (ref10_Rising F x0.2.1 x0.1) >>= fun x7 =>
        (gd (!(!x7)) (ref10_odd F x0.2.2.1 x0.1) false) >>= fun x8 =>
        (gd (!((!x7) || x8)) (ref10_odd F x0.2.2.2.1 x0.1) false) >>= fun x9 =>
        if (((!x7) || x8) || x9) = true then
          some 2
        else
          ((ref10_CheckBook_l2 F x0 F 0) >>= fun o => match o with
            | .inl r => some r
            | .inr () =>
              (ref10_Taboo F (x0.1, x0.2.1, x0.2.2.1, x0.2.2.2.1, x0.2.2.2.2) ([])) >>= fun x12 =>
              if (decide (0 ≤ x12)) = true then
                some 21
              else
                some 0))

-- 49 mandrel/mandrelref10.IsGranted
def ref10_IsGranted (F : Nat) (x0 : (Int × (List Int) × (List ((List Int) × Int)) × (List ((List Int) × Int)) × (List (List Int)))) (x1 : (List Int)) : Option Int :=
  (ref10_CheckBook F (x0.1, x0.2.1, x0.2.2.1, x0.2.2.2.1, x0.2.2.2.2)) >>= fun x3 =>
  if (!decide (x3 = 0)) = true then
    (ref10_CheckBook F (x0.1, x0.2.1, x0.2.2.1, x0.2.2.2.1, x0.2.2.2.2)) >>= fun x4 =>
    some x4
  else
    (ref10_Rising F x1 (x0.2.2.2.1.length : Int)) >>= fun x5 =>
    if (!x5) = true then
      some 3
    else
      some 0

-- 37 mandrel/mandrelref10.Check
def ref10_Check (F : Nat) (x0 : (Int × (List Int) × (List ((List Int) × Int)) × (List ((List Int) × Int)) × (List (List Int)))) (x1 : (List Int)) : Option Int :=
  (ref10_IsGranted F (x0.1, x0.2.1, x0.2.2.1, x0.2.2.2.1, x0.2.2.2.2) x1) >>= fun x3 =>
  if (!decide (x3 = 0)) = true then
    (ref10_IsGranted F (x0.1, x0.2.1, x0.2.2.1, x0.2.2.2.1, x0.2.2.2.2) x1) >>= fun x4 =>
    some x4
  else
    (ref10_Taboo F (x0.1, x0.2.1, x0.2.2.1, x0.2.2.2.1, x0.2.2.2.2) x1) >>= fun x5 =>
    if (decide (0 ≤ x5)) = true then
      some 23
    else
      some 0

-- 19 mandrel/mandrelref10.BrokenError
def ref10_BrokenError (F : Nat) (x0 : (Int × (List Int) × (List ((List Int) × Int)) × (List ((List Int) × Int)) × (List (List Int)))) (x1 : (List Int)) : Option Int :=
  (ref10_Check F (x0.1, x0.2.1, x0.2.2.1, x0.2.2.2.1, x0.2.2.2.2) x1) >>= fun x3 =>
  if (decide (x3 = 0)) = true then
    some 5
  else
    if (decide (x3 = 23)) = true then
      some 0
    else
      some x3

-- 23 mandrel/mandrellaw10.ints
def law10_ints_l1 (F : Nat) (x0 : (List Int)) (x1 : (List Int)) : Nat → Int → Option (Sum Bool (Unit))
  | 0, _ => none
  | m + 1, y1 =>
    if (decide (y1 < (x0.length : Int))) = true then
      (ix x0 y1) >>= fun x3 =>
      (ix x1 y1) >>= fun x4 =>
      if (!decide (x3 = x4)) = true then
        some (.inl false)
      else
        law10_ints_l1 F x0 x1 m (w64 (y1 + 1))
    else
      some (.inr ())

def law10_ints (F : Nat) (x0 : (List Int)) (x1 : (List Int)) : Option Bool :=
  if (!decide ((x0.length : Int) = (x1.length : Int))) = true then
    some false
  else
    ((law10_ints_l1 F x0 x1 F 0) >>= fun o => match o with
      | .inl r => some r
      | .inr () =>
        some true)

-- 56 mandrel/mandrelref10.List
def ref10_List_l1 (F : Nat) (x0 : Int) : Nat → (List Int) → Int → Option ((List Int))
  | 0, _, _ => none
  | m + 1, y1, y2 =>
    (shr .i64 x0 y2) >>= fun x2 =>
    if (decide (0 < x2)) = true then
      (((shr .i64 x0 y2) >>= fun x3 =>
      ((if (decide ((Int.tmod x3 2) = 1)) = true then
        (app 8 y1 ([y2] : List Int)) >>= fun x4 =>
        some x4
      else
        some y1 : Option ((List Int))) >>= fun y4 =>
      some y4) : Option ((List Int))) >>= fun y3 =>
      ref10_List_l1 F x0 m y3 (w64 (y2 + 1)))
    else
      some y1

def ref10_List (F : Nat) (x0 : Int) : Option (List Int) :=
  ((ref10_List_l1 F x0 F ([]) 0) >>= fun z1 =>
  some z1)

-- 57 mandrel/mandrelref10.comes
def ref10_comes_l1 (F : Nat) (x0 : (List Int)) (x1 : (List Int)) : Nat → Int → Option (Sum Bool (Unit))
  | 0, _ => none
  | m + 1, y1 =>
    if (decide (y1 < (x0.length : Int))) = true then
      (ix x0 y1) >>= fun x3 =>
      (ix x1 y1) >>= fun x4 =>
      if (!decide (x3 = x4)) = true then
        (ix x0 y1) >>= fun x5 =>
        (ix x1 y1) >>= fun x6 =>
        some (.inl (decide (x5 < x6)))
      else
        ref10_comes_l1 F x0 x1 m (w64 (y1 + 1))
    else
      some (.inr ())

def ref10_comes (F : Nat) (x0 : (List Int)) (x1 : (List Int)) : Option Bool :=
  ((ref10_comes_l1 F x0 x1 F 0) >>= fun o => match o with
    | .inl r => some r
    | .inr () =>
      some false)

-- 25 mandrel/mandrelref10.Fewest
def ref10_Fewest_l1 (F : Nat) (x0 : (Int × (List Int) × (List ((List Int) × Int)) × (List ((List Int) × Int)) × (List (List Int)))) : Nat → (List Int) → Int → Option ((List Int))
  | 0, _, _ => none
  | m + 1, y1, y2 =>
    (shl .i64 1 (x0.2.2.2.1.length : Int)) >>= fun x4 =>
    if (decide (y2 < x4)) = true then
      (((ref10_List F y2) >>= fun x5 =>
      (ref10_Taboo F (x0.1, x0.2.1, x0.2.2.1, x0.2.2.2.1, x0.2.2.2.2) x5) >>= fun x6 =>
      (gd (((decide (x6 < 0)) && !(decide ((y1.length : Int) < (x5.length : Int)))) && (decide ((x5.length : Int) = (y1.length : Int)))) (ref10_comes F x5 y1) false) >>= fun x7 =>
      ((if ((decide (x6 < 0)) && ((decide ((y1.length : Int) < (x5.length : Int))) || ((decide ((x5.length : Int) = (y1.length : Int))) && x7))) = true then
        some x5
      else
        some y1 : Option ((List Int))) >>= fun y4 =>
      some y4) : Option ((List Int))) >>= fun y3 =>
      ref10_Fewest_l1 F x0 m y3 (w64 (y2 + 1)))
    else
      some y1

def ref10_Fewest (F : Nat) (x0 : (Int × (List Int) × (List ((List Int) × Int)) × (List ((List Int) × Int)) × (List (List Int)))) : Option ((List Int) × Int) :=
  (ref10_CheckBook F (x0.1, x0.2.1, x0.2.2.1, x0.2.2.2.1, x0.2.2.2.2)) >>= fun x2 =>
  if (!decide (x2 = 0)) = true then
    (ref10_CheckBook F (x0.1, x0.2.1, x0.2.2.1, x0.2.2.2.1, x0.2.2.2.2)) >>= fun x3 =>
    some ([], x3)
  else
    ((ref10_Fewest_l1 F x0 F ([]) 0) >>= fun z1 =>
    some (z1, 0))

-- 65 mandrel/mandrelref10.Need
def ref10_Need_l3 (F : Nat) (x0 : (List (List Int))) (x4 : (List Int)) (y5 : Int) : Nat → Bool → Int → Option (Bool)
  | 0, _, _ => none
  | m + 1, y6, y7 =>
    if (decide (y7 < (x4.length : Int))) = true then
      ((if y6 = true then
        some true
      else
        (ix x0 y5) >>= fun x5 =>
        (ix x4 y7) >>= fun x6 =>
        (ref10_In F x5 x6) >>= fun x7 =>
        some x7 : Option (Bool)) >>= fun y8 =>
      ref10_Need_l3 F x0 x4 y5 m y8 (w64 (y7 + 1)))
    else
      some y6

def ref10_Need_l2 (F : Nat) (x0 : (List (List Int))) (x4 : (List Int)) : Nat → Bool → Int → Option (Bool)
  | 0, _, _ => none
  | m + 1, y4, y5 =>
    if ((decide (y5 < (x0.length : Int))) && y4) = true then
      ((ref10_Need_l3 F x0 x4 y5 F false 0) >>= fun z3 =>
      ref10_Need_l2 F x0 x4 m z3 (w64 (y5 + 1)))
    else
      some y4

def ref10_Need_l1 (F : Nat) (x0 : (List (List Int))) (x1 : Int) : Nat → Int → Int → Option (Int)
  | 0, _, _ => none
  | m + 1, y1, y2 =>
    (shl .i64 1 x1) >>= fun x3 =>
    if (decide (y2 < x3)) = true then
      (((ref10_List F y2) >>= fun x4 =>
      ((ref10_Need_l2 F x0 x4 F (decide ((x4.length : Int) ≤ y1)) 0) >>= fun z2 =>
      ((if z2 = true then
        some (x4.length : Int)
      else
        some y1 : Option (Int)) >>= fun y9 =>
      some y9)) : Option (Int)) >>= fun y3 =>
      ref10_Need_l1 F x0 x1 m y3 (w64 (y2 + 1)))
    else
      some y1

def ref10_Need (F : Nat) (x0 : (List (List Int))) (x1 : Int) : Option Int :=
  ((ref10_Need_l1 F x0 x1 F x1 0) >>= fun z1 =>
  some z1)

-- 27 mandrel/mandrelref10.CheckConflicts
def ref10_CheckConflicts_l1 (F : Nat) (x0 : (Int × (List Int) × (List ((List Int) × Int)) × (List ((List Int) × Int)) × (List (List Int)))) (x1 : (List (List Int))) : Nat → Int → Option (Sum (Int × Int) (Unit))
  | 0, _ => none
  | m + 1, y1 =>
    if (decide (y1 < (x1.length : Int))) = true then
      (ix x1 y1) >>= fun x5 =>
      (ref10_Rising F x5 (x0.2.2.2.1.length : Int)) >>= fun x6 =>
      if (!x6) = true then
        some (.inl (0, 3))
      else
        ref10_CheckConflicts_l1 F x0 x1 m (w64 (y1 + 1))
    else
      some (.inr ())

def ref10_CheckConflicts_l2 (F : Nat) (x0 : (Int × (List Int) × (List ((List Int) × Int)) × (List ((List Int) × Int)) × (List (List Int)))) (x1 : (List (List Int))) : Nat → Int → Option (Sum (Int × Int) (Unit))
  | 0, _ => none
  | m + 1, y2 =>
    if (decide (y2 < (x1.length : Int))) = true then
      (ix x1 y2) >>= fun x7 =>
      (ref10_Taboo F (x0.1, x0.2.1, x0.2.2.1, x0.2.2.2.1, x0.2.2.2.2) x7) >>= fun x8 =>
      if (decide (x8 < 0)) = true then
        some (.inl (0, 14))
      else
        ref10_CheckConflicts_l2 F x0 x1 m (w64 (y2 + 1))
    else
      some (.inr ())

def ref10_CheckConflicts (F : Nat) (x0 : (Int × (List Int) × (List ((List Int) × Int)) × (List ((List Int) × Int)) × (List (List Int)))) (x1 : (List (List Int))) : Option (Int × Int) :=
  (ref10_CheckBook F (x0.1, x0.2.1, x0.2.2.1, x0.2.2.2.1, x0.2.2.2.2)) >>= fun x3 =>
  if (!decide (x3 = 0)) = true then
    (ref10_CheckBook F (x0.1, x0.2.1, x0.2.2.1, x0.2.2.2.1, x0.2.2.2.2)) >>= fun x4 =>
    some (0, x4)
  else
    if (decide (4096 < (x1.length : Int))) = true then
      some (0, 6)
    else
      ((ref10_CheckConflicts_l1 F x0 x1 F 0) >>= fun o => match o with
        | .inl r => some r
        | .inr () =>
          ((ref10_CheckConflicts_l2 F x0 x1 F 0) >>= fun o => match o with
            | .inl r => some r
            | .inr () =>
              (ref10_Need F x1 (x0.2.2.2.1.length : Int)) >>= fun x9 =>
              some (x9, 0)))

-- 30 mandrel/mandrellaw10.fine
def law10_fine (F : Nat) (x0 : (Int × (List Int) × (List ((List Int) × Int)) × (List ((List Int) × Int)) × (List (List Int)))) : Option Bool :=
  (law10_great F (x0.1, x0.2.1, x0.2.2.1, x0.2.2.2.1, x0.2.2.2.2)) >>= fun x2 =>
  (gd (!x2) (ref10_CheckBook F (x0.1, x0.2.1, x0.2.2.1, x0.2.2.2.1, x0.2.2.2.2)) 0) >>= fun x3 =>
  some ((!x2) && (decide (x3 = 0)))

-- 31 mandrel/mandrellaw10.Granted
def law10_Granted_l1 (F : Nat) (x0 : (Int × (List Int) × (List ((List Int) × Int)) × (List ((List Int) × Int)) × (List (List Int)))) (x1 : Int) : Nat → (List Int) → Int → Option ((List Int))
  | 0, _, _ => none
  | m + 1, y1, y2 =>
    if (decide (y2 < (x0.2.2.2.1.length : Int))) = true then
      (((shr .u16 x1 y2) >>= fun x3 =>
      ((if (decide ((band .u16 x3 1) = 1)) = true then
        (app 8 y1 ([y2] : List Int)) >>= fun x4 =>
        some x4
      else
        some y1 : Option ((List Int))) >>= fun y4 =>
      some y4) : Option ((List Int))) >>= fun y3 =>
      law10_Granted_l1 F x0 x1 m y3 (w64 (y2 + 1)))
    else
      some y1

def law10_Granted (F : Nat) (x0 : (Int × (List Int) × (List ((List Int) × Int)) × (List ((List Int) × Int)) × (List (List Int)))) (x1 : Int) : Option (List Int) :=
  ((law10_Granted_l1 F x0 x1 F ([]) 0) >>= fun z1 =>
  some z1)

-- 34 mandrel/mandrellaw10.there
def law10_there_l1 (F : Nat) (x0 : (List Int)) (x1 : (List Int)) : Nat → Int → Option (Sum Bool (Unit))
  | 0, _ => none
  | m + 1, y1 =>
    if (decide (y1 < (x1.length : Int))) = true then
      (ix x1 y1) >>= fun x3 =>
      (ref10_In F x0 x3) >>= fun x4 =>
      if (!x4) = true then
        some (.inl false)
      else
        law10_there_l1 F x0 x1 m (w64 (y1 + 1))
    else
      some (.inr ())

def law10_there (F : Nat) (x0 : (List Int)) (x1 : (List Int)) : Option Bool :=
  ((law10_there_l1 F x0 x1 F 0) >>= fun o => match o with
    | .inl r => some r
    | .inr () =>
      some true)

-- 38 mandrel/mandrellaw10.Rule
def law10_Rule (x0 : Int) (x1 : (List Int)) : Option ((List Int) × Int) :=
  some (x1, x0)

-- 40 mandrel/mandrelref10.Holds
def ref10_Holds_l1 (F : Nat) (x0 : (Int × (List Int) × (List ((List Int) × Int)) × (List ((List Int) × Int)) × (List (List Int)))) (x5 : (List Int)) : Nat → (List Int) → Int → Option ((List Int))
  | 0, _, _ => none
  | m + 1, y1, y2 =>
    if (decide (y2 < x0.1)) = true then
      (((ref10_In F x5 y2) >>= fun x6 =>
      ((if x6 = true then
        (app 8 y1 ([y2] : List Int)) >>= fun x7 =>
        some x7
      else
        some y1 : Option ((List Int))) >>= fun y4 =>
      some y4) : Option ((List Int))) >>= fun y3 =>
      ref10_Holds_l1 F x0 x5 m y3 (w64 (y2 + 1)))
    else
      some y1

def ref10_Holds (F : Nat) (x0 : (Int × (List Int) × (List ((List Int) × Int)) × (List ((List Int) × Int)) × (List (List Int)))) (x1 : (List Int)) : Option ((List Int) × Int) :=
  (ref10_IsGranted F (x0.1, x0.2.1, x0.2.2.1, x0.2.2.2.1, x0.2.2.2.2) x1) >>= fun x3 =>
  if (!decide (x3 = 0)) = true then
    (ref10_IsGranted F (x0.1, x0.2.1, x0.2.2.1, x0.2.2.2.1, x0.2.2.2.2) x1) >>= fun x4 =>
    some ([], x4)
  else
    (ref10_Closed F (x0.1, x0.2.1, x0.2.2.1, x0.2.2.2.1, x0.2.2.2.2) x1) >>= fun x5 =>
    ((ref10_Holds_l1 F x0 x5 F ([]) 0) >>= fun z1 =>
    some (z1, 0))

-- 46 mandrel/right.first[mandrel/right.way]
def right_first__right_way_l1 (F : Nat) (x0 : (List ((Bool × Int) × Int × Int))) (x1 : (((Bool × Int) × Int × Int) → Option Bool)) : Nat → Int → Option (Sum Int (Unit))
  | 0, _ => none
  | m + 1, y1 =>
    if (decide (y1 < (x0.length : Int))) = true then
      (ix x0 y1) >>= fun x3 =>
      (x1 ((x3.1.1, x3.1.2), x3.2.1, x3.2.2)) >>= fun x4 =>
      if x4 = true then
        some (.inl y1)
      else
        right_first__right_way_l1 F x0 x1 m (w64 (y1 + 1))
    else
      some (.inr ())

def right_first__right_way (F : Nat) (x0 : (List ((Bool × Int) × Int × Int))) (x1 : (((Bool × Int) × Int × Int) → Option Bool)) : Option Int :=
  ((right_first__right_way_l1 F x0 x1 F 0) >>= fun o => match o with
    | .inl r => some r
    | .inr () =>
      some (-1))

-- 47 mandrel/right.CheckChain$1
def right_CheckChain_1 (x0 : ((Bool × Int) × Int × Int)) (x1 : (Bool × Int)) : Option Bool :=
  some (decide ((x0.1.1, x0.1.2) = (x1.1, x1.2)))

-- 48 (mandrel/right.way).may
def right_way_may (x0 : ((Bool × Int) × Int × Int)) (x1 : Int) (x2 : Int) : Option Bool :=
  (gd (!(!x0.1.1)) (shr .i64 x1 x0.1.2) 0) >>= fun x4 =>
  some (((!x0.1.1) || (decide ((band .i64 x4 1) = 1))) && (decide ((bandn .i64 x0.2.1 x2) = 0)))

-- 55 mandrel/right.numbers
def right_numbers_l1 (F : Nat) (x0 : Int) : Nat → (List Int) → Int → Option ((List Int))
  | 0, _, _ => none
  | m + 1, y1, y2 =>
    (shr .i64 x0 y2) >>= fun x2 =>
    if (decide (0 < x2)) = true then
      (((shr .i64 x0 y2) >>= fun x3 =>
      ((if (decide ((band .i64 x3 1) = 1)) = true then
        (app 8 y1 ([y2] : List Int)) >>= fun x4 =>
        some x4
      else
        some y1 : Option ((List Int))) >>= fun y4 =>
      some y4) : Option ((List Int))) >>= fun y3 =>
      right_numbers_l1 F x0 m y3 (w64 (y2 + 1)))
    else
      some y1

def right_numbers (F : Nat) (x0 : Int) : Option (List Int) :=
  ((right_numbers_l1 F x0 F ([]) 0) >>= fun z1 =>
  some z1)

-- 75 slices.IndexFunc[[][]int,[]int]
def slices_IndexFunc__int_l1 (F : Nat) (x0 : (List (List Int))) (x1 : ((List Int) → Option Bool)) : Nat → Int → Option (Sum Int (Unit))
  | 0, _ => none
  | m + 1, y1 =>
    if (decide (y1 < (x0.length : Int))) = true then
      (ix x0 y1) >>= fun x3 =>
      (x1 x3) >>= fun x4 =>
      if x4 = true then
        some (.inl y1)
      else
        slices_IndexFunc__int_l1 F x0 x1 m (w64 (y1 + 1))
    else
      some (.inr ())

def slices_IndexFunc__int (F : Nat) (x0 : (List (List Int))) (x1 : ((List Int) → Option Bool)) : Option Int :=
  ((slices_IndexFunc__int_l1 F x0 x1 F 0) >>= fun o => match o with
    | .inl r => some r
    | .inr () =>
      some (-1))

-- 58 slices.ContainsFunc[[][]int,[]int]
def slices_ContainsFunc__int (F : Nat) (x0 : (List (List Int))) (x1 : ((List Int) → Option Bool)) : Option Bool :=
  (slices_IndexFunc__int F x0 x1) >>= fun x3 =>
  some (decide (0 ≤ x3))

-- 60 mandrel/right.rising
def right_rising_l1 (F : Nat) (x0 : (List Int)) (x1 : Int) : Nat → Int → Int → Option (Sum Bool (Unit))
  | 0, _, _ => none
  | m + 1, y1, y2 =>
    if (decide (y2 < (x0.length : Int))) = true then
      (ix x0 y2) >>= fun x3 =>
      if ((decide (x3 ≤ y1)) || (decide (x1 ≤ x3))) = true then
        some (.inl false)
      else
        right_rising_l1 F x0 x1 m x3 (w64 (y2 + 1))
    else
      some (.inr ())

def right_rising (F : Nat) (x0 : (List Int)) (x1 : Int) : Option Bool :=
  ((right_rising_l1 F x0 x1 F (-1) 0) >>= fun o => match o with
    | .inl r => some r
    | .inr () =>
      some true)

-- 59 mandrel/right.CheckConflicts$1
def right_CheckConflicts_1 (F : Nat) (x0 : (List Int)) (x1 : (Int × (List Int) × (List ((List Int) × Int)) × (List ((List Int) × Int)) × (List (List Int)))) : Option Bool :=
  (right_rising F x0 (x1.2.2.2.1.length : Int)) >>= fun x3 =>
  some (!x3)

-- 62 mandrel/right.together
def right_together_l1 (F : Nat) (x0 : (List Int)) : Nat → Int → Int → Option (Int)
  | 0, _, _ => none
  | m + 1, y1, y2 =>
    if (decide (y2 < (x0.length : Int))) = true then
      (ix x0 y2) >>= fun x2 =>
      (shl .i64 1 x2) >>= fun x3 =>
      right_together_l1 F x0 m (bor .i64 y1 x3) (w64 (y2 + 1))
    else
      some y1

def right_together (F : Nat) (x0 : (List Int)) : Option Int :=
  ((right_together_l1 F x0 F 0 0) >>= fun z1 =>
  some z1)

-- 69 mandrel/right.first[int]
def right_first__int_l1 (F : Nat) (x0 : (List Int)) (x1 : (Int → Option Bool)) : Nat → Int → Option (Sum Int (Unit))
  | 0, _ => none
  | m + 1, y1 =>
    if (decide (y1 < (x0.length : Int))) = true then
      (ix x0 y1) >>= fun x3 =>
      (x1 x3) >>= fun x4 =>
      if x4 = true then
        some (.inl y1)
      else
        right_first__int_l1 F x0 x1 m (w64 (y1 + 1))
    else
      some (.inr ())

def right_first__int (F : Nat) (x0 : (List Int)) (x1 : (Int → Option Bool)) : Option Int :=
  ((right_first__int_l1 F x0 x1 F 0) >>= fun o => match o with
    | .inl r => some r
    | .inr () =>
      some (-1))

-- 70 (*mandrel/right.treaty).broken$1
def right_treaty_broken_1 (x0 : Int) (x1 : Int) : Option Bool :=
  some (decide ((bandn .i64 x0 x1) = 0))

-- 79 mandrel/right.valid$1
def right_valid_1 (x0 : ((List Int) × Int)) : Option Bool :=
  some (decide (6 < (x0.1.length : Int)))

-- 82 mandrel/right.valid$3
def right_valid_3 (x0 : (List Int)) : Option Bool :=
  some ((decide ((x0.length : Int) = 0)) || (decide (6 < (x0.length : Int))))

-- 80 mandrel/right.valid$2
def right_valid_2 (F : Nat) (x0 : ((List Int) × Int)) (x1 : (Int × (List Int) × (List ((List Int) × Int)) × (List ((List Int) × Int)) × (List (List Int)))) : Option Bool :=
  (right_rising F x0.1 x1.1) >>= fun x3 =>
  some (((!x3) || (decide (x0.2 < 0))) || (decide (x1.1 ≤ x0.2)))

-- 85 slices.IndexFunc[[]mandrel/api.RightRule,mandrel/api.RightRule]
def slices_IndexFunc_api_RightRule_l1 (F : Nat) (x0 : (List ((List Int) × Int))) (x1 : (((List Int) × Int) → Option Bool)) : Nat → Int → Option (Sum Int (Unit))
  | 0, _ => none
  | m + 1, y1 =>
    if (decide (y1 < (x0.length : Int))) = true then
      (ix x0 y1) >>= fun x3 =>
      (x1 (x3.1, x3.2)) >>= fun x4 =>
      if x4 = true then
        some (.inl y1)
      else
        slices_IndexFunc_api_RightRule_l1 F x0 x1 m (w64 (y1 + 1))
    else
      some (.inr ())

def slices_IndexFunc_api_RightRule (F : Nat) (x0 : (List ((List Int) × Int))) (x1 : (((List Int) × Int) → Option Bool)) : Option Int :=
  ((slices_IndexFunc_api_RightRule_l1 F x0 x1 F 0) >>= fun o => match o with
    | .inl r => some r
    | .inr () =>
      some (-1))

-- 81 slices.ContainsFunc[[]mandrel/api.RightRule,mandrel/api.RightRule]
def slices_ContainsFunc_api_RightRule (F : Nat) (x0 : (List ((List Int) × Int))) (x1 : (((List Int) × Int) → Option Bool)) : Option Bool :=
  (slices_IndexFunc_api_RightRule F x0 x1) >>= fun x3 =>
  some (decide (0 ≤ x3))

-- 83 mandrel/right.valid$4
def right_valid_4 (F : Nat) (x0 : (List Int)) (x1 : (Int × (List Int) × (List ((List Int) × Int)) × (List ((List Int) × Int)) × (List (List Int)))) : Option Bool :=
  (right_rising F x0 x1.1) >>= fun x3 =>
  some (!x3)

-- 72 mandrel/right.valid
def right_valid (F : Nat) (x0 : (Int × (List Int) × (List ((List Int) × Int)) × (List ((List Int) × Int)) × (List (List Int)))) : Option Int :=
  if (((((decide (x0.1 < 1)) || (decide (30 < x0.1))) || (decide (40 < (x0.2.2.1.length : Int)))) || (decide (12 < (x0.2.2.2.1.length : Int)))) || (decide (10 < (x0.2.2.2.2.length : Int)))) = true then
    some 6
  else
    (slices_ContainsFunc_api_RightRule F x0.2.2.1 (fun y => right_valid_1 y)) >>= fun x2 =>
    (gd (!x2) (slices_ContainsFunc_api_RightRule F x0.2.2.2.1 (fun y => right_valid_1 y)) false) >>= fun x3 =>
    if (x2 || x3) = true then
      some 6
    else
      (slices_ContainsFunc__int F x0.2.2.2.2 (fun y => right_valid_3 y)) >>= fun x4 =>
      if x4 = true then
        some 6
      else
        (right_rising F x0.2.1 x0.1) >>= fun x5 =>
        (gd (!(!x5)) (slices_ContainsFunc_api_RightRule F x0.2.2.1 (fun y => right_valid_2 F y (x0.1, x0.2.1, x0.2.2.1, x0.2.2.2.1, x0.2.2.2.2))) false) >>= fun x6 =>
        (gd (!((!x5) || x6)) (slices_ContainsFunc_api_RightRule F x0.2.2.2.1 (fun y => right_valid_2 F y (x0.1, x0.2.1, x0.2.2.1, x0.2.2.2.1, x0.2.2.2.2))) false) >>= fun x7 =>
        if (((!x5) || x6) || x7) = true then
          some 2
        else
          (slices_ContainsFunc__int F x0.2.2.2.2 (fun y => right_valid_4 F y (x0.1, x0.2.1, x0.2.2.1, x0.2.2.2.1, x0.2.2.2.2))) >>= fun x8 =>
          if x8 = true then
            some 2
          else
            some 0

-- 84 slices.IndexFunc[[]int,int]
def slices_IndexFunc_int_l1 (F : Nat) (x0 : (List Int)) (x1 : (Int → Option Bool)) : Nat → Int → Option (Sum Int (Unit))
  | 0, _ => none
  | m + 1, y1 =>
    if (decide (y1 < (x0.length : Int))) = true then
      (ix x0 y1) >>= fun x3 =>
      (x1 x3) >>= fun x4 =>
      if x4 = true then
        some (.inl y1)
      else
        slices_IndexFunc_int_l1 F x0 x1 m (w64 (y1 + 1))
    else
      some (.inr ())

def slices_IndexFunc_int (F : Nat) (x0 : (List Int)) (x1 : (Int → Option Bool)) : Option Int :=
  ((slices_IndexFunc_int_l1 F x0 x1 F 0) >>= fun o => match o with
    | .inl r => some r
    | .inr () =>
      some (-1))

-- 76 slices.ContainsFunc[[]int,int]
def slices_ContainsFunc_int (F : Nat) (x0 : (List Int)) (x1 : (Int → Option Bool)) : Option Bool :=
  (slices_IndexFunc_int F x0 x1) >>= fun x3 =>
  some (decide (0 ≤ x3))

-- 77 mandrel/right.refused$1
def right_refused_1 (x0 : Int) (x1 : Int) : Option Bool :=
  some (decide ((band .i64 x0 x1) = 0))

-- 18 mandrel/mandrelref10.CheckChain
def ref10_CheckChain_l1 (F : Nat) (x0 : (Int × (List Int) × (List ((List Int) × Int)) × (List ((List Int) × Int)) × (List (List Int)))) (x1 : (List Int)) (x3 : (List (Bool × Int))) : Nat → (List Int) → Int → Option (Sum Int ((List Int)))
  | 0, _, _ => none
  | m + 1, y1, y2 =>
    if (decide (y2 < (x3.length : Int))) = true then
      (ix x3 y2) >>= fun x8 =>
      (ix x3 y2) >>= fun x9 =>
      (gd x9.1 (ref10_In F x1 x8.2) false) >>= fun x10 =>
      ((if (x9.1 && x10) = true then
        (ix x0.2.2.2.1 x8.2) >>= fun x11 =>
        some (.inr (x11.1, x11.2))
      else
        (ix x3 y2) >>= fun x12 =>
        if (((!x12.1) && (decide (0 ≤ x8.2))) && (decide (x8.2 < (x0.2.2.1.length : Int)))) = true then
          (ix x0.2.2.1 x8.2) >>= fun x13 =>
          some (.inr (x13.1, x13.2))
        else
          some (.inl 16) : Option (Sum Int (((List Int) × Int)))) >>= fun o => match o with
        | .inl r => some (.inl r)
        | .inr y3 =>
          (ref10_all F y1 y3.1) >>= fun x14 =>
          if (!x14) = true then
            some (.inl 16)
          else
            (app 8 y1 ([y3.2] : List Int)) >>= fun x15 =>
            ref10_CheckChain_l1 F x0 x1 x3 m x15 (w64 (y2 + 1)))
    else
      some (.inr y1)

def ref10_CheckChain (F : Nat) (x0 : (Int × (List Int) × (List ((List Int) × Int)) × (List ((List Int) × Int)) × (List (List Int)))) (x1 : (List Int)) (x2 : Int) (x3 : (List (Bool × Int))) : Option Int :=
  (ref10_IsGranted F (x0.1, x0.2.1, x0.2.2.1, x0.2.2.2.1, x0.2.2.2.2) x1) >>= fun x5 =>
  if (!decide (x5 = 0)) = true then
    (ref10_IsGranted F (x0.1, x0.2.1, x0.2.2.1, x0.2.2.2.1, x0.2.2.2.2) x1) >>= fun x6 =>
    some x6
  else
    if ((decide (x2 < 0)) || (decide ((x0.2.2.2.2.length : Int) ≤ x2))) = true then
      some 2
    else
      if (decide (4096 < (x3.length : Int))) = true then
        some 6
      else
        (app 8 ([] : List Int) x0.2.1) >>= fun x7 =>
        ((ref10_CheckChain_l1 F x0 x1 x3 F x7 0) >>= fun o => match o with
          | .inl r => some r
          | .inr z1 =>
            (ix x0.2.2.2.2 x2) >>= fun x16 =>
            (ref10_all F z1 x16) >>= fun x17 =>
            if (!x17) = true then
              some 14
            else
              some 0)

-- 22 mandrel/mandrelref10.Decide
def ref10_Decide_l1 (F : Nat) (x0 : (Int × (List Int) × (List ((List Int) × Int)) × (List ((List Int) × Int)) × (List (List Int)))) : Nat → (List Int) → (List Int) → Int → Option ((List Int))
  | 0, _, _, _ => none
  | m + 1, y1, y2, y3 =>
    if (decide (y3 < (x0.2.2.2.1.length : Int))) = true then
      (app 8 ([] : List Int) y1) >>= fun x4 =>
      (app 8 x4 ([y3] : List Int)) >>= fun x5 =>
      (ref10_Taboo F (x0.1, x0.2.1, x0.2.2.1, x0.2.2.2.1, x0.2.2.2.2) x5) >>= fun x6 =>
      ((if (decide (x6 < 0)) = true then
        some (x5, y2)
      else
        some (y1, y2) : Option ((List Int) × (List Int))) >>= fun (y4, y5) =>
      (app 8 y5 ([x6] : List Int)) >>= fun x7 =>
      ref10_Decide_l1 F x0 m y4 x7 (w64 (y3 + 1)))
    else
      some y2

def ref10_Decide (F : Nat) (x0 : (Int × (List Int) × (List ((List Int) × Int)) × (List ((List Int) × Int)) × (List (List Int)))) : Option ((List Int) × Int) :=
  (ref10_CheckBook F (x0.1, x0.2.1, x0.2.2.1, x0.2.2.2.1, x0.2.2.2.2)) >>= fun x2 =>
  if (!decide (x2 = 0)) = true then
    (ref10_CheckBook F (x0.1, x0.2.1, x0.2.2.1, x0.2.2.2.1, x0.2.2.2.2)) >>= fun x3 =>
    some ([], x3)
  else
    ((ref10_Decide_l1 F x0 F ([]) ([]) 0) >>= fun z1 =>
    some (z1, 0))
end Go.Proofs.Ytdimoehnkagghaa
