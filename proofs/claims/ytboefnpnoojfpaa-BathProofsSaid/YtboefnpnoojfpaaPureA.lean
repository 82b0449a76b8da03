/-
  Pure functions, one for each function of the program, as a program of our own printed them. No condition: definitions.
-/
import Derived.Test.YtboefnpnoojfpaaCopy
import Derived.Test.YtboefnpnoojfpaaMapw
namespace Go.Proofs.Ytboefnpnoojfpaa
open Go Go.Md Go.RowKit

-- 12 mandrel/mandrellaw11.great
def law11_great_l1 (F : Nat) (x0 : ((List Int) × (List ((List Int) × (List Int))))) : Nat → Int → Option (Sum Bool (Unit))
  | 0, _ => none
  | m + 1, y1 =>
    if (decide (y1 < (x0.2.length : Int))) = true then
      (((ix x0.2 y1) >>= fun x3 =>
      if (decide (10 < (x3.1.length : Int))) = true then
        some true
      else
        (ix x0.2 y1) >>= fun x4 =>
        some (decide (10 < (x4.2.length : Int))) : Option (Bool)) >>= fun y2 =>
      if y2 = true then
        some (.inl true)
      else
        law11_great_l1 F x0 m (w64 (y1 + 1)))
    else
      some (.inr ())

def law11_great (F : Nat) (x0 : ((List Int) × (List ((List Int) × (List Int))))) : Option Bool :=
  if ((decide (10 < (x0.1.length : Int))) || (decide (12 < (x0.2.length : Int)))) = true then
    some true
  else
    ((law11_great_l1 F x0 F 0) >>= fun o => match o with
      | .inl r => some r
      | .inr () =>
        some false)

-- 80 slices.IndexFunc[[]int64,int64]
def slices_IndexFunc_int64_l1 (F : Nat) (x0 : (List Int)) (x1 : (Int → Option Bool)) : Nat → Int → Option (Sum Int (Unit))
  | 0, _ => none
  | m + 1, y1 =>
    if (decide (y1 < (x0.length : Int))) = true then
      (ix x0 y1) >>= fun x3 =>
      (x1 x3) >>= fun x4 =>
      if x4 = true then
        some (.inl y1)
      else
        slices_IndexFunc_int64_l1 F x0 x1 m (w64 (y1 + 1))
    else
      some (.inr ())

def slices_IndexFunc_int64 (F : Nat) (x0 : (List Int)) (x1 : (Int → Option Bool)) : Option Int :=
  ((slices_IndexFunc_int64_l1 F x0 x1 F 0) >>= fun o => match o with
    | .inl r => some r
    | .inr () =>
      some (-1))

-- 71 slices.ContainsFunc[[]int64,int64]
def slices_ContainsFunc_int64 (F : Nat) (x0 : (List Int)) (x1 : (Int → Option Bool)) : Option Bool :=
  (slices_IndexFunc_int64 F x0 x1) >>= fun x3 =>
  some (decide (0 ≤ x3))

-- 72 mandrel/bath.within$1
def bath_within_1 (x0 : Int) (x1 : Int) (x2 : Int) : Option Bool :=
  some ((decide (x0 < x1)) || (decide (x2 < x0)))

-- 51 mandrel/bath.within
def bath_within (F : Nat) (x0 : Int) (x1 : Int) (x2 : (List Int)) : Option Bool :=
  (slices_ContainsFunc_int64 F x2 (fun y => bath_within_1 y x0 x1)) >>= fun x4 =>
  some (!x4)

-- 50 mandrel/bath.CheckBath$1
def bath_CheckBath_1 (F : Nat) (x0 : (List Int)) : Option Bool :=
  (bath_within F 0 5 x0) >>= fun x2 =>
  some (!x2)

-- 52 mandrel/bath.many
def bath_many_l1 (F : Nat) (x0 : (List Int)) : Nat → Int → Int → Option (Int)
  | 0, _, _ => none
  | m + 1, y1, y2 =>
    if (decide (y2 < (x0.length : Int))) = true then
      (ix x0 y2) >>= fun x2 =>
      bath_many_l1 F x0 m (w64 (y1 * (w64 (x2 + 1)))) (w64 (y2 + 1))
    else
      some y1

def bath_many (F : Nat) (x0 : (List Int)) : Option Int :=
  ((bath_many_l1 F x0 F 1 0) >>= fun z1 =>
  some z1)

-- 73 slices.IndexFunc[[]mandrel/api.BathMove,mandrel/api.BathMove]
def slices_IndexFunc_api_BathMove_l1 (F : Nat) (x0 : (List ((List Int) × (List Int)))) (x1 : (((List Int) × (List Int)) → Option Bool)) : Nat → Int → Option (Sum Int (Unit))
  | 0, _ => none
  | m + 1, y1 =>
    if (decide (y1 < (x0.length : Int))) = true then
      (ix x0 y1) >>= fun x3 =>
      (x1 (x3.1, x3.2)) >>= fun x4 =>
      if x4 = true then
        some (.inl y1)
      else
        slices_IndexFunc_api_BathMove_l1 F x0 x1 m (w64 (y1 + 1))
    else
      some (.inr ())

def slices_IndexFunc_api_BathMove (F : Nat) (x0 : (List ((List Int) × (List Int)))) (x1 : (((List Int) × (List Int)) → Option Bool)) : Option Int :=
  ((slices_IndexFunc_api_BathMove_l1 F x0 x1 F 0) >>= fun o => match o with
    | .inl r => some r
    | .inr () =>
      some (-1))

-- 53 slices.ContainsFunc[[]mandrel/api.BathMove,mandrel/api.BathMove]
def slices_ContainsFunc_api_BathMove (F : Nat) (x0 : (List ((List Int) × (List Int)))) (x1 : (((List Int) × (List Int)) → Option Bool)) : Option Bool :=
  (slices_IndexFunc_api_BathMove F x0 x1) >>= fun x3 =>
  some (decide (0 ≤ x3))

-- 54 mandrel/bath.CheckBath$2
def bath_CheckBath_2 (x0 : ((List Int) × (List Int))) (x1 : Int) : Option Bool :=
  some ((!decide ((x0.1.length : Int) = x1)) || (!decide ((x0.2.length : Int) = x1)))

-- 55 mandrel/bath.CheckBath$3
def bath_CheckBath_3 (x0 : ((List Int) × (List Int))) (x1 : ((List Int) → Option Bool)) : Option Bool :=
  (((x1 x0.1) >>= fun x5 =>
  if x5 = true then
    some true
  else
    (x1 x0.2) >>= fun x6 =>
    some x6 : Option (Bool)) >>= fun y1 =>
  some y1)

-- 16 mandrel/bath.CheckBath
def bath_CheckBath (F : Nat) (x0 : ((List Int) × (List ((List Int) × (List Int))))) : Option Int :=
  if (((decide ((x0.1.length : Int) = 0)) || (decide (5 < (x0.1.length : Int)))) || (decide (8 < (x0.2.length : Int)))) = true then
    some 6
  else
    (bath_within F 0 9 x0.1) >>= fun x2 =>
    if (!x2) = true then
      some 2
    else
      (bath_many F x0.1) >>= fun x3 =>
      if (decide (4096 < x3)) = true then
        some 6
      else
        (slices_ContainsFunc_api_BathMove F x0.2 (fun y => bath_CheckBath_2 y (x0.1.length : Int))) >>= fun x4 =>
        if x4 = true then
          some 15
        else
          (slices_ContainsFunc_api_BathMove F x0.2 (fun y => bath_CheckBath_3 y (fun y => bath_CheckBath_1 F y))) >>= fun x5 =>
          if x5 = true then
            some 2
          else
            some 0

-- 45 mandrel/bath.open
def bath_open_l2 (F : Nat) (x0 : ((List Int) × (List ((List Int) × (List Int))))) (x4 : (List Int)) : Nat → Int → (Ar 5 Int) → Option (Sum ((Ob (((List Int) × (List ((List Int) × (List Int)))) × Opq)) × (List (Ar 5 Int)) × Int) ((Ar 5 Int)))
  | 0, _, _ => none
  | m + 1, y3, y4 =>
    if (decide (y3 < (x4.length : Int))) = true then
      (ix x4 y3) >>= fun x5 =>
      (ix x0.1 y3) >>= fun x6 =>
      (bath_within F 0 x6 ([x5] : List Int)) >>= fun x7 =>
      if (!x7) = true then
        some (.inl ((⟨none⟩ : (Ob (((List Int) × (List ((List Int) × (List Int)))) × Opq))), [], 3))
      else
        (ix y4.l y3) >>= fun x8 =>
        bath_open_l2 F x0 x4 m (w64 (y3 + 1)) (aset y4 y3 x5)
    else
      some (.inr y4)

def bath_open_l1 (F : Nat) (x0 : ((List Int) × (List ((List Int) × (List Int))))) (x1 : (List (List Int))) : Nat → (List (Ar 5 Int)) → Int → Option (Sum ((Ob (((List Int) × (List ((List Int) × (List Int)))) × Opq)) × (List (Ar 5 Int)) × Int) ((List (Ar 5 Int))))
  | 0, _, _ => none
  | m + 1, y1, y2 =>
    if (decide (y2 < (x1.length : Int))) = true then
      (ix x1 y2) >>= fun x4 =>
      if (!decide ((x4.length : Int) = (x0.1.length : Int))) = true then
        some (.inl ((⟨none⟩ : (Ob (((List Int) × (List ((List Int) × (List Int)))) × Opq))), [], 15))
      else
        ((bath_open_l2 F x0 x4 F 0 (Ar.fill 5 0 : (Ar 5 Int))) >>= fun o => match o with
          | .inl r => some (.inl r)
          | .inr z2 =>
            (app 40 y1 ([z2] : List (Ar 5 Int))) >>= fun x9 =>
            bath_open_l1 F x0 x1 m x9 (w64 (y2 + 1)))
    else
      some (.inr y1)

def bath_open (F : Nat) (x0 : ((List Int) × (List ((List Int) × (List Int))))) (x1 : (List (List Int))) : Option ((Ob (((List Int) × (List ((List Int) × (List Int)))) × Opq)) × (List (Ar 5 Int)) × Int) :=
  (bath_CheckBath F (x0.1, x0.2)) >>= fun x3 =>
  if (!decide (x3 = 0)) = true then
    some ((⟨none⟩ : (Ob (((List Int) × (List ((List Int) × (List Int)))) × Opq))), [], x3)
  else
    ((bath_open_l1 F x0 x1 F ([]) 0) >>= fun o => match o with
      | .inl r => some r
      | .inr z1 =>
        some ((⟨some ((x0.1, x0.2), Opq.mk)⟩ : (Ob (((List Int) × (List ((List Int) × (List Int)))) × Opq))), z1, 0))

-- 70 slices.IndexFunc[[]int,int]
def slices_IndexFunc_int_l1 (F : Nat) (x0 : (List Int)) (x1 : (Int → Option Bool)) : Nat → Int → Option (Sum Int (Unit))
  | 0, _ => none
  | m + 1, y1 =>
    if (decide (y1 < (x0.length : Int))) = true then
      (ix x0 y1) >>= fun x3 =>
      (x1 x3) >>= fun x4 =>
      if x4 = true then
        some (.inl y1)
      else
        slices_IndexFunc_int_l1 F x0 x1 m (w64 (y1 + 1))
    else
      some (.inr ())

def slices_IndexFunc_int (F : Nat) (x0 : (List Int)) (x1 : (Int → Option Bool)) : Option Int :=
  ((slices_IndexFunc_int_l1 F x0 x1 F 0) >>= fun o => match o with
    | .inl r => some r
    | .inr () =>
      some (-1))

-- 46 slices.ContainsFunc[[]int,int]
def slices_ContainsFunc_int (F : Nat) (x0 : (List Int)) (x1 : (Int → Option Bool)) : Option Bool :=
  (slices_IndexFunc_int F x0 x1) >>= fun x3 =>
  some (decide (0 ≤ x3))

-- 47 mandrel/bath.Make$1
def bath_Make_1 (x0 : Int) (x1 : ((List Int) × (List ((List Int) × (List Int))))) : Option Bool :=
  some ((decide (x0 < 0)) || (decide ((x1.2.length : Int) ≤ x0)))

-- 48 (*mandrel/bath.shop).after
def bath_shop_after_l1 (F : Nat) (x0 : (((List Int) × (List ((List Int) × (List Int)))) × Opq)) (x4 : ((List Int) × (List Int))) : Nat → Bool → Int → (Ar 5 Int) → Option (Bool × (Ar 5 Int))
  | 0, _, _, _ => none
  | m + 1, y1, y2, y3 =>
    if (decide (y2 < (x0.1.1.length : Int))) = true then
      (ix x0.1.1 y2) >>= fun x5 =>
      ((if y1 = true then
        (ix y3.l y2) >>= fun x6 =>
        (ix x4.1 y2) >>= fun x7 =>
        some (decide (x7 ≤ x6))
      else
        some false : Option (Bool)) >>= fun y4 =>
      (ix y3.l y2) >>= fun x8 =>
      (ix x4.2 y2) >>= fun x9 =>
      (ix x4.1 y2) >>= fun x10 =>
      (ix y3.l y2) >>= fun x11 =>
      ((if y4 = true then
        (ix (aset y3 y2 (w64 (x8 + (w64 (x9 - x10))))).l y2) >>= fun x12 =>
        some (decide (x12 ≤ x5))
      else
        some false : Option (Bool)) >>= fun y5 =>
      bath_shop_after_l1 F x0 x4 m y5 (w64 (y2 + 1)) (aset y3 y2 (w64 (x8 + (w64 (x9 - x10)))))))
    else
      some (y1, y3)

def bath_shop_after (F : Nat) (x0 : (((List Int) × (List ((List Int) × (List Int)))) × Opq)) (x1 : (Ar 5 Int)) (x2 : Int) : Option ((Ar 5 Int) × Bool) :=
  (ix x0.1.2 x2) >>= fun x4 =>
  ((bath_shop_after_l1 F x0 x4 F true 0 x1) >>= fun (z1, z2) =>
  some (z2, z1))

-- 14 mandrel/bath.Make
def bath_Make_l1 (F : Nat) (x2 : (List Int)) (x4 : ((Ob (((List Int) × (List ((List Int) × (List Int)))) × Opq)) × (List (Ar 5 Int)) × Int)) : Nat → Int → (Ar 5 Int) → Option (Sum ((List Int) × Int) ((Ar 5 Int)))
  | 0, _, _ => none
  | m + 1, y1, y2 =>
    if (decide (y1 < (x2.length : Int))) = true then
      (ix x2 y1) >>= fun x7 =>
      (x4.1.v) >>= fun x8 =>
      (bath_shop_after F ((x8.1.1, x8.1.2), Opq.mk) y2 x7) >>= fun x9 =>
      if (!x9.2) = true then
        some (.inl ([], 9))
      else
        bath_Make_l1 F x2 x4 m (w64 (y1 + 1)) x9.1
    else
      some (.inr y2)

def bath_Make (F : Nat) (x0 : ((List Int) × (List ((List Int) × (List Int))))) (x1 : (List Int)) (x2 : (List Int)) : Option ((List Int) × Int) :=
  (bath_open F (x0.1, x0.2) ([x1] : List (List Int))) >>= fun x4 =>
  if (!decide (x4.2.2 = 0)) = true then
    some ([], x4.2.2)
  else
    if (decide (4096 < (x2.length : Int))) = true then
      some ([], 6)
    else
      (slices_ContainsFunc_int F x2 (fun y => bath_Make_1 y (x0.1, x0.2))) >>= fun x5 =>
      if x5 = true then
        some ([], 3)
      else
        (ix x4.2.1 0) >>= fun x6 =>
        ((bath_Make_l1 F x2 x4 F 0 x6) >>= fun o => match o with
          | .inl r => some r
          | .inr z1 =>
            (mks 8 (x1.length : Int) (0)) >>= fun x10 =>
            some ((rcopy x10 z1.l), 0))

-- 18 mandrel/mandrellaw11.longs
def law11_longs_l1 (F : Nat) (x0 : (List Int)) (x1 : (List Int)) : Nat → Int → Option (Sum Bool (Unit))
  | 0, _ => none
  | m + 1, y1 =>
    if (decide (y1 < (x0.length : Int))) = true then
      (ix x0 y1) >>= fun x3 =>
      (ix x1 y1) >>= fun x4 =>
      if (!decide (x3 = x4)) = true then
        some (.inl false)
      else
        law11_longs_l1 F x0 x1 m (w64 (y1 + 1))
    else
      some (.inr ())

def law11_longs (F : Nat) (x0 : (List Int)) (x1 : (List Int)) : Option Bool :=
  if (!decide ((x0.length : Int) = (x1.length : Int))) = true then
    some false
  else
    ((law11_longs_l1 F x0 x1 F 0) >>= fun o => match o with
      | .inl r => some r
      | .inr () =>
        some true)

-- 56 mandrel/mandrelref11.within
def ref11_within_l1 (F : Nat) (x0 : (List Int)) (x1 : Int) : Nat → Int → Option (Sum Bool (Unit))
  | 0, _ => none
  | m + 1, y1 =>
    if (decide (y1 < (x0.length : Int))) = true then
      (((ix x0 y1) >>= fun x4 =>
      if (decide (x4 < 0)) = true then
        some true
      else
        (ix x0 y1) >>= fun x5 =>
        some (decide (x1 < x5)) : Option (Bool)) >>= fun y2 =>
      if y2 = true then
        some (.inl false)
      else
        ref11_within_l1 F x0 x1 m (w64 (y1 + 1)))
    else
      some (.inr ())

def ref11_within (F : Nat) (x0 : (List Int)) (x1 : Int) : Option Bool :=
  ((ref11_within_l1 F x0 x1 F 0) >>= fun o => match o with
    | .inl r => some r
    | .inr () =>
      some true)

-- 57 mandrel/mandrelref11.Many
def ref11_Many_l1 (F : Nat) (x0 : ((List Int) × (List ((List Int) × (List Int))))) : Nat → Int → Int → Option (Int)
  | 0, _, _ => none
  | m + 1, y1, y2 =>
    if (decide (y2 < (x0.1.length : Int))) = true then
      (ix x0.1 y2) >>= fun x2 =>
      ref11_Many_l1 F x0 m (w64 (y1 * (w64 (x2 + 1)))) (w64 (y2 + 1))
    else
      some y1

def ref11_Many (F : Nat) (x0 : ((List Int) × (List ((List Int) × (List Int))))) : Option Int :=
  ((ref11_Many_l1 F x0 F 1 0) >>= fun z1 =>
  some z1)

-- 17 mandrel/mandrelref11.CheckBath
def ref11_CheckBath_l1 (F : Nat) (x0 : ((List Int) × (List ((List Int) × (List Int))))) : Nat → Int → Option (Sum Int (Unit))
  | 0, _ => none
  | m + 1, y1 =>
    if (decide (y1 < (x0.2.length : Int))) = true then
      (((ix x0.2 y1) >>= fun x5 =>
      if (!decide ((x5.1.length : Int) = (x0.1.length : Int))) = true then
        some true
      else
        (ix x0.2 y1) >>= fun x6 =>
        some (!decide ((x6.2.length : Int) = (x0.1.length : Int))) : Option (Bool)) >>= fun y2 =>
      if y2 = true then
        some (.inl 15)
      else
        ref11_CheckBath_l1 F x0 m (w64 (y1 + 1)))
    else
      some (.inr ())

def ref11_CheckBath_l2 (F : Nat) (x0 : ((List Int) × (List ((List Int) × (List Int))))) : Nat → Int → Option (Sum Int (Unit))
  | 0, _ => none
  | m + 1, y3 =>
    if (decide (y3 < (x0.2.length : Int))) = true then
      (((ix x0.2 y3) >>= fun x9 =>
      (ref11_within F x9.1 5) >>= fun x10 =>
      if (!x10) = true then
        some true
      else
        (ix x0.2 y3) >>= fun x11 =>
        (ref11_within F x11.2 5) >>= fun x12 =>
        some (!x12) : Option (Bool)) >>= fun y4 =>
      if y4 = true then
        some (.inl 2)
      else
        ref11_CheckBath_l2 F x0 m (w64 (y3 + 1)))
    else
      some (.inr ())

def ref11_CheckBath (F : Nat) (x0 : ((List Int) × (List ((List Int) × (List Int))))) : Option Int :=
  if (((decide ((x0.1.length : Int) < 1)) || (decide (5 < (x0.1.length : Int)))) || (decide (8 < (x0.2.length : Int)))) = true then
    some 6
  else
    (ref11_within F x0.1 9) >>= fun x2 =>
    if (!x2) = true then
      some 2
    else
      (ref11_Many F (x0.1, x0.2)) >>= fun x3 =>
      if (decide (4096 < x3)) = true then
        some 6
      else
        ((ref11_CheckBath_l1 F x0 F 0) >>= fun o => match o with
          | .inl r => some r
          | .inr () =>
            ((ref11_CheckBath_l2 F x0 F 0) >>= fun o => match o with
              | .inl r => some r
              | .inr () =>
                some 0))

-- 64 mandrel/mandrelref11.isStock
def ref11_isStock_l1 (F : Nat) (x0 : ((List Int) × (List ((List Int) × (List Int))))) (x1 : (List Int)) : Nat → Int → Option (Sum Int (Unit))
  | 0, _ => none
  | m + 1, y1 =>
    if (decide (y1 < (x1.length : Int))) = true then
      (((ix x1 y1) >>= fun x4 =>
      if (decide (x4 < 0)) = true then
        some true
      else
        (ix x1 y1) >>= fun x5 =>
        (ix x0.1 y1) >>= fun x6 =>
        some (decide (x6 < x5)) : Option (Bool)) >>= fun y2 =>
      if y2 = true then
        some (.inl 3)
      else
        ref11_isStock_l1 F x0 x1 m (w64 (y1 + 1)))
    else
      some (.inr ())

def ref11_isStock (F : Nat) (x0 : ((List Int) × (List ((List Int) × (List Int))))) (x1 : (List Int)) : Option Int :=
  if (!decide ((x1.length : Int) = (x0.1.length : Int))) = true then
    some 15
  else
    ((ref11_isStock_l1 F x0 x1 F 0) >>= fun o => match o with
      | .inl r => some r
      | .inr () =>
        some 0)

-- 31 mandrel/mandrelref11.One
def ref11_One (F : Nat) (x0 : ((List Int) × (List ((List Int) × (List Int))))) (x1 : (List Int)) : Option Int :=
  (ref11_CheckBath F (x0.1, x0.2)) >>= fun x3 =>
  if (!decide (x3 = 0)) = true then
    (ref11_CheckBath F (x0.1, x0.2)) >>= fun x4 =>
    some x4
  else
    (ref11_isStock F (x0.1, x0.2) x1) >>= fun x5 =>
    some x5

-- 49 mandrel/mandrelref11.after
def ref11_after_l1 (F : Nat) (x0 : ((List Int) × (List ((List Int) × (List Int))))) (x1 : (List Int)) (x4 : ((List Int) × (List Int))) : Nat → (List Int) → Int → Option (Sum ((List Int) × Bool) ((List Int)))
  | 0, _, _ => none
  | m + 1, y1, y2 =>
    if (decide (y2 < (x1.length : Int))) = true then
      (ix x1 y2) >>= fun x5 =>
      (ix x4.1 y2) >>= fun x6 =>
      (ix x4.2 y2) >>= fun x7 =>
      (((ix x1 y2) >>= fun x10 =>
      (ix x4.1 y2) >>= fun x11 =>
      if (decide (x10 < x11)) = true then
        some true
      else
        (ix x0.1 y2) >>= fun x12 =>
        some (decide (x12 < (w64 ((w64 (x5 - x6)) + x7)))) : Option (Bool)) >>= fun y3 =>
      if y3 = true then
        some (.inl ([], false))
      else
        (app 8 y1 ([w64 ((w64 (x5 - x6)) + x7)] : List Int)) >>= fun x13 =>
        ref11_after_l1 F x0 x1 x4 m x13 (w64 (y2 + 1)))
    else
      some (.inr y1)

def ref11_after (F : Nat) (x0 : ((List Int) × (List ((List Int) × (List Int))))) (x1 : (List Int)) (x2 : Int) : Option ((List Int) × Bool) :=
  (ix x0.2 x2) >>= fun x4 =>
  ((ref11_after_l1 F x0 x1 x4 F ([]) 0) >>= fun o => match o with
    | .inl r => some r
    | .inr z1 =>
      some (z1, true))

-- 15 mandrel/mandrelref11.Make
def ref11_Make_l1 (F : Nat) (x0 : ((List Int) × (List ((List Int) × (List Int))))) (x2 : (List Int)) : Nat → Int → Option (Sum ((List Int) × Int) (Unit))
  | 0, _ => none
  | m + 1, y1 =>
    if (decide (y1 < (x2.length : Int))) = true then
      (((ix x2 y1) >>= fun x7 =>
      if (decide (x7 < 0)) = true then
        some true
      else
        (ix x2 y1) >>= fun x8 =>
        some (decide ((x0.2.length : Int) ≤ x8)) : Option (Bool)) >>= fun y2 =>
      if y2 = true then
        some (.inl ([], 3))
      else
        ref11_Make_l1 F x0 x2 m (w64 (y1 + 1)))
    else
      some (.inr ())

def ref11_Make_l2 (F : Nat) (x0 : ((List Int) × (List ((List Int) × (List Int))))) (x2 : (List Int)) : Nat → (List Int) → Int → Option (Sum ((List Int) × Int) ((List Int)))
  | 0, _, _ => none
  | m + 1, y3, y4 =>
    if (decide (y4 < (x2.length : Int))) = true then
      (ix x2 y4) >>= fun x10 =>
      (ref11_after F (x0.1, x0.2) y3 x10) >>= fun x11 =>
      if (!x11.2) = true then
        some (.inl ([], 9))
      else
        ref11_Make_l2 F x0 x2 m x11.1 (w64 (y4 + 1))
    else
      some (.inr y3)

def ref11_Make (F : Nat) (x0 : ((List Int) × (List ((List Int) × (List Int))))) (x1 : (List Int)) (x2 : (List Int)) : Option ((List Int) × Int) :=
  (ref11_One F (x0.1, x0.2) x1) >>= fun x4 =>
  if (!decide (x4 = 0)) = true then
    (ref11_One F (x0.1, x0.2) x1) >>= fun x5 =>
    some ([], x5)
  else
    if (decide (4096 < (x2.length : Int))) = true then
      some ([], 6)
    else
      ((ref11_Make_l1 F x0 x2 F 0) >>= fun o => match o with
        | .inl r => some r
        | .inr () =>
          (app 8 ([] : List Int) x1) >>= fun x9 =>
          ((ref11_Make_l2 F x0 x2 F x9 0) >>= fun o => match o with
            | .inl r => some r
            | .inr z1 =>
              some (z1, 0)))

-- 19 mandrel/mandrellaw11.large
def law11_large (F : Nat) (x0 : ((List Int) × (List ((List Int) × (List Int))))) : Option Bool :=
  (ref11_CheckBath F (x0.1, x0.2)) >>= fun x2 =>
  (gd (decide (x2 = 0)) (ref11_Many F (x0.1, x0.2)) 0) >>= fun x3 =>
  some ((decide (x2 = 0)) && (decide (300 < x3)))

-- 41 mandrel/mandrelref11.Two
def ref11_Two (F : Nat) (x0 : ((List Int) × (List ((List Int) × (List Int))))) (x1 : (List Int)) (x2 : (List Int)) : Option Int :=
  (ref11_One F (x0.1, x0.2) x1) >>= fun x4 =>
  if (!decide (x4 = 0)) = true then
    (ref11_One F (x0.1, x0.2) x1) >>= fun x5 =>
    some x5
  else
    (ref11_isStock F (x0.1, x0.2) x2) >>= fun x6 =>
    some x6

-- 61 mandrel/mandrelref11.index
def ref11_index_l1 (F : Nat) (x0 : ((List Int) × (List ((List Int) × (List Int))))) (x1 : (List Int)) : Nat → Int → Int → Option (Int)
  | 0, _, _ => none
  | m + 1, y1, y2 =>
    if (decide (y2 < (x1.length : Int))) = true then
      (ix x0.1 y2) >>= fun x3 =>
      (ix x1 y2) >>= fun x4 =>
      ref11_index_l1 F x0 x1 m (w64 ((w64 (y1 * (w64 (x3 + 1)))) + x4)) (w64 (y2 + 1))
    else
      some y1

def ref11_index (F : Nat) (x0 : ((List Int) × (List ((List Int) × (List Int))))) (x1 : (List Int)) : Option Int :=
  ((ref11_index_l1 F x0 x1 F 0 0) >>= fun z1 =>
  some z1)

-- 62 mandrel/mandrelref11.stock
def ref11_stock_l1 (F : Nat) (x0 : ((List Int) × (List ((List Int) × (List Int))))) : Nat → Int → (List Int) → Int → Option ((List Int))
  | 0, _, _, _ => none
  | m + 1, y1, y2, y3 =>
    if (decide (0 ≤ y3)) = true then
      (ix x0.1 y3) >>= fun x4 =>
      (rem y1 (w64 (x4 + 1))) >>= fun x5 =>
      (ix y2 y3) >>= fun x6 =>
      (quo y1 (w64 (x4 + 1))) >>= fun x7 =>
      ref11_stock_l1 F x0 m x7 (rset y2 y3 x5) (w64 (y3 - 1))
    else
      some y2

def ref11_stock (F : Nat) (x0 : ((List Int) × (List ((List Int) × (List Int))))) (x1 : Int) : Option (List Int) :=
  (mks 8 (x0.1.length : Int) (0)) >>= fun x3 =>
  ((ref11_stock_l1 F x0 F x1 x3 (w64 ((x3.length : Int) - 1))) >>= fun z1 =>
  some z1)

-- 60 mandrel/mandrelref11.Far
def ref11_Far_l1 (F : Nat) : Nat → (List Int) → Int → Option ((List Int))
  | 0, _, _ => none
  | m + 1, y1, y2 =>
    if (decide (y2 < (y1.length : Int))) = true then
      (ix y1 y2) >>= fun x5 =>
      ref11_Far_l1 F m (rset y1 y2 (-1)) (w64 (y2 + 1))
    else
      some y1

def ref11_Far_l4 (F : Nat) (x0 : ((List Int) × (List ((List Int) × (List Int))))) (y4 : Int) (y8 : Int) : Nat → (List Int) → Bool → Int → Option ((List Int) × Bool)
  | 0, _, _, _ => none
  | m + 1, y11, y12, y13 =>
    if (decide (y13 < (x0.2.length : Int))) = true then
      (((ref11_stock F (x0.1, x0.2) y8) >>= fun x9 =>
      (ref11_after F (x0.1, x0.2) x9 y13) >>= fun x10 =>
      ((if x10.2 = true then
        (ref11_index F (x0.1, x0.2) x10.1) >>= fun x12 =>
        (ix y11 x12) >>= fun x13 =>
        some (decide (x13 < 0))
      else
        some false : Option (Bool)) >>= fun y16 =>
      ((if y16 = true then
        (ref11_index F (x0.1, x0.2) x10.1) >>= fun x14 =>
        (ix y11 x14) >>= fun x15 =>
        some ((rset y11 x14 (w64 (y4 + 1))), true)
      else
        some (y11, y12) : Option ((List Int) × Bool)) >>= fun (y17, y18) =>
      some (y17, y18))) : Option ((List Int) × Bool)) >>= fun (y14, y15) =>
      ref11_Far_l4 F x0 y4 y8 m y14 y15 (w64 (y13 + 1)))
    else
      some (y11, y12)

def ref11_Far_l3 (F : Nat) (x0 : ((List Int) × (List ((List Int) × (List Int))))) (y4 : Int) : Nat → (List Int) → Bool → Int → Option ((List Int) × Bool)
  | 0, _, _, _ => none
  | m + 1, y6, y7, y8 =>
    if (decide (y8 < (y6.length : Int))) = true then
      (((ix y6 y8) >>= fun x8 =>
      if (!decide (x8 = y4)) = true then
        some (y6, y7)
      else
        ((ref11_Far_l4 F x0 y4 y8 F y6 y7 0) >>= fun (z5, z6) =>
        some (z5, z6)) : Option ((List Int) × Bool)) >>= fun (y9, y10) =>
      ref11_Far_l3 F x0 y4 m y9 y10 (w64 (y8 + 1)))
    else
      some (y6, y7)

def ref11_Far_l2 (F : Nat) (x0 : ((List Int) × (List ((List Int) × (List Int))))) : Nat → (List Int) → Int → Bool → Option ((List Int))
  | 0, _, _, _ => none
  | m + 1, y3, y4, y5 =>
    if y5 = true then
      ((ref11_Far_l3 F x0 y4 F y3 false 0) >>= fun (z3, z4) =>
      ref11_Far_l2 F x0 m z3 (w64 (y4 + 1)) z4)
    else
      some y3

def ref11_Far (F : Nat) (x0 : ((List Int) × (List ((List Int) × (List Int))))) (x1 : (List Int)) : Option (List Int) :=
  (ref11_Many F (x0.1, x0.2)) >>= fun x3 =>
  (mks 8 x3 (0)) >>= fun x4 =>
  ((ref11_Far_l1 F F x4 0) >>= fun z1 =>
  (ref11_index F (x0.1, x0.2) x1) >>= fun x6 =>
  (ix z1 x6) >>= fun x7 =>
  ((ref11_Far_l2 F x0 F (rset z1 x6 0) 0 true) >>= fun z2 =>
  some z2))
end Go.Proofs.Ytboefnpnoojfpaa
