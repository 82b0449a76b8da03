/-
  Pure functions, one for each function of the program, as a program of our own printed them. No condition: definitions.
-/
import Derived.Test.YtdimoehnkagghaaCopy
import Derived.Test.YtdimoehnkagghaaDeep
import Derived.Test.YtdimoehnkagghaaPureB
namespace Go.Proofs.Ytdimoehnkagghaa
open Go Go.Md Go.RowKit

-- 39 mandrel/mandrellaw10.Book
def law10_Book  : Option (Int × (List Int) × (List ((List Int) × Int)) × (List ((List Int) × Int)) × (List (List Int))) :=
  some (5, ([0, 3] : List Int), ([(([1] : List Int), 2)] : List ((List Int) × Int)), ([(([0] : List Int), 1), (([0] : List Int), 4), (([0, 4] : List Int), 2)] : List ((List Int) × Int)), ([([2, 3] : List Int)] : List (List Int)))

-- 35 mandrel/mandrellaw10.Walk
def law10_Walk_l2 (F : Nat) (x0 : (Int × (List Int) × (List ((List Int) × Int)) × (List ((List Int) × Int)) × (List (List Int)))) (y1 : (List Int)) : Nat → (List (Bool × Int)) → Int → Option ((List (Bool × Int)))
  | 0, _, _ => none
  | m + 1, y6, y7 =>
    if (decide (y7 < (x0.2.2.1.length : Int))) = true then
      (((ix x0.2.2.1 y7) >>= fun x5 =>
      (law10_there F y1 x5.1) >>= fun x6 =>
      ((if x6 = true then
        (app 16 y6 ([(false, y7)] : List (Bool × Int))) >>= fun x7 =>
        some x7
      else
        some y6 : Option ((List (Bool × Int)))) >>= fun y9 =>
      some y9) : Option ((List (Bool × Int)))) >>= fun y8 =>
      law10_Walk_l2 F x0 y1 m y8 (w64 (y7 + 1)))
    else
      some y6

def law10_Walk_l3 (F : Nat) (x0 : (Int × (List Int) × (List ((List Int) × Int)) × (List ((List Int) × Int)) × (List (List Int)))) (x1 : (List Int)) (y1 : (List Int)) : Nat → (List (Bool × Int)) → Int → Option ((List (Bool × Int)))
  | 0, _, _ => none
  | m + 1, y10, y11 =>
    if (decide (y11 < (x1.length : Int))) = true then
      (((ix x1 y11) >>= fun x8 =>
      (ix x0.2.2.2.1 x8) >>= fun x9 =>
      (law10_there F y1 x9.1) >>= fun x10 =>
      ((if x10 = true then
        (ix x1 y11) >>= fun x11 =>
        (app 16 y10 ([(true, x11)] : List (Bool × Int))) >>= fun x12 =>
        some x12
      else
        some y10 : Option ((List (Bool × Int)))) >>= fun y13 =>
      some y13) : Option ((List (Bool × Int)))) >>= fun y12 =>
      law10_Walk_l3 F x0 x1 y1 m y12 (w64 (y11 + 1)))
    else
      some y10

def law10_Walk_l1 (F : Nat) (x0 : (Int × (List Int) × (List ((List Int) × Int)) × (List ((List Int) × Int)) × (List (List Int)))) (x1 : (List Int)) (x2 : (List (KI .u8))) : Nat → (List Int) → (List (Bool × Int)) → Int → Option (Sum (List (Bool × Int)) ((List (Bool × Int))))
  | 0, _, _, _ => none
  | m + 1, y1, y2, y3 =>
    if (decide (y3 < (x2.length : Int))) = true then
      ((((law10_Walk_l2 F x0 y1 F ([]) 0) >>= fun z2 =>
      ((law10_Walk_l3 F x0 x1 y1 F z2 0) >>= fun z3 =>
      if (decide ((z3.length : Int) = 0)) = true then
        some (.inl y2)
      else
        (ix x2 y3) >>= fun x13 =>
        (rem (w64 x13.v) (z3.length : Int)) >>= fun x14 =>
        (ix z3 x14) >>= fun x15 =>
        (app 16 y2 ([(x15.1, x15.2)] : List (Bool × Int))) >>= fun x16 =>
        ((if x15.1 = true then
          (ix x0.2.2.2.1 x15.2) >>= fun x17 =>
          (app 8 y1 ([x17.2] : List Int)) >>= fun x18 =>
          some (x18, x16)
        else
          (ix x0.2.2.1 x15.2) >>= fun x19 =>
          (app 8 y1 ([x19.2] : List Int)) >>= fun x20 =>
          some (x20, x16) : Option ((List Int) × (List (Bool × Int)))) >>= fun (y14, y15) =>
        some (.inr (y14, y15))))) : Option (Sum (List (Bool × Int)) ((List Int) × (List (Bool × Int))))) >>= fun o => match o with
        | .inl r => some (.inl r)
        | .inr (y4, y5) =>
          law10_Walk_l1 F x0 x1 x2 m y4 y5 (w64 (y3 + 1)))
    else
      some (.inr y2)

def law10_Walk (F : Nat) (x0 : (Int × (List Int) × (List ((List Int) × Int)) × (List ((List Int) × Int)) × (List (List Int)))) (x1 : (List Int)) (x2 : (List (KI .u8))) : Option (List (Bool × Int)) :=
  (app 8 ([] : List Int) x0.2.1) >>= fun x4 =>
  ((law10_Walk_l1 F x0 x1 x2 F x4 ([]) 0) >>= fun o => match o with
    | .inl r => some r
    | .inr z1 =>
      some z1)
end Go.Proofs.Ytdimoehnkagghaa
