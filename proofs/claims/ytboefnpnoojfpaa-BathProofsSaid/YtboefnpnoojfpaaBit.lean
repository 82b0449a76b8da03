/-
  Bits and shifts in a walk. No condition: lemmas about the model.
-/
import Derived.Test.YtboefnpnoojfpaaMat
namespace Go.Md
open Go Go.RowKit

def band (k : IntKind) (a b : Int) : Int := k.wrap ((BitVec.ofInt k.bits a &&& BitVec.ofInt k.bits b).toNat : Int)
def bor (k : IntKind) (a b : Int) : Int := k.wrap ((BitVec.ofInt k.bits a ||| BitVec.ofInt k.bits b).toNat : Int)
def bxor (k : IntKind) (a b : Int) : Int := k.wrap ((BitVec.ofInt k.bits a ^^^ BitVec.ofInt k.bits b).toNat : Int)
def bandn (k : IntKind) (a b : Int) : Int := k.wrap ((BitVec.ofInt k.bits a &&& ~~~(BitVec.ofInt k.bits b)).toNat : Int)
def shl (k : IntKind) (a c : Int) : Option Int := if c < 0 then none else some (k.wrap (a * 2 ^ (min c.toNat k.bits)))
def shr (k : IntKind) (a c : Int) : Option Int := if c < 0 then none else some (a.fdiv (2 ^ (min c.toNat k.bits)))

section
variable {P : Program} {Q : Exit → Act → World → Prop} {n : Nat} {L : Fr} {D : List Deferred} {w : World} {ops : Array Oper} {rest : List Oper}
variable {ty : TypeId} {pos : String} {af : Array Edge} {dst : Option Nat} {gdd : Option (Nat × Bool)} {x y z : Operand}
variable {t t' : TypeId} {k yk : IntKind} {a b v : Int}

theorem xand (hx : ev n L x = .int k a) (hy : ev n L y = .int k b) : (execOp (ev n L) { dst := dst, op := .binOp .and t x y t', type := ty, pos := pos, after := af, guard := gdd }).run P w = .ok (.value (.int k (band k a b))) w := by
  simp [execOp, hx, hy, eqGuard, Go.binOp, Op.intBits, band]
theorem xor_ (hx : ev n L x = .int k a) (hy : ev n L y = .int k b) : (execOp (ev n L) { dst := dst, op := .binOp .or t x y t', type := ty, pos := pos, after := af, guard := gdd }).run P w = .ok (.value (.int k (bor k a b))) w := by
  simp [execOp, hx, hy, eqGuard, Go.binOp, Op.intBits, bor]
theorem xxor (hx : ev n L x = .int k a) (hy : ev n L y = .int k b) : (execOp (ev n L) { dst := dst, op := .binOp .xor t x y t', type := ty, pos := pos, after := af, guard := gdd }).run P w = .ok (.value (.int k (bxor k a b))) w := by
  simp [execOp, hx, hy, eqGuard, Go.binOp, Op.intBits, bxor]
theorem xandn (hx : ev n L x = .int k a) (hy : ev n L y = .int k b) : (execOp (ev n L) { dst := dst, op := .binOp .andNot t x y t', type := ty, pos := pos, after := af, guard := gdd }).run P w = .ok (.value (.int k (bandn k a b))) w := by
  simp [execOp, hx, hy, eqGuard, Go.binOp, Op.intBits, bandn]
theorem xshl (hx : ev n L x = .int k a) (hy : ev n L y = .int yk b) (h : shl k a b = some v) : (execOp (ev n L) { dst := dst, op := .binOp .shl t x y t', type := ty, pos := pos, after := af, guard := gdd }).run P w = .ok (.value (.int k v)) w := by
  unfold shl at h
  split at h
  · cases h
  · rename_i hb
    cases h
    simp [execOp, hx, hy, eqGuard, Go.binOp, Op.shift, hb]
theorem xshr (hx : ev n L x = .int k a) (hy : ev n L y = .int yk b) (h : shr k a b = some v) : (execOp (ev n L) { dst := dst, op := .binOp .shr t x y t', type := ty, pos := pos, after := af, guard := gdd }).run P w = .ok (.value (.int k v)) w := by
  unfold shr at h
  split at h
  · cases h
  · rename_i hb
    cases h
    simp [execOp, hx, hy, eqGuard, Go.binOp, Op.shift, hb]
end
end Go.Md
