/-
  Maps of the call's own in printed walks. No condition: lemmas about the model.
-/
import Derived.Test.YtboefnpnoojfpaaDeep
import Derived.Scope
namespace Go.Md
open Go Go.RowKit

/-- A key that a map may have. -/
def kok {κ : Type} [Enc κ] [Flat κ] [Key κ] (k : κ) : Option Unit := if Key.ok k = true then some () else none
theorem kok_spec {κ : Type} [Enc κ] [Flat κ] [Key κ] {k : κ} {u : Unit} (h : kok k = some u) : Key.ok k = true := by
  unfold kok at h
  split at h
  · assumption
  · cases h
section
variable {κ ν : Type} [DecidableEq κ] [Enc κ] [Flat κ] [Key κ] [Enc ν] [Flat ν] {P : Program} {w w' : World} {b : Nat} {l : List (κ × ν)}
theorem TI.zv {α : Type} [Enc α] [Flat α] {t : TypeId} {agg : Bool} {n bytes : Nat} {z : List Value} {d : α} (ht : TI P t agg n bytes z) (ha : agg = Enc.agg α) (hz : z = Flat.enc d) (w : World) : (zeroValue t).run P w = .ok (fv d) w := by
  obtain ⟨v, h1, _, h3⟩ := ht.zero w
  rw [h1, h3, ha, hz]
  rfl

omit [DecidableEq κ] in
theorem Row.ne_map {α : Type} [Enc α] [Flat α] {e : TypeId} {base : Nat} {v : Value} {x : List α} (h : Row e base w v x) (hm : Mp w b l) : some b ≠ v.ownBlock := fun e1 => by
  obtain ⟨o, h1, h2⟩ := h.cells e1.symm
  obtain ⟨es, c, h3, _⟩ := hm
  rw [h3] at h1
  cases h1
  cases h2
theorem Mp.chgb {c : Nat} {T : TypeId} {cs : List Value} (h : Mp w b l) (k : Chg c w w') (hx : Bx w c T cs) : Mp w' b l := h.chg k (h.not_cells hx)
theorem Bx.chgm {c : Nat} {T : TypeId} {cs : List Value} (h : Bx w c T cs) (k : Chg b w w') (hm : Mp w b l) : Bx w' c T cs := h.chg k (Ne.symm (hm.not_cells h))
omit [DecidableEq κ] in
theorem Row.chgm {α : Type} [Enc α] [Flat α] {e : TypeId} {base : Nat} {v : Value} {x : List α} (h : Row e base w v x) (k : Chg b w w') (hm : Mp w b l) : Row e base w' v x := h.chgn k (h.ne_map hm)
theorem Mp.grr {α : Type} [Enc α] [Flat α] {e : TypeId} {base : Nat} {v : Value} {x : List α} (h : Mp w b l) (g : w.grownBy w' v.ownBlock) (r : Row e base w v x) : Mp w' b l := h.gr g (r.ne_map h)
end
end Go.Md
