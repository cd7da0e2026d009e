/- A cell of another block behind many stores into one. No program is named here. -/
import Derived.Below
namespace Go.Proofs.Ytikhjnokfakgiaa
open Go.RowKit
def FarFrom_ (g : Nat) (w w' : World) : Prop := ∀ i, i ≠ g → w'.heap[i]? = w.heap[i]?
theorem FarFrom_.refl (g : Nat) (w : World) : FarFrom_ g w w := fun _ _ => rfl
theorem FarFrom_.set {g j : Nat} {w w' : World} {u : Value} (h : FarFrom_ g w w') : FarFrom_ g w (w'.setCell ⟨g, j, none⟩ u) := fun i hi => (Below.heap_setCell w' ⟨g, j, none⟩ u i hi).trans (h i hi)
theorem far_cell_ {g : Nat} {w w' : World} {a : Addr} {v : Value} (hw : FarFrom_ g w w') (ha : a.block ≠ g) (h : w.cell? a = some v) : w'.cell? a = some v := by
  have e := hw a.block ha
  rw [← h]
  simp [World.cell?, e]
end Go.Proofs.Ytikhjnokfakgiaa
