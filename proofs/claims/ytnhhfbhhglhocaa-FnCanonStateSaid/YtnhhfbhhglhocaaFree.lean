/- Walks: FreeCell. -/
import Derived.Test.YtnhhfbhhglhocaaCp
import Derived.Test.YtnhhfbhhglhocaaSl2
namespace Go.Proofs.Ytnhhfbhhglhocaa
open Go.RowKit

theorem box_two {w : World} {b : Nat} {u v : Value} (x y : Value) (h0 : w.cell? ⟨b, 0, none⟩ = some u) (h1 : w.cell? ⟨b, 1, none⟩ = some v) :
    ((w.setCell ⟨b, 0, none⟩ x).setCell ⟨b, 1, none⟩ y).cell? ⟨b, 0, none⟩ = some x ∧ ((w.setCell ⟨b, 0, none⟩ x).setCell ⟨b, 1, none⟩ y).cell? ⟨b, 1, none⟩ = some y := by
  constructor
  · rw [World.cell?_setCell_other _ _ _ _ (by simp), World.cell?_setCell_same _ _ _ h0]
  · exact World.cell?_setCell_same _ _ _ (u := v) (by rw [World.cell?_setCell_other _ _ _ _ (by simp)]; exact h1)

end Go.Proofs.Ytnhhfbhhglhocaa
