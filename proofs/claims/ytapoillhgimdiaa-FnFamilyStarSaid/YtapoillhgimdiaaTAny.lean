/- Lists whose elements all, or of which some, have a property: as far as the element k. -/
import Derived.Test.YtapoillhgimdiaaTHold1
namespace Go.Proofs.Ytapoillhgimdiaa
open Go.RowKit

theorem any_yes {α : Type} [Inhabited α] {p : α → Bool} {l : List α} {k : Nat} (h : k < l.length) (hp : p (gd l k) = true) : l.any p = true := by
  rw [List.any_eq_true]; exact ⟨_, gd_mem h, hp⟩
theorem any_take_no {α : Type} [Inhabited α] {p : α → Bool} {l : List α} {k : Nat} (h : k < l.length) (ht : (l.take k).any p = false) (hp : p (gd l k) = false) : (l.take (k + 1)).any p = false := by
  rw [take_gd h, List.any_append, ht]; simp [hp]
theorem any_end {α : Type} {p : α → Bool} {l : List α} (ht : (l.take l.length).any p = false) : l.any p = false := by rwa [List.take_length] at ht
end Go.Proofs.Ytapoillhgimdiaa
