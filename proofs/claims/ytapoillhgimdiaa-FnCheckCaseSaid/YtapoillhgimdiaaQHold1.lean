/- Walks: facts that hold for values. -/
import Derived.Test.YtapoillhgimdiaaQData3
namespace Go.Proofs.Ytapoillhgimdiaa
open Go.RowKit

theorem factB_le {f : Fact} (h : factB f = true) : 0 ≤ f.2.1 ∧ f.2.1 ≤ 8 ∧ 0 ≤ f.2.2 ∧ f.2.2 ≤ 8 := by
  simp [factB, isTermB] at h; omega
theorem all_of {α : Type} [Dat α] {p : α → Bool} {l : List α} (h : l.all p = true) (k : Nat) (hk : k < l.length) : p (gd l k) = true := by
  rw [List.all_eq_true] at h
  have e : gd l k = l[k] := by simp [gd, hk]
  rw [e]; exact h _ (List.getElem_mem hk)


end Go.Proofs.Ytapoillhgimdiaa
