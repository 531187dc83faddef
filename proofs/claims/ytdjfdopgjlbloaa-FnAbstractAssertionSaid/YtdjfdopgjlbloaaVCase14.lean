/- Walks: the check of a case: the program. -/
import Derived.Test.YtdjfdopgjlbloaaVCaseC
import Derived.Deep.Cut
import Derived.Deep.RegionHeld3
import Derived.Deep.MidRow
namespace Go.Proofs.Ytdjfdopgjlbloaa
open Go.RowKit

theorem cntM_zero (n : Nat) : cntM n 0 = 0 := by
  unfold cntM
  rw [List.length_eq_zero_iff, List.filter_eq_nil_iff]
  intro x _; simp
end Go.Proofs.Ytdjfdopgjlbloaa
