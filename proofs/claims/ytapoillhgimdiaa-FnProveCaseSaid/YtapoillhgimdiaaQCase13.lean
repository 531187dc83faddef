/- Walks: the check of a case: the reference. -/
import Derived.Test.YtapoillhgimdiaaQCaseC
import Derived.Test.YtapoillhgimdiaaQData2
import Derived.Deep.RegionHeld3
namespace Go.Proofs.Ytapoillhgimdiaa
open Go.RowKit

theorem read_len {m : Nat} {a : Asn} {cl : List Int} (h : readC m a cl = true) : cl.length = 9 := by
  simp only [readC, shapeC, Bool.and_eq_true, beq_iff_eq] at h
  exact h.1.1
end Go.Proofs.Ytapoillhgimdiaa
