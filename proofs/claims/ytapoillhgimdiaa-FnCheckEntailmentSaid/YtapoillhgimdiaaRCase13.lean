/- Walks: the check of a case: the reference. -/
import Derived.Test.YtapoillhgimdiaaRCaseC
import Derived.Test.YtapoillhgimdiaaRData2
import Derived.Deep.RegionHeld3
namespace Go.Proofs.Ytapoillhgimdiaa
open Go.RowKit

theorem checkC_spec {a b : Asn} {p : CPf} (ha : asnB a = true) (hb : asnB b = true) (hr : readC (termsM b) a p.1 = true) :
    checkC a b p = (b.1.all (fitsF p.1) && (decide (p.2.length = (filledL p.1 b.2).length) && fullO (filledL p.1 a.2).length (checkO (filledL p.1 a.2) (filledL p.1 b.2) p.2 0))) := by
  rw [checkC, ha, hb, hr, facts_eq hb hr]; rfl
theorem read_len {m : Nat} {a : Asn} {cl : List Int} (h : readC m a cl = true) : cl.length = 9 := by
  simp only [readC, shapeC, Bool.and_eq_true, beq_iff_eq] at h
  exact h.1.1
end Go.Proofs.Ytapoillhgimdiaa
