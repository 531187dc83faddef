/- The Lean functions that the small Go functions compute. -/
import Derived.Test.YtnhhfbhhglhocaaVoc
namespace Go.Proofs.Ytnhhfbhhglhocaa

def isAddrB (n : Int) : Bool := decide (1 ≤ n) && decide (n ≤ 8)
def isTermB (n : Int) : Bool := decide (0 ≤ n) && decide (n ≤ 8)
/-- The value of a term. -/
def tv (vs : List Int) (t : Int) : Int := if t = 0 then 0 else gi vs (t - 1).toNat
/-- The content of a cell, or -1. -/
def ct (hs : List Int) (n : Int) : Int := if isAddrB n = true then gi hs (n - 1).toNat else -1
def heapB (n : Int) : Bool := (n == -1) || isTermB n
def validB (vs hs : List Int) : Bool := (vs.length == 8) && ((hs.length == 8) && (vs.all isTermB && hs.all heapB))

theorem isAddrB_iff {n : Int} : isAddrB n = true ↔ 1 ≤ n ∧ n ≤ 8 := by simp [isAddrB]
theorem isTermB_iff {n : Int} : isTermB n = true ↔ 0 ≤ n ∧ n ≤ 8 := by simp [isTermB]
theorem heapB_iff {n : Int} : heapB n = true ↔ -1 ≤ n ∧ n ≤ 8 := by
  simp [heapB, isTermB]; omega

end Go.Proofs.Ytnhhfbhhglhocaa
