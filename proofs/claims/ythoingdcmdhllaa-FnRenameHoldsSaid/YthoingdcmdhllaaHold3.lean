/- Walks: the way from an address to another one: the reference. -/
import Derived.Test.YthoingdcmdhllaaHold2
namespace Go.Proofs.Ythoingdcmdhllaa
open Go.RowKit

theorem ct_at {hs : List Int} {n : Nat} (h : n < 8) : ct hs ((n : Int) + 1) = gi hs n := by
  have : isAddrB ((n : Int) + 1) = true := by simp [isAddrB]; omega
  rw [ct, if_pos this, show ((n : Int) + 1 - 1).toNat = n by omega]
end Go.Proofs.Ythoingdcmdhllaa
