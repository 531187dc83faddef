/- Walks: ReachCells of the program and of the reference. -/
import Derived.Test.YtnhhfbhhglhocaaW6
namespace Go.Proofs.Ytnhhfbhhglhocaa
open Go.RowKit

/-- What ReachCells returns. -/
def reachL (vl hl : List Int) (from_ : Int) : List Int := if validB vl hl = true ∧ isTermB from_ = true then sel (fun n => (reachF hl 0 from_).testBit n) 1 8 else []

theorem bit0_reach (hs : List Int) (m : Nat) (v : Int) : (reachF hs m v).testBit 0 = m.testBit 0 := by
  refine reach_ind (hs := hs) (fun m _ r => r.testBit 0 = m.testBit 0) (fun _ _ _ => rfl) (fun m v r ha _ ih => ?_) m v
  rw [ih, testBit_or_pow]
  have := al_addr ha
  have : ¬ v.toNat = 0 := by omega
  simp [this]

theorem sel_from0 {p : Nat → Bool} {k : Nat} (h : p 0 = false) : sel p 0 (k + 1) = sel p 1 k := by
  unfold sel
  rw [List.range'_succ, List.filter_cons, if_neg (by simp [h])]

theorem own_empty_at (w : World) (B e g : Nat) (hg : w.heap.size = g) (hB : B ≤ g) : (w.alloc (.cells #[] e)).ownsRow B e 1 (.slice (some ⟨g, 0, none⟩) 0 0) 0 (ints []) := by
  subst hg
  have := World.ownsRow_lit (size := 1) w #[] 0 hB (by unfold maxLen; omega) rfl (e := e)
  simpa [ints] using this

theorem own_empty (w : World) (B e : Nat) (hB : B ≤ w.heap.size) : (w.alloc (.cells #[] e)).ownsRow B e 1 (.slice (some ⟨w.heap.size, 0, none⟩) 0 0) 0 (ints []) := by
  have := World.ownsRow_lit (size := 1) w #[] 0 hB (by unfold maxLen; omega) rfl (e := e)
  simpa [ints] using this

end Go.Proofs.Ytnhhfbhhglhocaa
