/- Base2: texts W7, W8, W9, Garb, W10, W11 in one. -/
import Derived.Test.YtgfnoinkajfndaaGreatABase1
import Derived.Deep.RegionHeld3
/- Walks: ReachCells of the program and of the reference. -/
namespace Go.Proofs.YtgfnoinkajfndaaGreat
open Go.RowKit

theorem own_empty_at (w : World) (B e g : Nat) (hg : w.heap.size = g) (hB : B ≤ g) : (w.alloc (.cells #[] e)).ownsRow B e 1 (.slice (some ⟨g, 0, none⟩) 0 0) 0 (ints []) := by
  subst hg
  have := World.ownsRow_lit (size := 1) w #[] 0 hB (by unfold maxLen; omega) rfl (e := e)
  simpa [ints] using this

end Go.Proofs.YtgfnoinkajfndaaGreat
/- Walks: AliasTerms of the program and of the reference. -/
namespace Go.Proofs.YtgfnoinkajfndaaGreat
open Go.RowKit

end Go.Proofs.YtgfnoinkajfndaaGreat
/- Walks: AliasTerms of the reference; UsedCells; CycleCells. -/
namespace Go.Proofs.YtgfnoinkajfndaaGreat
open Go.RowKit


end Go.Proofs.YtgfnoinkajfndaaGreat
/- Reached cells from several starts; garbage; cycles: in plain Lean. -/
namespace Go.Proofs.YtgfnoinkajfndaaGreat

end Go.Proofs.YtgfnoinkajfndaaGreat
/- Walks: GarbageCells and CycleCells of the program. -/
namespace Go.Proofs.YtgfnoinkajfndaaGreat
open Go.RowKit

end Go.Proofs.YtgfnoinkajfndaaGreat
/- Walks: GarbageCells and CycleCells of the reference. -/
namespace Go.Proofs.YtgfnoinkajfndaaGreat
open Go.RowKit

/-- A readable list that came in is not in a block of the call's own. -/
theorem RInts.apart {w : World} {v : Value} {l : List Int} (h : RInts w v l) (hl : 0 < l.length) : ∀ k, v.ownBlock = some k → k < w.heap.size := by
  obtain ⟨b, o, cap, rfl, _, _, hc⟩ := h.ne hl
  intro k hk
  simp [Value.ownBlock] at hk
  have := World.block_lt_of_cell? w _ (hc 0 hl)
  simp at this; omega

end Go.Proofs.YtgfnoinkajfndaaGreat
