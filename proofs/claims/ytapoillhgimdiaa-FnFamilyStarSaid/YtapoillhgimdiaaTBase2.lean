/- Base2: texts W7, W8, W9, Garb, W10, W11 in one. -/
import Derived.Test.YtapoillhgimdiaaTBase1
import Derived.Deep.RegionHeld3
/- Walks: ReachCells of the program and of the reference. -/
namespace Go.Proofs.Ytapoillhgimdiaa
open Go.RowKit

end Go.Proofs.Ytapoillhgimdiaa
/- Walks: AliasTerms of the program and of the reference. -/
namespace Go.Proofs.Ytapoillhgimdiaa
open Go.RowKit

end Go.Proofs.Ytapoillhgimdiaa
/- Walks: AliasTerms of the reference; UsedCells; CycleCells. -/
namespace Go.Proofs.Ytapoillhgimdiaa
open Go.RowKit


end Go.Proofs.Ytapoillhgimdiaa
/- Reached cells from several starts; garbage; cycles: in plain Lean. -/
namespace Go.Proofs.Ytapoillhgimdiaa

end Go.Proofs.Ytapoillhgimdiaa
/- Walks: GarbageCells and CycleCells of the program. -/
namespace Go.Proofs.Ytapoillhgimdiaa
open Go.RowKit

end Go.Proofs.Ytapoillhgimdiaa
/- Walks: GarbageCells and CycleCells of the reference. -/
namespace Go.Proofs.Ytapoillhgimdiaa
open Go.RowKit

theorem flags_form {w : World} {B m : Nat} {v : Value} (h : w.ownsRow B 4 1 v 9 (flagsOf m)) : ∃ g cap, v = .slice (some ⟨g, 0, none⟩) 9 cap := by
  rcases h.2 with ⟨_, h⟩ | ⟨g, cap, _, rfl, _⟩
  · omega
  · exact ⟨g, cap, rfl⟩

/-- A readable list that came in is not in a block of the call's own. -/
theorem RInts.apart {w : World} {v : Value} {l : List Int} (h : RInts w v l) (hl : 0 < l.length) : ∀ k, v.ownBlock = some k → k < w.heap.size := by
  obtain ⟨b, o, cap, rfl, _, _, hc⟩ := h.ne hl
  intro k hk
  simp [Value.ownBlock] at hk
  have := World.block_lt_of_cell? w _ (hc 0 hl)
  simp at this; omega

end Go.Proofs.Ytapoillhgimdiaa
