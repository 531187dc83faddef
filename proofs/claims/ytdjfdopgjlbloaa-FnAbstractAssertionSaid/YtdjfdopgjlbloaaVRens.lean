/- Perms: texts Perm, Perm2, Perm3 in one. -/
import Derived.Test.YtdjfdopgjlbloaaVBase1
import Derived.Test.YtdjfdopgjlbloaaVCpy
import Derived.Test.YtdjfdopgjlbloaaVBase3
import Derived.Test.YtdjfdopgjlbloaaVDraw1
import Derived.Laws.Tables
import Derived.Laws.CopyOwn
/- Names of addresses, in plain Lean: permutations of the numbers from 1 to 8. -/
namespace Go.Proofs.Ytdjfdopgjlbloaa

end Go.Proofs.Ytdjfdopgjlbloaa
/- Names of addresses, in plain Lean: the names back; renamed states are valid; as many cells. -/
namespace Go.Proofs.Ytdjfdopgjlbloaa

end Go.Proofs.Ytdjfdopgjlbloaa
/- Renamed heaps, in plain Lean: contents, allocated cells, how many. -/
namespace Go.Proofs.Ytdjfdopgjlbloaa

end Go.Proofs.Ytdjfdopgjlbloaa
/- Rens: texts Rn1, Rn2, Rn3, Rn4 in one. -/
/- Walks: tables of names. -/
namespace Go.Proofs.Ytdjfdopgjlbloaa
open Go.RowKit

abbrev iarr (l : List Int) : Array Value := (ints l).toArray
theorem iarr_at {w : World} {b : Nat} {T : TypeId} {l : List Int} (h : w.heap[b]? = some (.cells (iarr l) T (0, 0))) (i : Nat) (hi : i < l.length) : w.cell? ⟨b, i, none⟩ = some (.int .i64 (gi l i)) := by
  rw [cell_of_row w b i _ _ _ h]
  simp [ints, hi, gi_of]
theorem iarr_set {w : World} {b : Nat} {T : TypeId} {l : List Int} (h : w.heap[b]? = some (.cells (iarr l) T (0, 0))) (i : Nat) (x : Int) : (w.setCell ⟨b, i, none⟩ (.int .i64 x)).heap[b]? = some (.cells (iarr (l.set i x)) T (0, 0)) := by
  rw [heap_setCell_same w b i _ T _ h]
  congr 2
  simp [ints, List.map_set]

end Go.Proofs.Ytdjfdopgjlbloaa
/- Walks: readNames and the reference's test of names. -/
namespace Go.Proofs.Ytdjfdopgjlbloaa
open Go.RowKit

end Go.Proofs.Ytdjfdopgjlbloaa
/- Walks: renamed states. -/
namespace Go.Proofs.Ytdjfdopgjlbloaa
open Go.RowKit

/-- A state in the making: its two rows of 8; the box of the result at bR, its own at bK. -/
structure RnSt (w0 w : World) (bR bK g1 c1 g2 c2 : Nat) (l1 l2 : List Int) : Prop where
  own : OwnSt w (bR + 1) (.slice (some ⟨g1, 0, none⟩) 8 c1) (.slice (some ⟨g2, 0, none⟩) 8 c2) l1 l2
  len1 : l1.length = 8
  len2 : l2.length = 8
  lt1 : bR < g1
  lt2 : bR < g2
  ne1 : ¬ g1 = bK
  ne2 : ¬ g2 = bK
  low : w0.heap.size ≤ bR
  ltK : bR < bK
  boxR : w.heap[bR]? = some (.cells #[.slice none 0 0, .slice none 0 0] 9999 (0, 0))
  boxK : w.heap[bK]? = some (.cells #[.slice (some ⟨g1, 0, none⟩) 8 c1, .slice (some ⟨g2, 0, none⟩) 8 c2] 9999 (0, 0))
  bel : Below w0.heap.size w0 w

section
variable {w0 w w' : World} {bR bK g1 c1 g2 c2 : Nat} {l1 l2 : List Int}
theorem RnSt.keep (h : RnSt w0 w bR bK g1 c1 g2 c2 l1 l2) (hb : Below w.heap.size w w') : RnSt w0 w' bR bK g1 c1 g2 c2 l1 l2 :=
  ⟨h.own.keep hb, h.len1, h.len2, h.lt1, h.lt2, h.ne1, h.ne2, h.low, h.ltK, box_keep h.boxR hb, box_keep h.boxK hb, bt h.bel hb⟩
theorem RnSt.set2 (h : RnSt w0 w bR bK g1 c1 g2 c2 l1 l2) (i : Nat) (x : Int) : RnSt w0 (w.setCell ⟨g2, i, none⟩ (.int .i64 x)) bR bK g1 c1 g2 c2 l1 (l2.set i x) := by
  have ho := h.own
  have hs : OwnSt (w.setCell ⟨g2, i, none⟩ (.int .i64 x)) (bR + 1) (.slice (some ⟨g1, 0, none⟩) 8 c1) (.slice (some ⟨g2, 0, none⟩) 8 c2) l1 (l2.set i x) := by
    have := OwnSt.set2 (l2 := l2) (cap := c2) (g := g2) (by rw [h.len2]; exact ho) i x
    rwa [h.len2] at this
  have hlo := h.low
  have hlt := h.lt2
  exact ⟨hs, h.len1, by rw [List.length_set, h.len2], h.lt1, h.lt2, h.ne1, h.ne2, h.low, h.ltK, box_other h.boxR _ _ (by simp; omega), box_other h.boxK _ _ (by simp; exact fun e => h.ne2 e.symm), h.bel.setCell (by simp; omega) _⟩
/-- At the return: the state is laid into the result's box. -/
theorem RnSt.done (h : RnSt w0 w bR bK g1 c1 g2 c2 l1 l2) :
    OwnSt ((w.setCell ⟨bR, 0, none⟩ (.slice (some ⟨g1, 0, none⟩) 8 c1)).setCell ⟨bR, 1, none⟩ (.slice (some ⟨g2, 0, none⟩) 8 c2)) w0.heap.size (.slice (some ⟨g1, 0, none⟩) 8 c1) (.slice (some ⟨g2, 0, none⟩) 8 c2) l1 l2 ∧
    Below w0.heap.size w0 ((w.setCell ⟨bR, 0, none⟩ (.slice (some ⟨g1, 0, none⟩) 8 c1)).setCell ⟨bR, 1, none⟩ (.slice (some ⟨g2, 0, none⟩) 8 c2)) := by
  have hlo := h.low
  exact ⟨((h.own.kept (fr_set _ _ _) (fun j h1 _ e => by simp at e; omega)).kept (fr_set _ _ _) (fun j h1 _ e => by simp at e; omega)).mono (by omega), (h.bel.setCell (by simp; omega) _).setCell (by simp; omega) _⟩
end

end Go.Proofs.Ytdjfdopgjlbloaa
/- Walks: renameState, and the reference's. -/
namespace Go.Proofs.Ytdjfdopgjlbloaa
open Go.RowKit

end Go.Proofs.Ytdjfdopgjlbloaa
