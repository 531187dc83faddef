/- Perms: texts Perm, Perm2, Perm3 in one. -/
import Derived.Test.YtdjfdopgjlbloaaGreatDoorWBase1
import Derived.Test.YtdjfdopgjlbloaaGreatDoorWMath1
import Derived.Test.YtdjfdopgjlbloaaGreatDoorWBase3
import Derived.Test.YtdjfdopgjlbloaaGreatDoorWDraw1
import Derived.Laws.CopyOwn
import Derived.Deep.RegionHeld3
import Derived.Laws.Tables
/- Names of addresses, in plain Lean: permutations of the numbers from 1 to 8. -/
namespace Go.Proofs.YtdjfdopgjlbloaaGreatDoor

end Go.Proofs.YtdjfdopgjlbloaaGreatDoor
/- Names of addresses, in plain Lean: the names back; renamed states are valid; as many cells. -/
namespace Go.Proofs.YtdjfdopgjlbloaaGreatDoor

end Go.Proofs.YtdjfdopgjlbloaaGreatDoor
/- Renamed heaps, in plain Lean: contents, allocated cells, how many. -/
namespace Go.Proofs.YtdjfdopgjlbloaaGreatDoor

end Go.Proofs.YtdjfdopgjlbloaaGreatDoor
/- Cpy: texts Cp, Free, Same in one. -/
/- Walks: copies of lists of integers and of states. -/
namespace Go.Proofs.YtdjfdopgjlbloaaGreatDoor
open Go.RowKit

theorem own_of_row {w : World} {B e g n : Nat} {l : List Int} (hB : B ≤ g) (hn : n = l.length) (hm : n ≤ maxLen) (h : w.heap[g]? = some (.cells (ints l).toArray e (0, 0))) : w.ownsRow B e 1 (.slice (some ⟨g, 0, none⟩) n n) n (ints l) := by
  subst hn
  exact ⟨by simp [ints], .inr ⟨g, l.length, (ints l).toArray, rfl, hB, h, Nat.le_refl _, hm, by simp [ints], by rw [List.take_of_length_le (by simp [ints])]⟩⟩
end Go.Proofs.YtdjfdopgjlbloaaGreatDoor
/- Walks: FreeCell. -/
namespace Go.Proofs.YtdjfdopgjlbloaaGreatDoor
open Go.RowKit

theorem box_two {w : World} {b : Nat} {u v : Value} (x y : Value) (h0 : w.cell? ⟨b, 0, none⟩ = some u) (h1 : w.cell? ⟨b, 1, none⟩ = some v) :
    ((w.setCell ⟨b, 0, none⟩ x).setCell ⟨b, 1, none⟩ y).cell? ⟨b, 0, none⟩ = some x ∧ ((w.setCell ⟨b, 0, none⟩ x).setCell ⟨b, 1, none⟩ y).cell? ⟨b, 1, none⟩ = some y := by
  constructor
  · rw [World.cell?_setCell_other _ _ _ _ (by simp), World.cell?_setCell_same _ _ _ h0]
  · exact World.cell?_setCell_same _ _ _ (u := v) (by rw [World.cell?_setCell_other _ _ _ _ (by simp)]; exact h1)

end Go.Proofs.YtdjfdopgjlbloaaGreatDoor
/- Walks: equal lists and equal states. -/
namespace Go.Proofs.YtdjfdopgjlbloaaGreatDoor
open Go.RowKit

end Go.Proofs.YtdjfdopgjlbloaaGreatDoor
/- Rens: texts Rn1, Rn2, Rn3, Rn4 in one. -/
/- Walks: tables of names. -/
namespace Go.Proofs.YtdjfdopgjlbloaaGreatDoor
open Go.RowKit

abbrev iarr (l : List Int) : Array Value := (ints l).toArray
end Go.Proofs.YtdjfdopgjlbloaaGreatDoor
/- Walks: readNames and the reference's test of names. -/
namespace Go.Proofs.YtdjfdopgjlbloaaGreatDoor
open Go.RowKit

end Go.Proofs.YtdjfdopgjlbloaaGreatDoor
/- Walks: renamed states. -/
namespace Go.Proofs.YtdjfdopgjlbloaaGreatDoor
open Go.RowKit

/-- A state in the making: its two rows of 8; the box of the result at bR, its own at bK. -/
structure RnSt (w0 w : World) (bR bK g1 c1 g2 c2 : Nat) (l1 l2 : List Int) : Prop where
  own : OwnSt w (bR + 1) (.slice (some ⟨g1, 0, none⟩) 8 c1) (.slice (some ⟨g2, 0, none⟩) 8 c2) l1 l2
  len1 : l1.length = 8
  len2 : l2.length = 8
  lt1 : bR < g1
  lt2 : bR < g2
  ne1 : ¬ g1 = bK
  ne2 : ¬ g2 = bK
  low : w0.heap.size ≤ bR
  ltK : bR < bK
  boxR : w.heap[bR]? = some (.cells #[.slice none 0 0, .slice none 0 0] 9999 (0, 0))
  boxK : w.heap[bK]? = some (.cells #[.slice (some ⟨g1, 0, none⟩) 8 c1, .slice (some ⟨g2, 0, none⟩) 8 c2] 9999 (0, 0))
  bel : Below w0.heap.size w0 w

section
variable {w0 w w' : World} {bR bK g1 c1 g2 c2 : Nat} {l1 l2 : List Int}
theorem RnSt.keep (h : RnSt w0 w bR bK g1 c1 g2 c2 l1 l2) (hb : Below w.heap.size w w') : RnSt w0 w' bR bK g1 c1 g2 c2 l1 l2 :=
  ⟨h.own.keep hb, h.len1, h.len2, h.lt1, h.lt2, h.ne1, h.ne2, h.low, h.ltK, box_keep h.boxR hb, box_keep h.boxK hb, bt h.bel hb⟩
theorem RnSt.set2 (h : RnSt w0 w bR bK g1 c1 g2 c2 l1 l2) (i : Nat) (x : Int) : RnSt w0 (w.setCell ⟨g2, i, none⟩ (.int .i64 x)) bR bK g1 c1 g2 c2 l1 (l2.set i x) := by
  have ho := h.own
  have hs : OwnSt (w.setCell ⟨g2, i, none⟩ (.int .i64 x)) (bR + 1) (.slice (some ⟨g1, 0, none⟩) 8 c1) (.slice (some ⟨g2, 0, none⟩) 8 c2) l1 (l2.set i x) := by
    have := OwnSt.set2 (l2 := l2) (cap := c2) (g := g2) (by rw [h.len2]; exact ho) i x
    rwa [h.len2] at this
  have hlo := h.low
  have hlt := h.lt2
  exact ⟨hs, h.len1, by rw [List.length_set, h.len2], h.lt1, h.lt2, h.ne1, h.ne2, h.low, h.ltK, box_other h.boxR _ _ (by simp; omega), box_other h.boxK _ _ (by simp; exact fun e => h.ne2 e.symm), h.bel.setCell (by simp; omega) _⟩
/-- At the return: the state is laid into the result's box. -/
theorem RnSt.done (h : RnSt w0 w bR bK g1 c1 g2 c2 l1 l2) :
    OwnSt ((w.setCell ⟨bR, 0, none⟩ (.slice (some ⟨g1, 0, none⟩) 8 c1)).setCell ⟨bR, 1, none⟩ (.slice (some ⟨g2, 0, none⟩) 8 c2)) w0.heap.size (.slice (some ⟨g1, 0, none⟩) 8 c1) (.slice (some ⟨g2, 0, none⟩) 8 c2) l1 l2 ∧
    Below w0.heap.size w0 ((w.setCell ⟨bR, 0, none⟩ (.slice (some ⟨g1, 0, none⟩) 8 c1)).setCell ⟨bR, 1, none⟩ (.slice (some ⟨g2, 0, none⟩) 8 c2)) := by
  have hlo := h.low
  exact ⟨((h.own.kept (fr_set _ _ _) (fun j h1 _ e => by simp at e; omega)).kept (fr_set _ _ _) (fun j h1 _ e => by simp at e; omega)).mono (by omega), (h.bel.setCell (by simp; omega) _).setCell (by simp; omega) _⟩
end

end Go.Proofs.YtdjfdopgjlbloaaGreatDoor
/- Walks: renameState, and the reference's. -/
namespace Go.Proofs.YtdjfdopgjlbloaaGreatDoor
open Go.RowKit

end Go.Proofs.YtdjfdopgjlbloaaGreatDoor
