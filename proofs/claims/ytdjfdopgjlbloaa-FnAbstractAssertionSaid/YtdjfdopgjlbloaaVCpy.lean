/- Base2: texts W7, W8, W9, Garb, W10, W11 in one. -/
import Derived.Test.YtdjfdopgjlbloaaVBase1
import Derived.Deep.RegionHeld3
import Derived.Test.YtdjfdopgjlbloaaVDraw1
import Derived.Deep.DeepMust
import Derived.Test.YtdjfdopgjlbloaaVBase3
import Derived.Laws.CopyOwn
/- Walks: ReachCells of the program and of the reference. -/
namespace Go.Proofs.Ytdjfdopgjlbloaa
open Go.RowKit

theorem own_empty (w : World) (B e : Nat) (hB : B ≤ w.heap.size) : (w.alloc (.cells #[] e)).ownsRow B e 1 (.slice (some ⟨w.heap.size, 0, none⟩) 0 0) 0 (ints []) := by
  have := World.ownsRow_lit (size := 1) w #[] 0 hB (by unfold maxLen; omega) rfl (e := e)
  simpa [ints] using this

end Go.Proofs.Ytdjfdopgjlbloaa
/- Walks: AliasTerms of the program and of the reference. -/
namespace Go.Proofs.Ytdjfdopgjlbloaa
open Go.RowKit

end Go.Proofs.Ytdjfdopgjlbloaa
/- Walks: AliasTerms of the reference; UsedCells; CycleCells. -/
namespace Go.Proofs.Ytdjfdopgjlbloaa
open Go.RowKit


end Go.Proofs.Ytdjfdopgjlbloaa
/- Reached cells from several starts; garbage; cycles: in plain Lean. -/
namespace Go.Proofs.Ytdjfdopgjlbloaa

end Go.Proofs.Ytdjfdopgjlbloaa
/- Walks: GarbageCells and CycleCells of the program. -/
namespace Go.Proofs.Ytdjfdopgjlbloaa
open Go.RowKit

end Go.Proofs.Ytdjfdopgjlbloaa
/- Walks: GarbageCells and CycleCells of the reference. -/
namespace Go.Proofs.Ytdjfdopgjlbloaa
open Go.RowKit

theorem flags_form {w : World} {B m : Nat} {v : Value} (h : w.ownsRow B 4 1 v 9 (flagsOf m)) : ∃ g cap, v = .slice (some ⟨g, 0, none⟩) 9 cap := by
  rcases h.2 with ⟨_, h⟩ | ⟨g, cap, _, rfl, _⟩
  · omega
  · exact ⟨g, cap, rfl⟩

/-- A readable list that came in is not in a block of the call's own. -/
theorem RInts.apart {w : World} {v : Value} {l : List Int} (h : RInts w v l) (hl : 0 < l.length) : ∀ k, v.ownBlock = some k → k < w.heap.size := by
  obtain ⟨b, o, cap, rfl, _, _, hc⟩ := h.ne hl
  intro k hk
  simp [Value.ownBlock] at hk
  have := World.block_lt_of_cell? w _ (hc 0 hl)
  simp at this; omega

end Go.Proofs.Ytdjfdopgjlbloaa
/- Draw2: texts Dr3, Dr4, Dr5, Dr6, Dr7 in one. -/
/- Walks: drawing states with lists. -/
namespace Go.Proofs.Ytdjfdopgjlbloaa
open Go.RowKit

section
variable {w0 w w' : World} {g q q' B bA bB : Nat} {v1 v2 : Value} {l1 l2 : List Int}
end

end Go.Proofs.Ytdjfdopgjlbloaa
/- Walks: copies of states in the reference; changed states. -/
namespace Go.Proofs.Ytdjfdopgjlbloaa
open Go.RowKit

theorem news_of {w : World} {b o n c : Nat} {l : List Int} (h : RInts w (.slice (some ⟨b, o, none⟩) n c) l) : ∀ j u, (ints l)[j]? = some u → w.cell? ((⟨b, o, none⟩ : Addr).add j) = some u := by
  intro j u hj
  have hjl : j < l.length := by
    rcases Nat.lt_or_ge j l.length with h | h
    · exact h
    · rw [List.getElem?_eq_none (by simpa [ints] using h)] at hj; cases hj
  have hu : u = .int .i64 (gi l j) := by
    simp [ints, hjl] at hj; rw [gi_of hjl, ← hj]
  have := (h.at j hjl).2
  have e : (⟨b, o, none⟩ : Addr).add j = ⟨b, o + j, none⟩ := by unfold Addr.add; split <;> simp_all
  rw [e, this, hu]

theorem RInts.news {w : World} {b o c : Nat} {l : List Int} (h : RInts w (.slice (some ⟨b, o, none⟩) l.length c) l) : ∀ j u, (ints l)[j]? = some u → w.cell? ((⟨b, o, none⟩ : Addr).add j) = some u := news_of h

end Go.Proofs.Ytdjfdopgjlbloaa
namespace Go.Proofs.Ytdjfdopgjlbloaa
open Go.RowKit
section
variable {w0 w : World} {g q B bA bB : Nat} {v1 v2 : Value} {l1 l2 : List Int}
theorem DrSt.done (h : DrSt w0 w g q B bA bB v1 v2 l1 l2) (hB : bA < B) (hA : w0.heap.size ≤ bA) (hg : g < w0.heap.size) (x y : Value) :
    OwnSt ((w.setCell ⟨bA, 0, none⟩ x).setCell ⟨bA, 1, none⟩ y) B v1 v2 l1 l2 ∧ Rdr ((w.setCell ⟨bA, 0, none⟩ x).setCell ⟨bA, 1, none⟩ y) g q ∧ Fr (fun j => j = g) w0 ((w.setCell ⟨bA, 0, none⟩ x).setCell ⟨bA, 1, none⟩ y) := by
  refine ⟨?_, ?_, ?_⟩
  · exact (h.own.kept (fr_set _ _ _) (fun k h1 _ e => by simp at e; omega)).kept (fr_set _ _ _) (fun k h1 _ e => by simp at e; omega)
  · exact (h.rdr.kept (fr_set _ _ _) (fun k h1 e => by simp at e; omega)).kept (fr_set _ _ _) (fun k h1 e => by simp at e; omega)
  · exact (h.fr.then (fr_set _ _ _) (fun i hi e => by simp at e; omega)).then (fr_set _ _ _) (fun i hi e => by simp at e; omega)
end
end Go.Proofs.Ytdjfdopgjlbloaa
namespace Go.Proofs.Ytdjfdopgjlbloaa
open Go.RowKit

theorem RBytes.keep {w w' : World} {v : Value} {n : Nat} (h : RBytes w v n) (hb : Below w.heap.size w w') : RBytes w' v n := by
  obtain ⟨c, hr, hc⟩ := h
  exact ⟨c, hr.keep hb, hc⟩

end Go.Proofs.Ytdjfdopgjlbloaa
/- Walks: draws that pass others on. -/
namespace Go.Proofs.Ytdjfdopgjlbloaa
open Go.RowKit

end Go.Proofs.Ytdjfdopgjlbloaa
/- Math1: texts DMath, DMath2, DMath3, Sl1, Sl2, Sl3 in one. -/
/- Plain facts on reaching, for the drawn laws. -/
namespace Go.Proofs.Ytdjfdopgjlbloaa

end Go.Proofs.Ytdjfdopgjlbloaa
/- Plain facts on cycles, for the drawn laws. -/
namespace Go.Proofs.Ytdjfdopgjlbloaa

end Go.Proofs.Ytdjfdopgjlbloaa
/- Plain facts on garbage, for the drawn laws. -/
namespace Go.Proofs.Ytdjfdopgjlbloaa

end Go.Proofs.Ytdjfdopgjlbloaa
/- Walks: small helpers of the drawn laws; reading a cell; tests. -/
namespace Go.Proofs.Ytdjfdopgjlbloaa
open Go.RowKit

end Go.Proofs.Ytdjfdopgjlbloaa
/- Walks: tests of facts. -/
namespace Go.Proofs.Ytdjfdopgjlbloaa
open Go.RowKit

theorem bytes_form {w : World} {v : Value} {n : Nat} (h : RBytes w v n) : ∃ a cap, v = .slice a n cap := by
  obtain ⟨_, hr, _⟩ := h
  rcases hr with ⟨a, cap, rfl, h0, _⟩ | ⟨b, o, cap, rfl, _⟩
  · exact ⟨a, cap, by rw [h0]⟩
  · exact ⟨_, cap, rfl⟩

end Go.Proofs.Ytdjfdopgjlbloaa
/- Walks: a walk that never ends. -/
namespace Go.Proofs.Ytdjfdopgjlbloaa
open Go.RowKit

end Go.Proofs.Ytdjfdopgjlbloaa
/- Cpy: texts Cp, Free, Same in one. -/
/- Walks: copies of lists of integers and of states. -/
namespace Go.Proofs.Ytdjfdopgjlbloaa
open Go.RowKit

end Go.Proofs.Ytdjfdopgjlbloaa
/- Walks: FreeCell. -/
namespace Go.Proofs.Ytdjfdopgjlbloaa
open Go.RowKit

theorem box_two {w : World} {b : Nat} {u v : Value} (x y : Value) (h0 : w.cell? ⟨b, 0, none⟩ = some u) (h1 : w.cell? ⟨b, 1, none⟩ = some v) :
    ((w.setCell ⟨b, 0, none⟩ x).setCell ⟨b, 1, none⟩ y).cell? ⟨b, 0, none⟩ = some x ∧ ((w.setCell ⟨b, 0, none⟩ x).setCell ⟨b, 1, none⟩ y).cell? ⟨b, 1, none⟩ = some y := by
  constructor
  · rw [World.cell?_setCell_other _ _ _ _ (by simp), World.cell?_setCell_same _ _ _ h0]
  · exact World.cell?_setCell_same _ _ _ (u := v) (by rw [World.cell?_setCell_other _ _ _ _ (by simp)]; exact h1)

end Go.Proofs.Ytdjfdopgjlbloaa
/- Walks: equal lists and equal states. -/
namespace Go.Proofs.Ytdjfdopgjlbloaa
open Go.RowKit

end Go.Proofs.Ytdjfdopgjlbloaa
