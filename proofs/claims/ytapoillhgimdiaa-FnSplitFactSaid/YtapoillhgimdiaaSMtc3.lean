/- Walks: the matching of atoms in a case: the reference. -/
import Derived.Test.YtapoillhgimdiaaSCsA
import Derived.Test.YtapoillhgimdiaaSCaseC
import Derived.Test.YtapoillhgimdiaaSMtcA
import Derived.Deep.Cut
import Derived.Deep.RegionHeld3
import Derived.Handy
import Derived.Laws.StructEq
namespace Go.Proofs.Ytapoillhgimdiaa
open Go.RowKit

/-- A block of bools that stand for the first n numbers of a set. -/
structure BW (w : World) (g n m : Nat) : Prop where
  lt : g < w.heap.size
  cell : ∀ i, i < n → w.cell? ⟨g, i, none⟩ = some (.bool (m.testBit i))
  fz : ∀ i, i < n → w.frozen? ⟨g, i, none⟩ = false
section
variable {w w' : World} {g n m : Nat} {T : Nat → Prop}
theorem BW.kept (h : BW w g n m) (hf : Fr T w w') (hT : ¬ T g) : BW w' g n m :=
  ⟨Nat.lt_of_lt_of_le h.lt hf.size, fun i hi => hf.cell hT (h.cell i hi), fun i hi => by
    have := h.fz i hi
    rw [← this]
    unfold World.frozen?
    rw [hf.block g h.lt hT]⟩
theorem BW.keep (h : BW w g n m) (hb : Below w.heap.size w w') : BW w' g n m := h.kept (Below.fr hb) fun h => h
theorem BW.set (h : BW w g n m) {i : Nat} (hi : i < n) : BW (w.setCell ⟨g, i, none⟩ (.bool true)) g n (m ||| 2 ^ i) := by
  refine ⟨by rw [World.size_setCell]; exact h.lt, fun j hj => ?_, fun j hj => by rw [World.frozen?_setCell]; exact h.fz j hj⟩
  rw [testBit_or_pow]
  by_cases e : i = j
  · subst e
    rw [World.cell?_setCell_same' _ _ _ (by rw [h.cell i hi]; rfl)]
    simp
  · rw [World.cell?_setCell_other _ _ _ _ (by simp), h.cell j hj]
    simp [e]
end
theorem bw_own {w : World} {B g n c m : Nat} (h : w.ownsRow B 4 1 (.slice (some ⟨g, 0, none⟩) n c) n (boolsN n m)) : BW w g n m := by
  refine ⟨(own_lt h rfl).2, fun i hi => ?_, fun i _ => by simpa using h.frozenAt i⟩
  rcases own_rsl h with ⟨_, _, _, h0, _⟩ | ⟨b, o, cap, e, _, _, hc⟩
  · omega
  · simp only [Value.slice.injEq, Option.some.injEq, Addr.mk.injEq] at e
    obtain ⟨⟨rfl, rfl, _⟩, _⟩ := e
    have := hc i (by omega)
    rw [Nat.zero_add] at this
    rw [this]
    show some ((boolsN n m).getD i undef) = _
    rw [List.getD_eq_getElem?_getD, bools_at hi]; rfl
end Go.Proofs.Ytapoillhgimdiaa
