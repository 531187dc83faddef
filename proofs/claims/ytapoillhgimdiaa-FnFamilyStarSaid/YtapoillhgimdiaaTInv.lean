/- Walks: the way from an address to another one: the reference. -/
import Derived.Test.YtapoillhgimdiaaTHold2
import Derived.Test.YtapoillhgimdiaaTRens
import Derived.Test.YtapoillhgimdiaaTBase2
import Derived.Deep.WholeRow
import Derived.Test.YtapoillhgimdiaaTMath1
import Derived.Deep.RegionHeld3
import Derived.Deep.MidRow
namespace Go.Proofs.Ytapoillhgimdiaa
open Go.RowKit

end Go.Proofs.Ytapoillhgimdiaa
/- Rens2: texts Rn5, Rn6 in one. -/
/- Walks: the reference's names and renamed states. -/
namespace Go.Proofs.Ytapoillhgimdiaa
open Go.RowKit

end Go.Proofs.Ytapoillhgimdiaa
/- Walks: RenameState, and the reference's. -/
namespace Go.Proofs.Ytapoillhgimdiaa
open Go.RowKit

end Go.Proofs.Ytapoillhgimdiaa
/- Cans: texts Canon, Can1, Can2 in one. -/
/- The order in which addresses are met, in plain Lean; canonical forms. -/
namespace Go.Proofs.Ytapoillhgimdiaa

end Go.Proofs.Ytapoillhgimdiaa
/- Walks: follow: names in the order in which addresses are met. -/
namespace Go.Proofs.Ytapoillhgimdiaa
open Go.RowKit

end Go.Proofs.Ytapoillhgimdiaa
/- Walks: the program's CanonState. -/
namespace Go.Proofs.Ytapoillhgimdiaa
open Go.RowKit

end Go.Proofs.Ytapoillhgimdiaa
/- Shapes: texts Shape, Shape2, Shape3, Shape4 in one. -/
/- Shapes, in plain Lean: the program's search. -/
namespace Go.Proofs.Ytapoillhgimdiaa

end Go.Proofs.Ytapoillhgimdiaa
/- Shapes, in plain Lean: the reference's search by pairs. -/
namespace Go.Proofs.Ytapoillhgimdiaa

abbrev Prs := List (Int × Int)
/-- Pairs that are a partial bijection of addresses. -/
structure PI (ps : Prs) : Prop where
  adr : ∀ q ∈ ps, (1 ≤ q.1 ∧ q.1 ≤ 8) ∧ (1 ≤ q.2 ∧ q.2 ≤ 8)
  bij : ∀ q ∈ ps, ∀ r ∈ ps, (q.1 = r.1 ↔ q.2 = r.2)
def Cp (p : List Int) (ps : Prs) : Prop := ∀ q ∈ ps, nm p q.1 = q.2

theorem PI.nil : PI [] := ⟨(fun _ h => by cases h), (fun _ h => by cases h)⟩
theorem PI.snoc {ps : Prs} (h : PI ps) {x y : Int} (hx : 1 ≤ x ∧ x ≤ 8) (hy : 1 ≤ y ∧ y ≤ 8) (hn : ∀ q ∈ ps, (q.1 = x ↔ q.2 = y)) : PI (ps ++ [(x, y)]) := by
  refine ⟨fun q hq => ?_, fun q hq r hr => ?_⟩
  · rcases List.mem_append.1 hq with hq | hq
    · exact h.adr q hq
    · simp at hq; subst hq; exact ⟨hx, hy⟩
  · rcases List.mem_append.1 hq with hq | hq <;> rcases List.mem_append.1 hr with hr | hr
    · exact h.bij q hq r hr
    · simp at hr; subst hr; exact hn q hq
    · simp at hq; subst hq
      have := hn r hr
      exact ⟨fun e => (this.1 e.symm).symm, fun e => (this.2 e.symm).symm⟩
    · simp at hq hr; subst hq; subst hr; simp
theorem Cp.snoc {p : List Int} {ps : Prs} (h : Cp p ps) {x y : Int} (e : nm p x = y) : Cp p (ps ++ [(x, y)]) := by
  intro q hq
  rcases List.mem_append.1 hq with hq | hq
  · exact h q hq
  · simp at hq; subst hq; exact e
theorem PI.nd {ps : Prs} (hi : PI ps) : ∀ {qs : Prs}, (∀ q ∈ qs, q ∈ ps) → (qs.map (·.1)).Nodup → (qs.map (·.2)).Nodup
  | [], _, _ => by simp
  | q :: qs, hs, hn => by
    rw [List.map_cons, List.nodup_cons] at hn ⊢
    refine ⟨fun hm => ?_, hi.nd (fun r hr => hs r (List.mem_cons_of_mem _ hr)) hn.2⟩
    obtain ⟨r, hr, e⟩ := List.mem_map.1 hm
    exact hn.1 (List.mem_map.2 ⟨r, hr, ((hi.bij r (hs r (List.mem_cons_of_mem _ hr)) q (hs q List.mem_cons_self)).2 e)⟩)

end Go.Proofs.Ytapoillhgimdiaa
/- Shapes, in plain Lean: the reference's search finds what the program's finds. -/
namespace Go.Proofs.Ytapoillhgimdiaa

end Go.Proofs.Ytapoillhgimdiaa
/- Shapes, in plain Lean: both searches agree; equivalence; canonical forms. -/
namespace Go.Proofs.Ytapoillhgimdiaa

end Go.Proofs.Ytapoillhgimdiaa
/- States of one shape have the same aliases and as many used, lost and cyclic cells, in plain Lean. -/
namespace Go.Proofs.Ytapoillhgimdiaa

section
variable {vl hl p : List Int}
end
end Go.Proofs.Ytapoillhgimdiaa
