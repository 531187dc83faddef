/- ItrB: texts Itr3, Itr4 in one. -/
import Derived.Test.YtapoillhgimdiaaQItrA
import Derived.Test.YtapoillhgimdiaaQMtcA
import Derived.Test.YtapoillhgimdiaaQCsA
/- Walks: the first case; the first case in which an entailment fails; consistency, entailment: the program. -/
namespace Go.Proofs.Ytapoillhgimdiaa
open Go Go.RowKit

attribute [local go_sem] Oper.semAt_some
theorem cases_len {M : Nat} {a : Asn} {cl : List Int} (h : cl ∈ casesL M a) : cl.length = 9 := by
  have := (mem_cases.1 h).1
  rw [shapeC, Bool.and_eq_true, beq_iff_eq] at this
  exact this.1
theorem cells9 {W : World} {g : Nat} {T : TypeId} {a0 a1 a2 a3 a4 a5 a6 a7 a8 : Value} (h : W.heap[g]? = some (.cells #[a0, a1, a2, a3, a4, a5, a6, a7, a8] T (0, 0))) :
    (W.cell? ⟨g, 0, none⟩ = some a0 ∧ W.cell? ⟨g, 1, none⟩ = some a1 ∧ W.cell? ⟨g, 2, none⟩ = some a2 ∧ W.cell? ⟨g, 3, none⟩ = some a3 ∧ W.cell? ⟨g, 4, none⟩ = some a4 ∧ W.cell? ⟨g, 5, none⟩ = some a5 ∧ W.cell? ⟨g, 6, none⟩ = some a6 ∧ W.cell? ⟨g, 7, none⟩ = some a7 ∧ W.cell? ⟨g, 8, none⟩ = some a8) ∧ ∀ i, W.frozen? ⟨g, i, none⟩ = false :=
  ⟨⟨cell_of_row _ _ 0 _ _ _ h, cell_of_row _ _ 1 _ _ _ h, cell_of_row _ _ 2 _ _ _ h, cell_of_row _ _ 3 _ _ _ h, cell_of_row _ _ 4 _ _ _ h, cell_of_row _ _ 5 _ _ _ h, cell_of_row _ _ 6 _ _ _ h, cell_of_row _ _ 7 _ _ _ h, cell_of_row _ _ 8 _ _ _ h⟩, fun i => frozen_of_row _ _ i _ _ h⟩
end Go.Proofs.Ytapoillhgimdiaa
/- Walks: consistency, entailment: the program. -/
namespace Go.Proofs.Ytapoillhgimdiaa
open Go Go.RowKit

end Go.Proofs.Ytapoillhgimdiaa
