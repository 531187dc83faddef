/- ImpA: texts Imp, ImpI in one. -/
import Derived.Test.YtapoillhgimdiaaSCsA
import Derived.Test.YtapoillhgimdiaaSSplA
import Derived.Test.YtapoillhgimdiaaSItrB
import Derived.Deep.RegionHeld3
/- The plain law of splitting: the parts of an assertion, and what it implies. -/
namespace Go.Proofs.Ytapoillhgimdiaa
open Go.RowKit

theorem fact_not (g : Int → Int) (f : Fact) : factV g (nF f) = !factV g f := by
  obtain ⟨b, x, y⟩ := f
  show ((g x == g y) == !b) = !((g x == g y) == b)
  cases g x == g y <;> cases b <;> rfl
theorem nF_ok {f : Fact} (hf : factB f = true) : factB (nF f) = true := hf
theorem poss_with {g : Int → Int} {a : Asn} {f : Fact} : PossV g (withF a f) ↔ PossV g a ∧ factV g f = true := by
  constructor
  · intro h
    exact ⟨⟨fun x hx => h.facts x (List.mem_append_left _ hx), h.apart⟩, h.facts f (List.mem_append_right _ List.mem_cons_self)⟩
  · rintro ⟨h1, h2⟩
    refine ⟨fun x hx => ?_, h1.apart⟩
    rcases List.mem_append.1 hx with h | h
    · exact h1.facts x h
    · rw [List.mem_singleton.1 h]; exact h2
theorem asn_with {a : Asn} {f : Fact} (ha : asnB a = true) (hf : factB f = true) (hl : ¬ a.1.length = 12) : asnB (withF a f) = true := by
  simp only [asnB, factsB, Bool.and_eq_true, decide_eq_true_eq, List.all_eq_true] at ha ⊢
  obtain ⟨⟨h1, h2⟩, h3⟩ := ha
  refine ⟨⟨by simp only [withF, List.length_append, List.length_cons, List.length_nil]; omega, fun x hx => ?_⟩, h3⟩
  rcases List.mem_append.1 hx with h | h
  · exact h2 x h
  · rw [List.mem_singleton.1 h]; exact hf
theorem split_ok {a : Asn} {f : Fact} (h : splitOk a f = true) : asnB a = true ∧ factB f = true ∧ ¬ a.1.length = 12 := by
  simp only [splitOk, Bool.and_eq_true, Bool.not_eq_true', decide_eq_false_iff_not] at h
  exact h
end Go.Proofs.Ytapoillhgimdiaa
/- Walks: whether an assertion implies a fact: the program. -/
namespace Go.Proofs.Ytapoillhgimdiaa
open Go Go.RowKit

attribute [local go_sem] Oper.semAt_some
end Go.Proofs.Ytapoillhgimdiaa
