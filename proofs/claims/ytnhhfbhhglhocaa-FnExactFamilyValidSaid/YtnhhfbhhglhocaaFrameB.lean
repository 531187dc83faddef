/- Bytes that come in. -/
import Derived.Test.YtnhhfbhhglhocaaFrame
import Derived.Test.YtnhhfbhhglhocaaDr1
namespace Go.Proofs.Ytnhhfbhhglhocaa
open Go.ChangeShapes Go.WideShapes Go.ChangeAt Go.RowKit Go.Joins

/-- A slice of bytes that came in can be read. -/
theorem bytes_of_trod {H : Type} {enc : TypeId × Value → H} {P : Program} {W : World} {t e : TypeId} {fuel : Nat} {v : Value} {y : DataW H × List MemPlace}
    (ht : P.underlying t = some (.slice e)) (he : P.underlying e = some (.int .u8)) (hc : P.cellsOf e = 1) (h : DataW.trod enc P W 0 (fun _ => true) true fuel t [v] = some y) :
    ∃ n, RBytes W v n := by
  rcases open_ints ht he hc h with ⟨hcs, _⟩ | ⟨a, len, cap, zs, hcs, _, hl, hm, hz, _, hcell, hwz⟩
  · simp at hcs; subst hcs; exact ⟨0, fun _ => 0, .inl ⟨none, 0, rfl, rfl, Nat.zero_le _, fun _ => rfl⟩, fun _ => by constructor <;> simp⟩
  · simp at hcs; subst hcs
    simp only [if_true] at hz
    refine ⟨len, fun i => zs.getD i 0, ?_, ?_⟩
    · by_cases h0 : len = 0
      · subst h0
        exact .inl ⟨some a, cap, rfl, rfl, hm, by simp⟩
      · obtain ⟨b, o, sp⟩ := a
        have hc0 := hcell 0 (by omega)
        have hsp : sp = none := by simpa [Addr.add] using World.cell?_spot hc0
        subst hsp
        refine .inr ⟨b, o, cap, rfl, by omega, hm, fun i hi => ?_⟩
        have := hcell i (by omega)
        have e : (⟨b, o, none⟩ : Addr).add i = ⟨b, o + i, none⟩ := by unfold Addr.add; split <;> simp_all
        rw [e] at this
        simpa using this
    · intro i
      have := range_u8 hwz i
      simpa [List.getD_eq_getElem?_getD] using this
end Go.Proofs.Ytnhhfbhhglhocaa
