/- From the form of the claim to the vocabulary of the walks: arguments that come in. -/
import Derived.Test.YtnhhfbhhglhocaaVoc
import Derived.Test.YtnhhfbhhglhocaaRows
import Derived.ProofKit
import Derived.OpenShut
import Derived.ShutString
import Derived.ChangeOld
import Derived.Lib.SmallJoins
namespace Go.Proofs.Ytnhhfbhhglhocaa
open Go.ChangeShapes Go.WideShapes Go.ChangeAt Go.RowKit Go.Joins

theorem own_knob : ownKnob Try.prog.godebug = none := by kernel_rfl
theorem laid_out : laidOutB Try.prog = true := by kernel_rfl

/-- A slice of integers that came in can be read. -/
theorem ints_of_trod {H : Type} {enc : TypeId × Value → H} {P : Program} {W : World} {t e : TypeId} {fuel : Nat} {v : Value} {y : DataW H × List MemPlace}
    (ht : P.underlying t = some (.slice e)) (he : P.underlying e = some (.int .i64)) (hc : P.cellsOf e = 1) (h : DataW.trod enc P W 0 (fun _ => true) true fuel t [v] = some y) :
    ∃ l, RInts W v l ∧ Fits l := by
  rcases open_ints ht he hc h with ⟨hcs, _⟩ | ⟨a, len, cap, zs, hcs, _, hl, hm, hz, _, hcell, hwz⟩
  · simp at hcs; subst hcs; exact ⟨[], RInts.nil _, fun _ h => by cases h⟩
  · simp at hcs; subst hcs
    simp only [if_true] at hz
    refine ⟨zs.take len, ?_, ?_⟩
    · by_cases h0 : len = 0
      · subst h0
        exact .inl ⟨some a, cap, rfl, by simp, hm, by simp⟩
      · obtain ⟨b, o, sp⟩ := a
        have hc0 := hcell 0 (by omega)
        have hsp : sp = none := by simpa [Addr.add] using World.cell?_spot hc0
        subst hsp
        have hlen : (zs.take len).length = len := by rw [List.length_take]; omega
        refine .inr ⟨b, o, cap, by rw [hlen], by omega, hm, fun i hi => ?_⟩
        have hi' : i < len := by omega
        have := hcell i (by omega)
        have e : (⟨b, o, none⟩ : Addr).add i = ⟨b, o + i, none⟩ := by unfold Addr.add; split <;> simp_all
        rw [e] at this
        rw [this]
        simp [gi, hi']
    · intro n hn
      have := hwz n (List.mem_of_mem_take hn)
      exact bounds_i64 this

end Go.Proofs.Ytnhhfbhhglhocaa
