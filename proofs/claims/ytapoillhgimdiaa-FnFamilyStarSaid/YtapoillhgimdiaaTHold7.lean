/- Shs1: texts Sh1, Sh2 in one. -/
import Derived.Test.YtapoillhgimdiaaTInv
import Derived.Test.YtapoillhgimdiaaTCpy
import Derived.Deep.MidRow
import Derived.Test.YtapoillhgimdiaaTHold6
/- Walks: the program's search for names: fits. -/
namespace Go.Proofs.Ytapoillhgimdiaa
open Go.RowKit

section
variable {w : World} {g t : Nat} {T : TypeId} {v1 v2 u1 u2 : Value} {tl : List Int}
end

end Go.Proofs.Ytapoillhgimdiaa
/- Walks: the program's search for names: from; SameShape. -/
namespace Go.Proofs.Ytapoillhgimdiaa
open Go.RowKit

end Go.Proofs.Ytapoillhgimdiaa
/- Shs2: texts Sh3, Sh4, Sh5 in one. -/
/- Walks: the reference's search by pairs: the next pairs; pairs without repetitions. -/
namespace Go.Proofs.Ytapoillhgimdiaa
open Go.RowKit

end Go.Proofs.Ytapoillhgimdiaa
/- Walks: the reference's used cells; its search by pairs. -/
namespace Go.Proofs.Ytapoillhgimdiaa
open Go.RowKit

end Go.Proofs.Ytapoillhgimdiaa
/- Walk: the reference's SameShape. -/
namespace Go.Proofs.Ytapoillhgimdiaa
open Go.RowKit

end Go.Proofs.Ytapoillhgimdiaa
/- Walks: the part of a state that an assertion describes: the reference; counts of cells. -/
namespace Go.Proofs.Ytapoillhgimdiaa
open Go.RowKit

theorem addsC_bits {hs : List Int} : ∀ (l : List Int) (m r : Nat), (∀ n ∈ l, alB hs n = true) → addsC m l = some r → (∀ j, m.testBit j = true → alB hs (j : Int) = true) → ∀ j, r.testBit j = true → alB hs (j : Int) = true
  | [], m, r, _, h, hm => by simp [addsC] at h; subst h; exact hm
  | n :: l, m, r, ha, h, hm => by
    unfold addsC at h
    split at h
    · simp at h
    · refine addsC_bits l _ r (fun n hn => ha n (List.mem_cons_of_mem _ hn)) h fun j hj => ?_
      rw [testBit_or_pow, Bool.or_eq_true, decide_eq_true_eq] at hj
      rcases hj with hj | rfl
      · exact hm j hj
      · have := ha n List.mem_cons_self
        have := al_addr this
        rw [show ((n.toNat : Nat) : Int) = n by omega]; assumption
theorem partP_bits {vl hs : List Int} (hv : validB vl hs = true) : ∀ (l : List Atom) (m r : Nat), l.all atomB = true → partP vl hs m l = some r → (∀ j, m.testBit j = true → alB hs (j : Int) = true) → ∀ j, r.testBit j = true → alB hs (j : Int) = true
  | [], m, r, _, h, hm => by simp [partP] at h; subst h; exact hm
  | x :: l, m, r, ha, h, hm => by
    rw [List.all_cons, Bool.and_eq_true] at ha
    unfold partP at h
    split at h
    · rename_i hc
      cases hq : addsC m (cellsL vl hs x) with
      | none => rw [hq] at h; simp at h
      | some m' =>
        rw [hq] at h
        exact partP_bits hv l m' r ha.2 h (addsC_bits _ _ _ (cells_mem hv ha.1 hc) hq hm)
    · simp at h
theorem partO_some {vl hs : List Int} {a : Asn} {m : Nat} (h : partO vl hs a = some m) : validB vl hs = true ∧ asnB a = true ∧ a.1.all (factT vl) = true ∧ partP vl hs 0 a.2 = some m := by
  unfold partO at h
  split at h
  · rename_i hc
    simp only [Bool.and_eq_true] at hc
    exact ⟨hc.1, hc.2.1, hc.2.2, h⟩
  · simp at h
theorem partO_bits {vl hs : List Int} {a : Asn} {m : Nat} (h : partO vl hs a = some m) : ∀ j, m.testBit j = true → alB hs (j : Int) = true := by
  obtain ⟨hv, ha, _, hp⟩ := partO_some h
  simp only [asnB, Bool.and_eq_true] at ha
  exact partP_bits hv _ _ _ ha.2.2 hp fun j hj => by simp at hj
/-- An assertion holds in a state. -/
def holdsB (vl hs : List Int) (a : Asn) : Bool := match partO vl hs a with | some m => m == usedN hs 8 | none => false
theorem holds_none {vl hs : List Int} {a : Asn} (h : partO vl hs a = none) : holdsB vl hs a = false := by rw [holdsB, h]
theorem holds_some {vl hs : List Int} {a : Asn} {m : Nat} (h : partO vl hs a = some m) : holdsB vl hs a = (m == usedN hs 8) := by rw [holdsB, h]
theorem own9 (w : World) (B : Nat) (hB : B ≤ w.heap.size) :
    (w.alloc (.cells #[.bool false, .bool false, .bool false, .bool false, .bool false, .bool false, .bool false, .bool false, .bool false] 4)).ownsRow B 4 1 (.slice (some ⟨w.heap.size, 0, none⟩) 9 9) 9 (flagsOf 0) :=
  World.ownsRow_lit (size := 1) w _ 9 hB (by unfold maxLen; omega) rfl
end Go.Proofs.Ytapoillhgimdiaa
