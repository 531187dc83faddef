/- Walks: the part of a state that an assertion describes: the reference; counts of cells. -/
import Derived.Test.YthoingdcmdhllaaHold6
import Derived.Test.YthoingdcmdhllaaShs2
namespace Go.Proofs.Ythoingdcmdhllaa
open Go.RowKit

theorem addsC_bits {hs : List Int} : ∀ (l : List Int) (m r : Nat), (∀ n ∈ l, alB hs n = true) → addsC m l = some r → (∀ j, m.testBit j = true → alB hs (j : Int) = true) → ∀ j, r.testBit j = true → alB hs (j : Int) = true
  | [], m, r, _, h, hm => by simp [addsC] at h; subst h; exact hm
  | n :: l, m, r, ha, h, hm => by
    unfold addsC at h
    split at h
    · simp at h
    · refine addsC_bits l _ r (fun n hn => ha n (List.mem_cons_of_mem _ hn)) h fun j hj => ?_
      rw [testBit_or_pow, Bool.or_eq_true, decide_eq_true_eq] at hj
      rcases hj with hj | rfl
      · exact hm j hj
      · have := ha n List.mem_cons_self
        have := al_addr this
        rw [show ((n.toNat : Nat) : Int) = n by omega]; assumption
theorem partP_bits {vl hs : List Int} (hv : validB vl hs = true) : ∀ (l : List Atom) (m r : Nat), l.all atomB = true → partP vl hs m l = some r → (∀ j, m.testBit j = true → alB hs (j : Int) = true) → ∀ j, r.testBit j = true → alB hs (j : Int) = true
  | [], m, r, _, h, hm => by simp [partP] at h; subst h; exact hm
  | x :: l, m, r, ha, h, hm => by
    rw [List.all_cons, Bool.and_eq_true] at ha
    unfold partP at h
    split at h
    · rename_i hc
      cases hq : addsC m (cellsL vl hs x) with
      | none => rw [hq] at h; simp at h
      | some m' =>
        rw [hq] at h
        exact partP_bits hv l m' r ha.2 h (addsC_bits _ _ _ (cells_mem hv ha.1 hc) hq hm)
    · simp at h
theorem partO_some {vl hs : List Int} {a : Asn} {m : Nat} (h : partO vl hs a = some m) : validB vl hs = true ∧ asnB a = true ∧ a.1.all (factT vl) = true ∧ partP vl hs 0 a.2 = some m := by
  unfold partO at h
  split at h
  · rename_i hc
    simp only [Bool.and_eq_true] at hc
    exact ⟨hc.1, hc.2.1, hc.2.2, h⟩
  · simp at h
theorem partO_bits {vl hs : List Int} {a : Asn} {m : Nat} (h : partO vl hs a = some m) : ∀ j, m.testBit j = true → alB hs (j : Int) = true := by
  obtain ⟨hv, ha, _, hp⟩ := partO_some h
  simp only [asnB, Bool.and_eq_true] at ha
  exact partP_bits hv _ _ _ ha.2.2 hp fun j hj => by simp at hj
/-- An assertion holds in a state. -/
def holdsB (vl hs : List Int) (a : Asn) : Bool := match partO vl hs a with | some m => m == usedN hs 8 | none => false
theorem sub_filter {p q : Nat → Bool} : ∀ l : List Nat, (∀ x ∈ l, p x = true → q x = true) → (l.filter p).length ≤ (l.filter q).length ∧ ((l.filter p).length = (l.filter q).length → ∀ x ∈ l, p x = q x)
  | [], _ => by simp
  | x :: l, h => by
    have ih := sub_filter l fun y hy => h y (List.mem_cons_of_mem _ hy)
    have hx := h x List.mem_cons_self
    rw [List.filter_cons, List.filter_cons]
    cases hp : p x with
    | true =>
      rw [hp] at hx
      have hq := hx rfl
      rw [hq]
      simp only [if_true, List.length_cons]
      refine ⟨by omega, fun he y hy => ?_⟩
      rcases List.mem_cons.1 hy with rfl | hy
      · rw [hp, hq]
      · exact ih.2 (by omega) y hy
    | false =>
      cases hq : q x with
      | true =>
        simp only [if_true, List.length_cons, Bool.false_eq_true, if_false]
        exact ⟨by omega, fun he => by omega⟩
      | false =>
        simp only [Bool.false_eq_true, if_false]
        refine ⟨ih.1, fun he y hy => ?_⟩
        rcases List.mem_cons.1 hy with rfl | hy
        · rw [hp, hq]
        · exact ih.2 he y hy
theorem used_set {hs : List Int} {m : Nat} (h : ∀ j, m.testBit j = true → alB hs (j : Int) = true) :
    ((sel (fun n => m.testBit n) 0 9).length = (usedA' hs).length) ↔ m = usedN hs 8 := by
  have h0 : m.testBit 0 = false := by
    cases hb : m.testBit 0 with
    | false => rfl
    | true => exact absurd (al_addr (h 0 hb)).1 (by decide)
  have e : sel (fun n => m.testBit n) 0 9 = sel (fun n => m.testBit n) 1 8 := by
    unfold sel
    rw [show List.range' 0 9 = 0 :: List.range' 1 8 from rfl, List.filter_cons, h0]; rfl
  rw [e]
  unfold usedA' sel
  rw [List.length_map, List.length_map]
  have hs8 := sub_filter (p := fun n => m.testBit n) (q := fun n : Nat => alB hs (n : Int)) (List.range' 1 8) fun x _ hx => h x hx
  constructor
  · intro he
    refine Nat.eq_of_testBit_eq fun j => ?_
    rw [usedN_bit]
    by_cases hj : 1 ≤ j ∧ j ≤ 8
    · rw [decide_eq_true hj, Bool.true_and]
      exact hs8.2 he j (by rw [List.mem_range'_1]; omega)
    · rw [decide_eq_false hj, Bool.false_and]
      cases hb : m.testBit j with
      | false => rfl
      | true => exact absurd (al_addr (h j hb)) (by omega)
  · rintro rfl
    congr 1
    refine List.filter_congr fun x hx => ?_
    rw [List.mem_range'_1] at hx
    rw [usedN_bit, decide_eq_true (by omega), Bool.true_and]
theorem holds_none {vl hs : List Int} {a : Asn} (h : partO vl hs a = none) : holdsB vl hs a = false := by rw [holdsB, h]
theorem holds_some {vl hs : List Int} {a : Asn} {m : Nat} (h : partO vl hs a = some m) : holdsB vl hs a = (m == usedN hs 8) := by rw [holdsB, h]
theorem holds_count {vl hs : List Int} {a : Asn} {m : Nat} (h : partO vl hs a = some m) : (((sel (fun n => m.testBit n) 0 9).length : Int) == ((usedA' hs).length : Int)) = holdsB vl hs a := by
  rw [holds_some h, Bool.eq_iff_iff, beq_iff_eq, beq_iff_eq, ← used_set (partO_bits h)]
  omega

end Go.Proofs.Ythoingdcmdhllaa
