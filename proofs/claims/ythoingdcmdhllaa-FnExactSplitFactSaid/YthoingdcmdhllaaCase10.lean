/- The plain law: what the program and the reference check of a case is the same. -/
import Derived.Test.YthoingdcmdhllaaCase9
namespace Go.Proofs.Ythoingdcmdhllaa
open Go.RowKit

/-- Numbers marked one by one. -/
def markM (n : Nat) : List Int → Nat → Option Nat
  | [], m => some m
  | k :: r, m => if k < 0 ∨ (n : Int) ≤ k then none else if m.testBit k.toNat = true then none else markM n r (m ||| 2 ^ k.toNat)
def stepO (left : List Atom) (x : Atom) (m : Nat) (u : List Int) : Option Nat :=
  match markM left.length u m with
  | none => none
  | some m' => if allowB left x u = true then some m' else none
def checkO (left : List Atom) : List Atom → List (List Int) → Nat → Option Nat
  | x :: rs, u :: us, m => match stepO left x m u with
    | none => none
    | some m' => checkO left rs us m'
  | _, _, m => some m
theorem usedGo_again {left : List Atom} {B : Int} {cl : Bool} {k : Int} {r : List Int} {i m : Nat} : usedGo left B cl (k :: r) (i + 1) m B = none := by
  unfold usedGo
  split
  · rfl
  · split
    · rfl
    · split
      · rfl
      · rw [if_pos ⟨Nat.succ_pos i, rfl⟩]
theorem chain_eq (left : List Atom) (B : Int) (cl : Bool) : ∀ (us : List Int) (i m : Nat) (A : Int), (0 < i → A ≠ B) →
    (match usedGo left B cl us i m A with | none => none | some (m', A') => if (decide (0 < us.length) && (A' == B)) = true then some m' else none) =
    (match markM left.length us m with | none => none | some m' => if useList left B cl A us = true then some m' else none)
  | [], i, m, A, _ => by simp [usedGo, markM, useList]
  | k :: r, i, m, A, hi => by
    rw [usedGo, markM]
    by_cases h1 : k < 0 ∨ (left.length : Int) ≤ k
    · rw [if_pos h1, if_pos h1]
    · rw [if_neg h1, if_neg h1]
      by_cases h2 : m.testBit k.toNat = true
      · rw [if_pos h2, if_pos h2]
      · rw [if_neg h2, if_neg h2, useList]
        by_cases h3 : (gd left k.toNat).2.1 = A
        · rw [if_neg (by simpa using h3), if_pos h3, if_neg (by rintro ⟨p, q⟩; exact hi p q)]
          by_cases h4 : (gd left k.toNat).2.2 = B
          · rw [if_pos h4, h4]
            simp only [bne_self_eq_false, Bool.false_and, Bool.and_false, Bool.false_eq_true, if_false]
            cases r with
            | nil => simp [usedGo, markM]
            | cons k2 r2 =>
              rw [usedGo_again]
              simp only [List.isEmpty_cons, Bool.false_eq_true, if_false]
              cases markM left.length (k2 :: r2) (m ||| 2 ^ k.toNat) <;> rfl
          · rw [if_neg h4]
            have hb : ((gd left k.toNat).2.2 != B) = true := by simpa using h4
            rw [hb, Bool.true_and]
            by_cases h5 : ((gd left k.toNat).1 == 2 && !cl) = true
            · rw [if_pos h5, if_pos h5]
              simp only [Bool.false_eq_true, if_false]
              cases markM left.length r (m ||| 2 ^ k.toNat) <;> rfl
            · rw [if_neg h5, if_neg h5]
              rw [← chain_eq left B cl r (i + 1) (m ||| 2 ^ k.toNat) _ fun _ => h4]
              cases hq : usedGo left B cl r (i + 1) (m ||| 2 ^ k.toNat) (gd left k.toNat).2.2 with
              | none => rfl
              | some p =>
                obtain ⟨m', A'⟩ := p
                cases r with
                | nil =>
                  simp only [usedGo, Option.some.injEq, Prod.mk.injEq] at hq
                  obtain ⟨rfl, rfl⟩ := hq
                  simp [h4]
                | cons k2 r2 => simp
        · rw [if_pos (by simpa using h3), if_neg h3]
          simp only [Bool.false_eq_true, if_false]
          cases markM left.length r (m ||| 2 ^ k.toNat) <;> rfl
theorem used_step (left : List Atom) (x : Atom) (m : Nat) (us : List Int) : usedO left x m us = stepO left x m us := by
  unfold usedO stepO allowB usedEnd
  by_cases hk : x.1 = 1
  · simp only [if_pos hk]
    match us with
    | [] => simp [usedGo, markM]
    | [k] =>
      rw [usedGo, markM]
      have hg : gi [k] 0 = k := rfl
      rw [hg]
      by_cases h1 : k < 0 ∨ (left.length : Int) ≤ k
      · rw [if_pos h1, if_pos h1]
      · rw [if_neg h1, if_neg h1]
        by_cases h2 : m.testBit k.toNat = true
        · rw [if_pos h2, if_pos h2]
        · rw [if_neg h2, if_neg h2]
          by_cases he : gd left k.toNat = x
          · rw [he, hk]
            simp [usedGo, markM]
          · simp only [markM, usedGo]
            have : (([k] : List Int).length == 1 && decide (gd left k.toNat = x)) = false := by simp [he]
            rw [this]
            simp only [Bool.false_eq_true, if_false]
            (repeat' split) <;> first | rfl | simp_all
    | k :: k2 :: r =>
      have : ((k :: k2 :: r : List Int).length == 1) = false := by simp
      rw [this]
      simp only [Bool.false_and, Bool.false_eq_true, if_false]
      cases usedGo left x.2.2 (clsdB left x.2.2) (k :: k2 :: r) 0 m x.2.1 <;> cases markM left.length (k :: k2 :: r) m <;> rfl
  · simp only [if_neg hk]
    exact chain_eq left x.2.2 (clsdB left x.2.2) us 0 m x.2.1 (fun h => absurd h (by decide))
def cntM (n m : Nat) : Nat := ((List.range n).filter fun k => m.testBit k).length
theorem cntM_set {n m k : Nat} (hk : k < n) (hb : m.testBit k = false) : cntM n (m ||| 2 ^ k) = cntM n m + 1 := by
  induction n with
  | zero => omega
  | succ n ih =>
    unfold cntM
    rw [List.range_succ, List.filter_append, List.filter_append, List.length_append, List.length_append]
    by_cases e : k = n
    · subst e
      have h1 : ((List.range k).filter fun j => (m ||| 2 ^ k).testBit j) = (List.range k).filter fun j => m.testBit j := by
        refine List.filter_congr fun j hj => ?_
        have := List.mem_range.1 hj
        rw [testBit_or_pow]; simp; intro h; omega
      rw [h1]
      have h2 : (m ||| 2 ^ k).testBit k = true := by rw [testBit_or_pow]; simp
      simp [hb]
    · have := ih (by omega)
      unfold cntM at this
      have h2 : (m ||| 2 ^ k).testBit n = m.testBit n := by rw [testBit_or_pow]; simp [e]
      have h3 : ([n].filter fun j => (m ||| 2 ^ k).testBit j) = [n].filter fun j => m.testBit j := by simp only [List.filter_cons, h2, List.filter_nil]
      rw [h3]
      omega
theorem cntM_all (n m : Nat) : (cntM n m == n) = (List.range n).all fun k => m.testBit k := by
  rw [Bool.eq_iff_iff, beq_iff_eq, List.all_eq_true]
  unfold cntM
  conv => lhs; rhs; rw [← List.length_range (n := n)]
  rw [List.length_filter_eq_length_iff]
/-- What a check answers. -/
def fullO (n : Nat) : Option Nat → Bool
  | none => false
  | some m => (List.range n).all fun k => m.testBit k
end Go.Proofs.Ythoingdcmdhllaa
