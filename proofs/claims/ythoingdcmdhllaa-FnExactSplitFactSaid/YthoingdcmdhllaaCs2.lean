/- The plain law of matching: what the program and the reference find in a case. -/
import Derived.Test.YthoingdcmdhllaaCs1
namespace Go.Proofs.Ythoingdcmdhllaa
open Go.RowKit

/-- The first atom that begins at a class and was not used. -/
def findU (left : List Atom) (m : Nat) (c : Int) : Option Nat := (List.range left.length).find? fun i => ((gd left i).2.1 == c) && !m.testBit i
theorem findU_some {left : List Atom} {m i : Nat} {c : Int} (h : findU left m c = some i) : i < left.length ∧ (gd left i).2.1 = c ∧ m.testBit i = false := by
  have h1 := List.mem_of_find?_eq_some h
  have h2 := List.find?_some h
  simp only [Bool.and_eq_true, beq_iff_eq, Bool.not_eq_true'] at h2
  exact ⟨List.mem_range.1 h1, h2.1, h2.2⟩
theorem findU_none {left : List Atom} {m : Nat} {c : Int} (h : findU left m c = none) : ∀ i, i < left.length → (gd left i).2.1 = c → m.testBit i = true := fun i hi hc => by
  rw [findU, List.find?_eq_none] at h
  have := h i (List.mem_range.2 hi)
  simpa [hc] using this
theorem find_step {p : Nat → Bool} {n k : Nat} (hk : k < n) (h : ∀ j, j < k → p j = false) (hp : p k = true) : (List.range n).find? p = some k := by
  rw [List.find?_range_eq_some]
  exact ⟨hp, List.mem_range.2 hk, fun j hj => by rw [h j hj]; rfl⟩
theorem find_end {p : Nat → Bool} {n : Nat} (h : ∀ j, j < n → p j = false) : (List.range n).find? p = none := by
  rw [List.find?_eq_none]
  intro j hj
  rw [h j (List.mem_range.1 hj)]; decide
/-- A chain of atoms from a class to another one. -/
def chainU (left : List Atom) (B : Int) (cl : Bool) : Nat → Nat → Int → Option (Nat × List Int)
  | 0, _, _ => none
  | f + 1, m, at_ => match findU left m at_ with
    | none => none
    | some i => if (gd left i).2.2 = B then some (m ||| 2 ^ i, [(i : Int)]) else
      if (gd left i).1 = 2 ∧ cl = false then none else (chainU left B cl f (m ||| 2 ^ i) (gd left i).2.2).map fun r => (r.1, (i : Int) :: r.2)
def cellU (left : List Atom) (m : Nat) (x : Atom) : Option (Nat × List Int) :=
  match findU left m x.2.1 with
  | none => none
  | some i => if gd left i = x then some (m ||| 2 ^ i, [(i : Int)]) else none
/-- The atoms that a filled atom uses. -/
def goalU (left : List Atom) (m : Nat) (x : Atom) : Option (Nat × List Int) :=
  if x.1 = 1 then cellU left m x else chainU left x.2.2 (clsdB left x.2.2) (left.length - cntM left.length m) m x.2.1
def goalsU (left : List Atom) : List Atom → Nat → Option (Nat × List (List Int))
  | [], m => some (m, [])
  | x :: r, m => match goalU left m x with
    | none => none
    | some p => (goalsU left r p.1).map fun q => (q.1, p.2 :: q.2)
/-- What filled atoms use of others, if they use all. -/
def mtchF (left right : List Atom) : Option (List (List Int)) :=
  match goalsU left right 0 with
  | none => none
  | some p => if ((List.range left.length).all fun k => p.1.testBit k) = true then some p.2 else none
/-- What is used in a case, if an assertion entails another one in it. -/
def matchC (a b : Asn) (cl : List Int) : Option (List (List Int)) := if b.1.all (factC cl) = true then mtchF (filledL cl a.2) (filledL cl b.2) else none
/-- The terms of two assertions. -/
def bothM (a b : Asn) : Nat := termM (termsM a) 0 ||| termsM b
def failC (a b : Asn) (cl : List Int) : Bool := (matchC a b cl).isNone
/-- The first case in which an assertion does not entail another one. -/
def failO (a b : Asn) : Option (List Int) := (casesL (bothM a b) a).find? (failC a b)
def entB (a b : Asn) : Bool := asnB a && (asnB b && (failO a b).isNone)
def consB (a : Asn) : Bool := asnB a && !(casesL (termM (termsM a) 0) a).isEmpty

theorem used_ge {n m m' : Nat} (h : ∀ k, m.testBit k = true → m'.testBit k = true) : cntM n m ≤ cntM n m' := by
  unfold cntM
  induction (List.range n) with
  | nil => exact Nat.le_refl _
  | cons k l ih =>
    rw [List.filter_cons, List.filter_cons]
    by_cases hk : m.testBit k = true
    · rw [if_pos hk, if_pos (h k hk)]; simp only [List.length_cons]; omega
    · rw [if_neg hk]
      split
      · simp only [List.length_cons]; omega
      · exact ih
theorem goals_app {left : List Atom} : ∀ (r s : List Atom) (m : Nat), goalsU left (r ++ s) m = match goalsU left r m with
    | none => none
    | some p => (goalsU left s p.1).map fun q => (q.1, p.2 ++ q.2)
  | [], s, m => by
    simp only [List.nil_append, goalsU]
    cases goalsU left s m <;> rfl
  | x :: r, s, m => by
    simp only [List.cons_append, goalsU]
    cases goalU left m x with
    | none => rfl
    | some p =>
      simp only [goals_app r s p.1]
      cases goalsU left r p.1 with
      | none => rfl
      | some q =>
        simp only [Option.map_some]
        cases goalsU left s q.1 <;> rfl
theorem goals_take {left right : List Atom} {k m : Nat} {us : List (List Int)} (hk : k < right.length) (h : goalsU left (right.take k) 0 = some (m, us)) :
    goalsU left (right.take (k + 1)) 0 = (goalU left m (gd right k)).map fun p => (p.1, us ++ [p.2]) := by
  rw [take_gd hk, goals_app, h]
  simp only [goalsU]
  cases goalU left m (gd right k) <;> rfl
theorem goals_stop {left right : List Atom} {k : Nat} (h : goalsU left (right.take k) 0 = none) : goalsU left right 0 = none := by
  have := goals_app (left := left) (right.take k) (right.drop k) 0
  rw [List.take_append_drop, h] at this
  exact this
theorem all_bits_cnt {n m : Nat} : ((List.range n).all fun k => m.testBit k) = (cntM n m == n) := (cntM_all n m).symm
end Go.Proofs.Ythoingdcmdhllaa
