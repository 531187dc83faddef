/- Walks: the check of a case: the reference. -/
import Derived.Test.YtdjfdopgjlbloaaGreatDoorWCaseC
import Derived.Test.YtdjfdopgjlbloaaGreatDoorWFam2
import Derived.Deep.RegionHeld3
import Derived.Test.YtdjfdopgjlbloaaGreatDoorWBase1
import Derived.RangeFuncCalls
import Derived.RangeFuncBound
import Derived.OwnWalkIn
import Derived.Test.YtdjfdopgjlbloaaGreatDoorWCsA
import Derived.RangeFuncLeaves
import Derived.Shelf.Abstract
import Derived.TacticsInMore
import Derived.Sort.LoopGhostIn
import Derived.Sort.CutIn
import Derived.Deep.MidRow
import Derived.Test.YtdjfdopgjlbloaaGreatDoorWMtcA
namespace Go.Proofs.YtdjfdopgjlbloaaGreatDoor
open Go.RowKit

theorem read_len {m : Nat} {a : Asn} {cl : List Int} (h : readC m a cl = true) : cl.length = 9 := by
  simp only [readC, shapeC, Bool.and_eq_true, beq_iff_eq] at h
  exact h.1.1
end Go.Proofs.YtdjfdopgjlbloaaGreatDoor
/- ItrA: texts Itr1, Itr2 in one. -/
/- Laws for the walks: a range over a function whose iterator writes blocks of its own. -/
namespace Go.Proofs.YtdjfdopgjlbloaaGreatDoor
open Go Go.RowKit

section
variable {F : Fence} {n : Nat} {P : Program} {ops : Array Oper} {rest : List Oper} {o : Oper} {a : Act} {w : World} {K : Act → World → Prop} {Q : Exit → Act → World → Prop}
end
end Go.Proofs.YtdjfdopgjlbloaaGreatDoor
/- Walks: the possible cases, one by one: the iterator. -/
namespace Go.Proofs.YtdjfdopgjlbloaaGreatDoor
open Go Go.RowKit

def chTo (p : List Int) (k : Nat) : List Int := ((List.range k).filter fun j => j == p.length || gi p j == (j : Int)).map Int.ofNat
def restTo (M : Nat) (a : Asn) (n : Nat) (p : List Int) (k : Nat) : List (List Int) := (chTo p k).flatMap fun c => restL M a n (p ++ [c])
theorem restTo_zero (M : Nat) (a : Asn) (n : Nat) (p : List Int) : restTo M a n p 0 = [] := rfl
theorem restTo_yes {M : Nat} {a : Asn} {n : Nat} {p : List Int} {k : Nat} (h : (k == p.length || gi p k == (k : Int)) = true) : restTo M a n p (k + 1) = restTo M a n p k ++ restL M a n (p ++ [(k : Int)]) := by
  rw [restTo, chTo, List.range_succ, List.filter_append, List.filter_cons, if_pos h, List.filter_nil, List.map_append, List.flatMap_append]
  simp [restTo, chTo]
theorem restTo_no {M : Nat} {a : Asn} {n : Nat} {p : List Int} {k : Nat} (h : (k == p.length || gi p k == (k : Int)) = false) : restTo M a n p (k + 1) = restTo M a n p k := by
  rw [restTo, chTo, List.range_succ, List.filter_append, List.filter_cons, h, List.filter_nil, List.map_append, List.flatMap_append]
  simp [restTo, chTo]
theorem restTo_all {M : Nat} {a : Asn} {n : Nat} {p : List Int} (h : M.testBit p.length = true) : restTo M a n p (p.length + 1) = restL M a (n + 1) p := by
  rw [rest_succ, chC, if_pos h]; rfl
theorem restTo_pre {M : Nat} {a : Asn} {n : Nat} {p : List Int} : ∀ (d k : Nat), restTo M a n p k <+: restTo M a n p (k + d)
  | 0, k => List.prefix_refl _
  | d + 1, k => by
    refine (restTo_pre d k).trans ?_
    cases h : (k + d == p.length || gi p (k + d) == ((k + d : Nat) : Int)) with
    | true => rw [← Nat.add_assoc, restTo_yes h]; exact List.prefix_append _ _
    | false => rw [← Nat.add_assoc, restTo_no h]; exact List.prefix_refl _
theorem restTo_to {M : Nat} {a : Asn} {n : Nat} {p : List Int} {k : Nat} (h : M.testBit p.length = true) (hk : k ≤ p.length + 1) : restTo M a n p k <+: restL M a (n + 1) p := by
  rw [← restTo_all h]
  have := restTo_pre (M := M) (a := a) (n := n) (p := p) (p.length + 1 - k) k
  rwa [Nat.add_sub_cancel' hk] at this
theorem rest_not {M : Nat} {a : Asn} {n : Nat} {p : List Int} (h : M.testBit p.length = false) : restL M a (n + 1) p = restL M a n (p ++ [-1]) := by
  rw [rest_succ, chC, if_neg (by rw [h]; decide)]; simp
theorem gi_set_self {q : List Int} {t : Nat} (h : t < q.length) (x : Int) : gi (q.set t x) t = x := by simp [gi, h]
theorem gi_set_neq {q : List Int} {t i : Nat} (h : t ≠ i) (x : Int) : gi (q.set t x) i = gi q i := by simp [gi, h]
theorem gi_snoc_lt {p : List Int} {x : Int} {i : Nat} (h : i < p.length) : gi (p ++ [x]) i = gi p i := gi_app1 h
theorem agree_set {p q : List Int} (hq : q.length = 9) (hp : p.length < 9) (h : ∀ i, i < p.length → gi q i = gi p i) (x : Int) : ∀ i, i < (p ++ [x]).length → gi (q.set p.length x) i = gi (p ++ [x]) i := fun i hi => by
  rw [List.length_append, List.length_cons, List.length_nil] at hi
  by_cases e : i = p.length
  · subst e; rw [gi_set_self (by omega), gi_snoc]
  · rw [gi_set_neq (fun e' => e e'.symm), gi_snoc_lt (by omega)]; exact h i (by omega)
theorem agree_eq {p q : List Int} (hq : q.length = 9) (hp : p.length = 9) (h : ∀ i, i < p.length → gi q i = gi p i) : q = p := by
  apply List.ext_getElem (by omega)
  intro i h1 h2
  have := h i h2
  rwa [gi_of h1, gi_of h2] at this
theorem asn_all {a : Asn} (h : asnB a = true) : a.1.all factB = true ∧ a.2.all atomB = true := by
  simp only [asnB, factsB, Bool.and_eq_true] at h
  exact ⟨h.1.2, h.2.2⟩
attribute [local go_sem] Oper.semAt_some
section
variable {l B M : Nat} {R : Nat → Prop} {J : (Nat → Prop) → List (List Int) → World → Prop} {Jx : List (List Int) → World → Prop} {xs : List (List Int)} {a : Asn} {v1 v2 : Value}
theorem cell_set_other {W : World} {p r : Addr} {u v : Value} (h : W.cell? p = some v) (hne : ¬ p.block = r.block) : (W.setCell r u).cell? p = some v := (fr_set W r u).cell hne h
end
end Go.Proofs.YtdjfdopgjlbloaaGreatDoor
/- ItrB: texts Itr3, Itr4 in one. -/
/- Walks: the first case; the first case in which an entailment fails; consistency, entailment: the program. -/
namespace Go.Proofs.YtdjfdopgjlbloaaGreatDoor
open Go Go.RowKit

attribute [local go_sem] Oper.semAt_some
theorem cases_len {M : Nat} {a : Asn} {cl : List Int} (h : cl ∈ casesL M a) : cl.length = 9 := by
  have := (mem_cases.1 h).1
  rw [shapeC, Bool.and_eq_true, beq_iff_eq] at this
  exact this.1
end Go.Proofs.YtdjfdopgjlbloaaGreatDoor
/- Walks: consistency, entailment: the program. -/
namespace Go.Proofs.YtdjfdopgjlbloaaGreatDoor
open Go Go.RowKit

end Go.Proofs.YtdjfdopgjlbloaaGreatDoor
