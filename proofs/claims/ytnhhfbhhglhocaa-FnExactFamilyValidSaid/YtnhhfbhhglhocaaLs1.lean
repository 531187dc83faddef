/- Walks: facts and atoms are valid. -/
import Derived.Test.YtnhhfbhhglhocaaLf1
import Derived.Test.YtnhhfbhhglhocaaW6
namespace Go.Proofs.Ytnhhfbhhglhocaa
open Go.RowKit

def factB (f : Fact) : Bool := isTermB f.2.1 && isTermB f.2.2
def atomB (x : Atom) : Bool := ((x.1 == 1) || (x.1 == 2)) && (isTermB x.2.1 && isTermB x.2.2)
def factsB (l : List Fact) : Bool := decide (l.length ≤ 12) && l.all factB
def asnB (a : Asn) : Bool := factsB a.1 && (decide (a.2.length ≤ 6) && a.2.all atomB)
def famB (l : List Asn) : Bool := decide (l.length ≤ 12) && l.all asnB
theorem all_take_yes {α : Type} [Inhabited α] {p : α → Bool} {l : List α} {k : Nat} (h : k < l.length) (ht : (l.take k).all p = true) (hp : p (gd l k) = true) : (l.take (k + 1)).all p = true := by
  rw [take_gd h, List.all_append, ht]; simp [hp]
theorem all_no {α : Type} [Inhabited α] {p : α → Bool} {l : List α} {k : Nat} (h : k < l.length) (hp : p (gd l k) = false) : l.all p = false := by
  rw [List.all_eq_false]; exact ⟨_, gd_mem h, by simp [hp]⟩
theorem all_end {α : Type} {p : α → Bool} {l : List α} (ht : (l.take l.length).all p = true) : l.all p = true := by rwa [List.take_length] at ht

set_option maxHeartbeats 400000 in
theorem factValidI_any (f : Fact) (w : World) :
    Calls Try.prog 163 #[.agg #[.bool f.1, .int .i64 f.2.1, .int .i64 f.2.2]] w fun e w' => e = .returned (.bool (factB f)) ∧ Below w.heap.size w w' := by
  cases h : isTermB f.2.1
  · have hf : factB f = false := by simp [factB, h]
    have HF := Lib.hid (And.intro hf h)
    clear hf h
    go_enter Try.func163, Try.ntmps163
    go_wp2_with (go_at_call 88; go_must (refine (isTerm_any f.2.1 _).mono ?_; rw [HF.out.2]; rintro e w' ⟨rfl, rfl⟩))
    go_ret
    exact ⟨by rw [HF.out.1]; rfl, below_alloc _ _⟩
  · have hf : factB f = isTermB f.2.2 := by simp [factB, h]
    have HF := Lib.hid (And.intro hf h)
    clear hf h
    go_enter Try.func163, Try.ntmps163
    go_wp2_with fail
    refine (isTerm_any f.2.1 _).mono ?_
    rw [HF.out.2]
    rintro e w' ⟨rfl, rfl⟩
    go_wp2_with fail
    refine (isTerm_any f.2.2 _).mono ?_
    rintro e w' ⟨rfl, rfl⟩
    go_wp2
    go_ret
    exact ⟨by rw [HF.out.1]; rfl, below_alloc _ _⟩
set_option maxHeartbeats 400000 in
theorem factValidS_any (f : Fact) (w : World) :
    Calls Try.prog 162 #[.agg #[.bool f.1, .int .i64 f.2.1, .int .i64 f.2.2]] w fun e w' => e = .returned (.bool (factB f)) ∧ Below w.heap.size w w' := by
  cases h : isTermB f.2.1
  · have hf : factB f = false := by simp [factB, h]
    have HF := Lib.hid (And.intro hf h)
    clear hf h
    go_enter Try.func162, Try.ntmps162
    go_wp2_with (go_at_call 161; go_must (refine (l1Is_any f.2.1 _).mono ?_; rw [HF.out.2]; rintro e w' ⟨rfl, rfl⟩))
    go_ret
    exact ⟨by rw [HF.out.1]; rfl, below_alloc _ _⟩
  · have hf : factB f = isTermB f.2.2 := by simp [factB, h]
    have HF := Lib.hid (And.intro hf h)
    clear hf h
    go_enter Try.func162, Try.ntmps162
    go_wp2_with fail
    refine (l1Is_any f.2.1 _).mono ?_
    rw [HF.out.2]
    rintro e w' ⟨rfl, rfl⟩
    go_wp2_with fail
    refine (l1Is_any f.2.2 _).mono ?_
    rintro e w' ⟨rfl, rfl⟩
    go_wp2
    go_ret
    exact ⟨by rw [HF.out.1]; rfl, below_alloc _ _⟩
end Go.Proofs.Ytnhhfbhhglhocaa
