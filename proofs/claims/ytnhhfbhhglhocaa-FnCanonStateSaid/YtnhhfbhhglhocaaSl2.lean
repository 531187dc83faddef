/- Walks: tests of facts. -/
import Derived.Test.YtnhhfbhhglhocaaSl1
namespace Go.Proofs.Ytnhhfbhhglhocaa
open Go.RowKit

theorem bytes_form {w : World} {v : Value} {n : Nat} (h : RBytes w v n) : ∃ a cap, v = .slice a n cap := by
  obtain ⟨_, hr, _⟩ := h
  rcases hr with ⟨a, cap, rfl, h0, _⟩ | ⟨b, o, cap, rfl, _⟩
  · exact ⟨a, cap, by rw [h0]⟩
  · exact ⟨_, cap, rfl⟩

set_option maxHeartbeats 400000 in
theorem factValid_any (q : Bool) (a b : Int) (w : World) :
    Calls Try.prog 163 #[.agg #[.bool q, .int .i64 a, .int .i64 b]] w fun e w' => e = .returned (.bool (isTermB a && isTermB b)) ∧ Below w.heap.size w w' := by
  by_cases ha : isTermB a = true
  · go_enter Try.func163, Try.ntmps163
    go_wp2_with (go_at_call 88; refine (isTerm_any _ _).mono ?_; rintro e w' ⟨rfl, rfl⟩)
    go_ret
    exact ⟨by rw [ha]; rfl, below_alloc _ _⟩
  · have ha' : isTermB a = false := by simpa using ha
    clear ha
    go_enter Try.func163, Try.ntmps163
    go_wp2_with (go_at_call 88; refine (isTerm_any _ _).mono ?_; rintro e w' ⟨rfl, rfl⟩)
    go_ret
    exact ⟨by rw [ha']; rfl, below_alloc _ _⟩
end Go.Proofs.Ytnhhfbhhglhocaa
