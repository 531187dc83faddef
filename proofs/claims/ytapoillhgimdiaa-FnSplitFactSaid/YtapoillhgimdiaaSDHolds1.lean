/- Walks: draws of a state and an assertion that often holds in it: small parts. -/
import Derived.Test.YtapoillhgimdiaaSBase3
import Derived.Test.YtapoillhgimdiaaSData1
namespace Go.Proofs.Ytapoillhgimdiaa
open Go.RowKit

set_option maxHeartbeats 1600000 in
theorem l4Known_any (vs hv : Value) (vl : List Int) (n : Int) (w : World) (h : RInts w vs vl) :
    Calls Try.prog 205 #[.agg #[vs, hv], .int .i64 n] w fun e w' => ∃ b : Bool, e = .returned (.bool b) ∧ Below w.heap.size w w' := by
  have hm := h.len
  unfold maxLen at hm
  obtain ⟨va, vc, rfl⟩ := h.form
  go_enter Try.func205, Try.ntmps205
  go_wp2
  go_loopg [5] vl.length (fun q i wr => ∃ k : Nat, k + q = vl.length ∧ i = .int .i64 k ∧ wr.cell? ⟨w.heap.size, 0, none⟩ = some (.slice va vl.length vc) ∧ Below w.heap.size w wr)
  case atStart => exact ⟨0, by omega, rfl, by simp, below_alloc _ _⟩
  case round =>
    obtain ⟨k, hk, rfl, hc0, hb⟩ := hrel
    have HK := Lib.hid hk
    clear hk
    by_cases hk8 : k < vl.length
    · have hki : (k : Int) < (vl.length : Int) := by omega
      obtain ⟨gb, go_, gc, hfe, _, _, hcell⟩ := (h.keep hb).ne (by omega)
      simp only [Value.slice.injEq] at hfe
      obtain ⟨rfl, hh, rfl⟩ := hfe
      clear hh
      have hck := hcell k hk8
      obtain ⟨X, hX⟩ : ∃ x, gi vl k = x := ⟨_, rfl⟩
      rw [hX] at hck
      clear hcell hX
      by_cases hp : X = n
      · have hpb : (X == n) = true := by simp [hp]
        clear hp
        go_wp2
        go_ret
        exact ⟨true, rfl, hb⟩
      · have hpb : (X == n) = false := by simp [hp]
        clear hp
        go_wp2
        go_roundg (gk - 1)
        case rel => exact ⟨k + 1, by have := HK.out; omega, by go_num, hc0, hb⟩
        case measure => have := HK.out; omega
    · obtain rfl : k = vl.length := by have := HK.out; omega
      go_wp2
      go_ret
      exact ⟨false, rfl, hb⟩
end Go.Proofs.Ytapoillhgimdiaa
