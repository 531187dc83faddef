/- Walks: cells of a state; sets of cells. -/
import Derived.Test.YtnhhfbhhglhocaaW1
namespace Go.Proofs.Ytnhhfbhhglhocaa
open Go.RowKit

set_option maxHeartbeats 400000 in
theorem l1Value_any (v : Value) (l : List Int) (t : Int) (w : World) (h : RInts w v l) (h0 : 0 ≤ t) (h1 : t ≤ l.length) :
    Calls Try.prog 171 #[v, .int .i64 t] w fun e w' => e = .returned (.int .i64 (tv l t)) ∧ w = w' := by
  by_cases ht : t = 0
  · subst ht
    go_enter Try.func171, Try.ntmps171
    go_wp2
    go_ret
    simp [tv]
  · obtain ⟨n, rfl⟩ := Int.eq_ofNat_of_zero_le h0
    obtain ⟨k, rfl⟩ : ∃ k, n = k + 1 := ⟨n - 1, by omega⟩
    have hm := h.len
    unfold maxLen at hm
    obtain ⟨b, o, cap, rfl, hc, hcm, hcell⟩ := h.ne (by omega)
    have hg := hcell k (by omega)
    have hk : (k : Int) < l.length := by omega
    have e1 : (((k + 1 : Nat) : Int)) = (k : Int) + 1 := by omega
    rw [e1]
    clear e1 h0 h1 h ht hcell
    go_enter Try.func171, Try.ntmps171
    go_wp2
    go_ret
    have e2 : ((k : Int) + 1 - 1).toNat = k := by omega
    have e3 : ¬ (k : Int) + 1 = 0 := by omega
    simp [tv, e3]
set_option maxHeartbeats 400000 in
theorem content_any (vs hv : Value) (hs : List Int) (n : Int) (w : World) (h : RInts w hv hs) (hl : 8 ≤ hs.length) :
    Calls Try.prog 93 #[.agg #[vs, hv], .int .i64 n] w fun e w' => e = .returned (.int .i64 (ct hs n)) ∧ Below w.heap.size w w' := by
  have hm := h.len
  unfold maxLen at hm
  by_cases ha : isAddrB n = true
  · have hn := isAddrB_iff.1 ha
    obtain ⟨k, rfl⟩ : ∃ k : Nat, n = (k : Int) + 1 := ⟨(n - 1).toNat, by omega⟩
    obtain ⟨b, o, cap, rfl, hc, hcm, hcell⟩ := h.ne (by omega)
    have hg := hcell k (by omega)
    have hk : (k : Int) < hs.length := by omega
    have hfin : ct hs ((k : Int) + 1) = gi hs k := by
      unfold ct; rw [if_pos ha]; congr 1; omega
    have HF := Lib.hid hfin
    have hbl := World.block_lt_of_cell? w _ hg
    clear hfin h hcell
    go_enter Try.func93, Try.ntmps93
    go_wp2_with (go_at_call 126; refine (isAddr_any _ _).mono ?_; rintro e w' ⟨rfl, rfl⟩)
    go_ret
    exact ⟨by rw [HF.out]; rfl, below_alloc _ _⟩
  · have ha' : isAddrB n = false := by simpa using ha
    clear ha
    go_enter Try.func93, Try.ntmps93
    go_wp2_with (go_at_call 126; refine (isAddr_any _ _).mono ?_; rintro e w' ⟨rfl, rfl⟩)
    go_ret
    exact ⟨by simp [ct, ha'], below_alloc _ _⟩
def alB (hs : List Int) (n : Int) : Bool := decide (0 ≤ ct hs n)
set_option maxHeartbeats 400000 in
theorem allocated_any (vs hv : Value) (hs : List Int) (n : Int) (w : World) (h : RInts w hv hs) (hl : 8 ≤ hs.length) :
    Calls Try.prog 89 #[.agg #[vs, hv], .int .i64 n] w fun e w' => e = .returned (.bool (alB hs n)) ∧ Below w.heap.size w w' := by
  go_enter Try.func89, Try.ntmps89
  go_wp2_with fail
  refine (content_any _ _ hs _ _ (h.alloc _) hl).mono ?_
  rintro e w' ⟨rfl, hb⟩
  go_wp2
  go_ret
  exact ⟨by simp [alB], (below_alloc _ _).trans (hb.mono (by simp))⟩
end Go.Proofs.Ytnhhfbhhglhocaa
