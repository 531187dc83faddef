/- Walks: sets of addresses; reached cells. -/
import Derived.Test.YtnhhfbhhglhocaaW2
import Derived.Test.YtnhhfbhhglhocaaLaws
namespace Go.Proofs.Ytnhhfbhhglhocaa
open Go.RowKit

/-- The set holds the address. -/
def hasB (m : Nat) (n : Int) : Bool := isAddrB n && m.testBit n.toNat

set_option maxHeartbeats 400000 in
theorem cellHas_any (m : Nat) (n : Int) (w : World) (hm : m < 65536) :
    Calls Try.prog 94 #[.int .u16 m, .int .i64 n] w fun e w' => e = .returned (.bool (hasB m n)) ∧ w = w' := by
  by_cases ha : isAddrB n = true
  · have hn := isAddrB_iff.1 ha
    obtain ⟨k, rfl⟩ := Int.eq_ofNat_of_zero_le (show 0 ≤ n by omega)
    have h8 : k ≤ 8 := by omega
    have hfin := has_bit m k hm
    have HF := Lib.hid hfin
    clear hfin
    go_enter Try.func94, Try.ntmps94
    go_wp2_with (go_at_call 126; refine (isAddr_any _ _).mono ?_; rintro e w' ⟨rfl, rfl⟩)
    go_ret
    exact ⟨by simp [HF.out, hasB, ha], rfl⟩
  · have ha' : isAddrB n = false := by simpa using ha
    go_enter Try.func94, Try.ntmps94
    go_wp2_with (go_at_call 126; refine (isAddr_any _ _).mono ?_; rintro e w' ⟨rfl, rfl⟩)
    go_ret
    exact ⟨by simp [ha', hasB], rfl⟩
theorem cellHas_val (m : Nat) (n : Int) (w : World) (b : Bool) (hm : m < 65536) (h : hasB m n = b) :
    Calls Try.prog 94 #[.int .u16 m, .int .i64 n] w fun e w' => e = .returned (.bool b) ∧ w = w' := by
  have := cellHas_any m n w hm
  rwa [h] at this
set_option maxHeartbeats 400000 in
theorem cellList_any (m : Nat) (w : World) (hm : m < 65536) :
    Calls Try.prog 92 #[.int .u16 m] w fun e w' => ∃ v, e = .returned v ∧ w'.ownsRow w.heap.size 3 1 v (sel (fun n => m.testBit n) 1 8).length (ints (sel (fun n => m.testBit n) 1 8)) ∧ Below w.heap.size w w' := by
  go_enter Try.func92, Try.ntmps92
  go_wp2
  go_loopw [3, 4] (fun v i wr => ∃ k : Nat, k ≤ 8 ∧ i = .int .i64 (k + 1 : Nat) ∧ wr.ownsRow w.heap.size 3 1 v (sel (fun n => m.testBit n) 1 k).length (ints (sel (fun n => m.testBit n) 1 k)) ∧ Below w.heap.size w wr) (fun _ i _ => 9 - (intOf i).toNat)
  case atStart => exact ⟨0, by omega, rfl, World.ownsRow_nil _ _ _ _, Below.refl _ _⟩
  case round =>
    obtain ⟨k, hk, rfl, hown, hb⟩ := hrel
    have hs := hb.size
    by_cases hk8 : k < 8
    · have e1 : (((k + 1 : Nat) : Int)) = (k : Int) + 1 := by omega
      have hh : hasB m ((k : Int) + 1) = m.testBit (1 + k) := by
        have : isAddrB ((k : Int) + 1) = true := isAddrB_iff.2 (by omega)
        simp only [hasB, this, Bool.true_and]; congr 1; omega
      rw [e1]
      clear e1
      by_cases hbit : m.testBit (1 + k) = true
      · rw [hbit] at hh
        have hl := sel_len (fun n => m.testBit n) 1 k
        have hy := sel_yes (p := fun n => m.testBit n) (a := 1) (k := k) hbit
        have e2 : (((1 + k : Nat) : Int)) = (k : Int) + 1 := by omega
        rw [e2] at hy
        have HY := Lib.hid hy
        clear hy e2 hbit
        go_wp2_with (first | (go_at_call 94; refine (cellHas_any _ _ _ hm).mono ?_; rintro e w' ⟨rfl, rfl⟩) | (at_builtin; refine app_int _ rfl _ _ rfl w.heap.size _ _ rfl (own_keep hown (below_alloc _ _)) ⟨wr.heap.size, 0, none⟩ _ rfl (cell_new1 _ _ _) (by omega) (by simp; omega) ?_; intro v' w1 hown1 hf1))
        go_roundw
        case rel => exact ⟨k + 1, by omega, by go_num, by rw [HY.out]; exact hown1, below_own (own_keep hown (below_alloc _ _)) hf1 (hb.trans ((below_alloc _ _).mono hs)) (by simp; omega)⟩
        case measure => simp [intOf]; omega
      · have hbit' : m.testBit (1 + k) = false := by simpa using hbit
        rw [hbit'] at hh
        have hy := sel_no (p := fun n => m.testBit n) (a := 1) (k := k) hbit'
        have HY := Lib.hid hy
        clear hy hbit hbit'
        go_wp2_with (first | (go_at_call 94; refine (cellHas_any _ _ _ hm).mono ?_; rintro e w' ⟨rfl, rfl⟩))
        go_roundw
        case rel => exact ⟨k + 1, by omega, by go_num, by rw [HY.out]; exact hown, hb⟩
        case measure => simp [intOf]; omega
    · obtain rfl : k = 8 := by omega
      go_wp2
      go_ret
      exact ⟨_, rfl, hown, hb⟩
end Go.Proofs.Ytnhhfbhhglhocaa
