/- Walks: tables of names. -/
import Derived.Test.YtnhhfbhhglhocaaExt
import Derived.Test.YtnhhfbhhglhocaaPerm
import Derived.Test.YtnhhfbhhglhocaaDr1
import Derived.Laws.Tables
namespace Go.Proofs.Ytnhhfbhhglhocaa
open Go.RowKit

abbrev iarr (l : List Int) : Array Value := (ints l).toArray
theorem iarr_size (l : List Int) : (iarr l).size = l.length := by simp [ints]
theorem iarr_one (l : List Int) : (iarr l).all (·.oneCell') = true := by
  rw [Array.all_eq_true_iff_forall_mem]
  intro x hx
  simp [ints] at hx
  obtain ⟨_, _, rfl⟩ := hx
  rfl
theorem iarr_at {w : World} {b : Nat} {T : TypeId} {l : List Int} (h : w.heap[b]? = some (.cells (iarr l) T (0, 0))) (i : Nat) (hi : i < l.length) : w.cell? ⟨b, i, none⟩ = some (.int .i64 (gi l i)) := by
  rw [cell_of_row w b i _ _ _ h]
  simp [ints, hi, gi_of]
theorem iarr_set {w : World} {b : Nat} {T : TypeId} {l : List Int} (h : w.heap[b]? = some (.cells (iarr l) T (0, 0))) (i : Nat) (x : Int) : (w.setCell ⟨b, i, none⟩ (.int .i64 x)).heap[b]? = some (.cells (iarr (l.set i x)) T (0, 0)) := by
  rw [heap_setCell_same w b i _ T _ h]
  congr 2
  simp [ints, List.map_set]

/-- A value by a table of names. -/
def nmT (tl : List Int) (v : Int) : Int := if isAddrB v = true then gi tl v.toNat else v
theorem nmT_cons (ns : List Int) (v : Int) : nmT (0 :: ns) v = nm ns v := by
  unfold nmT nm
  by_cases h : isAddrB v = true
  · rw [if_pos h, if_pos h]
    have := isAddrB_iff.1 h
    obtain ⟨k, rfl⟩ : ∃ k : Nat, v = (k : Int) + 1 := ⟨(v - 1).toNat, by omega⟩
    rw [show ((k : Int) + 1).toNat = k + 1 by omega, show ((k : Int) + 1 - 1).toNat = k by omega]
    simp [gi]
  · rw [if_neg h, if_neg h]

set_option maxHeartbeats 400000 in
theorem rename_any (b : Nat) (tl : List Int) (n : Int) (w : World) (hc : ∀ i, i < 9 → w.cell? ⟨b, i, none⟩ = some (.int .i64 (gi tl i))) :
    Calls Try.prog 128 #[.pointer (some ⟨b, 0, none⟩), .int .i64 n] w fun e w' => e = .returned (.int .i64 (nmT tl n)) ∧ w = w' := by
  by_cases ha : isAddrB n = true
  · have hn := isAddrB_iff.1 ha
    obtain ⟨k, rfl⟩ := Int.eq_ofNat_of_zero_le (show 0 ≤ n by omega)
    have hk := hc k (by omega)
    have h9 : (k : Int) < 9 := by omega
    clear hc
    go_enter Try.func128, Try.ntmps128
    go_wp2_with (first | (go_at_call 126; go_must (((with_reducible refine (isAddr_any _ _).mono ?_); rintro e w' ⟨rfl, rfl⟩))))
    go_ret
    exact ⟨by simp [nmT, ha], rfl⟩
  · have ha' : isAddrB n = false := by simpa using ha
    clear hc ha
    go_enter Try.func128, Try.ntmps128
    go_wp2_with (first | (go_at_call 126; go_must (((with_reducible refine (isAddr_any _ _).mono ?_); rintro e w' ⟨rfl, rfl⟩))))
    go_ret
    exact ⟨by simp [nmT, ha'], rfl⟩
set_option maxHeartbeats 400000 in
theorem l15Name_any (v : Value) (ns : List Int) (n : Int) (w : World) (h : RInts w v ns) (hl : 8 ≤ ns.length) (h8 : n ≤ 8) :
    Calls Try.prog 130 #[v, .int .i64 n] w fun e w' => e = .returned (.int .i64 (nm ns n)) ∧ w = w' := by
  by_cases ha : isAddrB n = true
  · have hn := isAddrB_iff.1 ha
    obtain ⟨k, rfl⟩ : ∃ k : Nat, n = (k : Int) + 1 := ⟨(n - 1).toNat, by omega⟩
    have hm := h.len
    unfold maxLen at hm
    obtain ⟨b, o, cap, rfl, hcl, hcm, hcell⟩ := h.ne (by omega)
    have hk := hcell k (by omega)
    have hki : (k : Int) < (ns.length : Int) := by omega
    have hfin : nm ns ((k : Int) + 1) = gi ns k := by rw [nm, if_pos ha]; congr 1; omega
    have HF := Lib.hid hfin
    clear hfin ha h hcell
    go_enter Try.func130, Try.ntmps130
    go_wp2
    go_ret
    exact ⟨by rw [HF.out]; rfl, rfl⟩
  · have hn : n < 1 := by rw [isAddrB_iff] at ha; omega
    have ha' : isAddrB n = false := by simpa using ha
    clear ha
    go_enter Try.func130, Try.ntmps130
    go_wp2
    go_ret
    exact ⟨by simp [nm, ha'], rfl⟩
end Go.Proofs.Ytnhhfbhhglhocaa
