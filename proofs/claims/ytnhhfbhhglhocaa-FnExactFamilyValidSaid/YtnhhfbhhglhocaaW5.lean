/- Walks: valid states. -/
import Derived.Test.YtnhhfbhhglhocaaW4
namespace Go.Proofs.Ytnhhfbhhglhocaa
open Go.RowKit

theorem all_take_succ {p : Int → Bool} {l : List Int} {k : Nat} (h : k < l.length) (ht : (l.take k).all p = true) (hp : p (gi l k) = true) : (l.take (k + 1)).all p = true := by
  rw [List.take_succ_eq_append_getElem h, List.all_append, ht]
  simpa [gi_of h] using hp

theorem all_false_at {p : Int → Bool} {l : List Int} {k : Nat} (h : k < l.length) (hp : p (gi l k) = false) : l.all p = false := by
  rw [List.all_eq_false]
  refine ⟨l[k], List.getElem_mem h, ?_⟩
  simpa [gi_of h] using hp

theorem all_take_full {p : Int → Bool} {l : List Int} (ht : (l.take l.length).all p = true) : l.all p = true := by
  rwa [List.take_length] at ht

theorem valid_len {vl hl : List Int} (h : validB vl hl = true) : vl.length = 8 ∧ hl.length = 8 := by
  simp [validB] at h; exact ⟨h.1, h.2.1⟩
theorem valid_all {vl hl : List Int} (h : validB vl hl = true) : vl.all isTermB = true ∧ hl.all heapB = true := by
  simp only [validB, Bool.and_eq_true] at h; exact ⟨h.2.2.1, h.2.2.2⟩
theorem valid_tv {vl hl : List Int} (h : validB vl hl = true) {t : Int} (h0 : 0 ≤ t) (h8 : t ≤ 8) : 0 ≤ tv vl t ∧ tv vl t ≤ 8 := by
  unfold tv
  split
  · omega
  · have h1 := (valid_len h).1
    have hk : (t - 1).toNat < vl.length := by omega
    have := List.all_eq_true.1 (valid_all h).1 (vl[(t - 1).toNat]) (List.getElem_mem hk)
    rw [isTermB_iff] at this
    rwa [gi_of hk]
theorem valid_ct {vl hl : List Int} (h : validB vl hl = true) (n : Int) : -1 ≤ ct hl n ∧ ct hl n ≤ 8 := by
  unfold ct
  split
  · rename_i hn
    rw [isAddrB_iff] at hn
    have h1 := (valid_len h).2
    have hk : (n - 1).toNat < hl.length := by omega
    have := List.all_eq_true.1 (valid_all h).2 (hl[(n - 1).toNat]) (List.getElem_mem hk)
    rw [heapB_iff] at this
    rwa [gi_of hk]
  · omega

set_option maxHeartbeats 800000 in
theorem stateValid_any (vs hv : Value) (vl hl : List Int) (w : World) (h1 : RInts w vs vl) (h2 : RInts w hv hl) :
    Calls Try.prog 27 #[.agg #[vs, hv]] w fun e w' => e = .returned (.bool (validB vl hl)) ∧ Below w.heap.size w w' := by
  have hm1 := h1.len
  have hm2 := h2.len
  unfold maxLen at hm1 hm2
  obtain ⟨a1, c1, hf1⟩ := h1.form
  obtain ⟨a2, c2, hf2⟩ := h2.form
  by_cases hA : vl.length = 8
  · by_cases hB : hl.length = 8
    · obtain ⟨b1, o1, cap1, rfl, _, _, cell1⟩ := h1.ne (by omega)
      obtain ⟨b2, o2, cap2, rfl, _, _, cell2⟩ := h2.ne (by omega)
      have k1 := World.block_lt_of_cell? w _ (cell1 0 (by omega))
      have k2 := World.block_lt_of_cell? w _ (cell2 0 (by omega))
      clear hf1 hf2 h1 h2
      rw [hA] at cell1 ⊢
      rw [hB] at cell2 ⊢
      have CELL1 := Lib.hid cell1
      have CELL2 := Lib.hid cell2
      have HA := Lib.hid hA
      have HB := Lib.hid hB
      clear cell1 cell2 hA hB
      go_enter Try.func27, Try.ntmps27
      go_wp2
      go_loop [20] (fun i => ∃ k : Nat, k ≤ 8 ∧ i = .int .i64 k ∧ (vl.take k).all isTermB = true) (fun i => 8 - (intOf i).toNat)
      case atStart => exact ⟨0, by omega, rfl, rfl⟩
      case round =>
        obtain ⟨k, hk, rfl, hall⟩ := hrel
        have HALL := Lib.hid hall
        clear hall
        by_cases hk8 : k < 8
        · have hc := CELL1.out k hk8
          by_cases ht : isTermB (gi vl k) = true
          · go_wp2_with (go_at_call 73; refine (isValue_any _ _).mono ?_; rintro e w' ⟨rfl, rfl⟩)
            go_round
            case rel => exact ⟨k + 1, by omega, by go_num, all_take_succ (by rw [HA.out]; exact hk8) HALL.out ht⟩
            case measure => simp [intOf]; omega
          · have ht' : isTermB (gi vl k) = false := by simpa using ht
            clear ht
            go_wp2_with (go_at_call 73; refine (isValue_any _ _).mono ?_; rintro e w' ⟨rfl, rfl⟩)
            go_ret
            refine ⟨?_, below_alloc _ _⟩
            rw [show validB vl hl = false from by
              have := all_false_at (p := isTermB) (l := vl) (k := k) (by rw [HA.out]; exact hk8) ht'
              simp [validB, this]]
            rfl
        · obtain rfl : k = 8 := by omega
          have hall1 : vl.all isTermB = true := all_take_full (by rw [HA.out]; exact HALL.out)
          have HALL1 := Lib.hid hall1
          clear hall1 HALL CELL1
          go_wp2
          go_loop [31] (fun i => ∃ k : Nat, k ≤ 8 ∧ i = .int .i64 k ∧ (hl.take k).all heapB = true) (fun i => 8 - (intOf i).toNat)
          case atStart => exact ⟨0, by omega, rfl, rfl⟩
          case round =>
            obtain ⟨k, hk, rfl, hall⟩ := hrel
            have HALL := Lib.hid hall
            clear hall
            by_cases hk8 : k < 8
            · have hc := CELL2.out k hk8
              by_cases hn1 : gi hl k = -1
              · have hh : heapB (gi hl k) = true := by rw [hn1]; rfl
                have HH := Lib.hid hh
                have hne : (gi hl k != -1) = false := by rw [hn1]; rfl
                clear hh hn1
                go_wp2_with (go_at_call 73; refine (isValue_any _ _).mono ?_; rintro e w' ⟨rfl, rfl⟩)
                go_round
                case rel => exact ⟨k + 1, by omega, by go_num, all_take_succ (by rw [HB.out]; exact hk8) HALL.out HH.out⟩
                case measure => simp [intOf]; omega
              · have hne : (gi hl k != -1) = true := by simpa using hn1
                have hbe : (gi hl k == -1) = false := by simpa using hn1
                by_cases ht : isTermB (gi hl k) = true
                · have hh : heapB (gi hl k) = true := by rw [heapB, ht]; simp
                  have HH := Lib.hid hh
                  clear hh hn1 hbe
                  go_wp2_with (go_at_call 73; refine (isValue_any _ _).mono ?_; rintro e w' ⟨rfl, rfl⟩)
                  go_round
                  case rel => exact ⟨k + 1, by omega, by go_num, all_take_succ (by rw [HB.out]; exact hk8) HALL.out HH.out⟩
                  case measure => simp [intOf]; omega
                · have ht' : isTermB (gi hl k) = false := by simpa using ht
                  have hh : heapB (gi hl k) = false := by rw [heapB, ht', hbe]; rfl
                  have HH := Lib.hid hh
                  clear hh hn1 hbe ht
                  go_wp2_with (go_at_call 73; refine (isValue_any _ _).mono ?_; rintro e w' ⟨rfl, rfl⟩)
                  go_ret
                  refine ⟨?_, below_alloc _ _⟩
                  rw [show validB vl hl = false from by
                    have := all_false_at (p := heapB) (l := hl) (k := k) (by rw [HB.out]; exact hk8) HH.out
                    simp [validB, this]]
                  rfl
            · obtain rfl : k = 8 := by omega
              have hall2 : hl.all heapB = true := all_take_full (by rw [HB.out]; exact HALL.out)
              have HALL2 := Lib.hid hall2
              clear hall2 HALL
              go_wp2
              go_ret
              refine ⟨?_, below_alloc _ _⟩
              rw [show validB vl hl = true from by simp [validB, HA.out, HB.out]; exact ⟨by simpa using HALL1.out, by simpa using HALL2.out⟩]
              rfl
    · subst hf1 hf2
      have hB' : ((hl.length : Int) != 8) = true := by simp; omega
      have hv : validB vl hl = false := by simp [validB, hB]
      have HV := Lib.hid hv
      rw [hA]
      clear hA hB hv h1 h2
      go_enter Try.func27, Try.ntmps27
      go_wp2
      go_ret
      exact ⟨by rw [HV.out]; rfl, below_alloc _ _⟩
  · subst hf1 hf2
    have hA' : ((vl.length : Int) != 8) = true := by simp; omega
    have hv : validB vl hl = false := by simp [validB, hA]
    have HV := Lib.hid hv
    clear hA hv h1 h2
    go_enter Try.func27, Try.ntmps27
    go_wp2
    go_ret
    exact ⟨by rw [HV.out]; rfl, below_alloc _ _⟩
end Go.Proofs.Ytnhhfbhhglhocaa
