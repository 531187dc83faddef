/- Walks: used and reached cells; valid states. -/
import Derived.Test.YtnhhfbhhglhocaaReach
namespace Go.Proofs.Ytnhhfbhhglhocaa
open Go.RowKit

set_option maxHeartbeats 400000 in
theorem usedIn_any (vs hv : Value) (hs : List Int) (w : World) (h : RInts w hv hs) (hl : hs.length = 8) :
    Calls Try.prog 90 #[.agg #[vs, hv]] w fun e w' => e = .returned (.int .u16 (usedN hs 8)) ∧ Below w.heap.size w w' := by
  go_enter Try.func90, Try.ntmps90
  go_wp2
  go_loopw [3, 4] (fun x i wr => ∃ k : Nat, k ≤ 8 ∧ x = .int .u16 (usedN hs k) ∧ i = .int .i64 (k + 1 : Nat) ∧ Below w.heap.size w wr ∧ wr.cell? ⟨w.heap.size, 0, none⟩ = some vs ∧ wr.cell? ⟨w.heap.size, 1, none⟩ = some hv ∧ w.heap.size < wr.heap.size) (fun _ i _ => 9 - (intOf i).toNat)
  case atStart => exact ⟨0, by omega, rfl, rfl, below_alloc _ _, by simp, by simp, by simp⟩
  case round =>
    obtain ⟨k, hk, rfl, rfl, hb, hc0, hc1, hsz⟩ := hrel
    by_cases hk8 : k < 8
    · have e1 : (((k + 1 : Nat) : Int)) = (k : Int) + 1 := by omega
      rw [e1]
      clear e1
      have hlt := usedN_lt hs k (by omega)
      by_cases hal : alB hs ((k : Int) + 1) = true
      · have hy : usedN hs (k + 1) = usedN hs k ||| 2 ^ (k + 1) := by rw [usedN, if_pos hal]
        have ho := or_bit (usedN hs k) (k + 1) hlt (by omega)
        have HY := Lib.hid hy
        have HO := Lib.hid ho
        clear hy ho
        go_wp2_with fail
        refine (allocated_any _ _ hs _ _ (h.keep hb) (by omega)).mono ?_
        rintro e w' ⟨rfl, hb'⟩
        go_wp2
        go_roundw
        case rel => exact ⟨k + 1, by omega, by rw [HY.out, ← HO.out], by go_num, hb.trans (hb'.mono hb.size), cell_below hb' (by simp; omega) hc0, cell_below hb' (by simp; omega) hc1, by have := hb'.size; omega⟩
        case measure => simp [intOf]; omega
      · have hal' : alB hs ((k : Int) + 1) = false := by simpa using hal
        have hy : usedN hs (k + 1) = usedN hs k := by rw [usedN, if_neg hal]
        have HY := Lib.hid hy
        clear hy hal
        go_wp2_with fail
        refine (allocated_any _ _ hs _ _ (h.keep hb) (by omega)).mono ?_
        rintro e w' ⟨rfl, hb'⟩
        go_wp2
        go_roundw
        case rel => exact ⟨k + 1, by omega, by rw [HY.out], by go_num, hb.trans (hb'.mono hb.size), cell_below hb' (by simp; omega) hc0, cell_below hb' (by simp; omega) hc1, by have := hb'.size; omega⟩
        case measure => simp [intOf]; omega
    · obtain rfl : k = 8 := by omega
      go_wp2
      go_ret
      exact ⟨rfl, hb⟩
set_option maxHeartbeats 400000 in
theorem reachedFrom_any (vs hv : Value) (hs : List Int) (v : Int) (w : World) (h : RInts w hv hs) (hl : hs.length = 8) :
    Calls Try.prog 91 #[.agg #[vs, hv], .int .i64 v] w fun e w' => e = .returned (.int .u16 (reachF hs 0 v)) ∧ Below w.heap.size w w' := by
  go_enter Try.func91, Try.ntmps91
  go_wp2
  go_loopw [1, 5] (fun x s wr => ∃ (m : Nat) (u : Int), m < 65536 ∧ s = .int .u16 m ∧ x = .int .i64 u ∧ reachF hs m u = reachF hs 0 v ∧ Below w.heap.size w wr ∧ wr.cell? ⟨w.heap.size, 0, none⟩ = some vs ∧ wr.cell? ⟨w.heap.size, 1, none⟩ = some hv ∧ w.heap.size < wr.heap.size) (fun _ s _ => 8 - cnt (intOf s).toNat)
  case atStart => exact ⟨0, v, by omega, rfl, rfl, rfl, below_alloc _ _, by simp, by simp, by simp⟩
  case round =>
    obtain ⟨m, u, hm, rfl, rfl, hr, hb, hc0, hc1, hsz⟩ := hrel
    have HR := Lib.hid hr
    clear hr
    by_cases hal : alB hs u = true
    · have hu := al_addr hal
      by_cases hh : hasB m u = true
      · have hfin : reachF hs 0 v = m := by rw [← HR.out, reachF_no]; simp [hh]
        have HF := Lib.hid hfin
        clear hfin HR
        go_wp2_with fail
        refine (allocated_any _ _ hs _ _ (h.keep hb) (by omega)).mono ?_
        rintro e w' ⟨rfl, hb'⟩
        go_wp2_with fail
        refine (cellHas_any _ _ _ hm).mono ?_
        rintro e w1 ⟨rfl, rfl⟩
        go_wp2
        go_ret
        exact ⟨by rw [HF.out]; rfl, hb.trans (hb'.mono hb.size)⟩
      · have hh' : hasB m u = false := by simpa using hh
        obtain ⟨j, rfl⟩ := Int.eq_ofNat_of_zero_le (show 0 ≤ u by omega)
        have hj : j < 16 := by omega
        have hst := reachF_yes hal hh'
        have hcn := cnt_step hal hh'
        have hcl := cnt_le (m ||| 2 ^ j)
        have ho := or_bit m j hm hj
        have HO := Lib.hid ho
        have HST := Lib.hid hst
        have HCN := Lib.hid hcn
        clear ho hst hcn hh
        go_wp2_with fail
        refine (allocated_any _ _ hs _ _ (h.keep hb) (by omega)).mono ?_
        rintro e w' ⟨rfl, hb'⟩
        go_wp2_with fail
        refine (cellHas_any _ _ _ hm).mono ?_
        rintro e w1 ⟨rfl, rfl⟩
        have hc0' := cell_below hb' (p := ⟨w.heap.size, 0, none⟩) (by simp; omega) hc0
        have hc1' := cell_below hb' (p := ⟨w.heap.size, 1, none⟩) (by simp; omega) hc1
        have hsz' := hb'.size
        go_wp2_with fail
        refine (content_any _ _ hs _ _ ((h.keep hb).keep hb') (by omega)).mono ?_
        rintro e w2 ⟨rfl, hb2⟩
        go_wp2
        go_roundw
        case rel => exact ⟨m ||| 2 ^ j, _, or_lt m j hm hj, by rw [← HO.out], rfl, by rw [← HR.out, HST.out]; rfl, hb.trans ((hb'.mono hb.size).trans (hb2.mono (by omega))), cell_below hb2 (by simp; omega) hc0', cell_below hb2 (by simp; omega) hc1', by have := hb2.size; omega⟩
        case measure =>
          have h1 := HCN.out
          have h2 := HO.out
          simp only [intOf]
          rw [h2]
          simp only [Int.toNat_natCast] at h1 ⊢
          omega
    · have hal' : alB hs u = false := by simpa using hal
      have hfin : reachF hs 0 v = m := by rw [← HR.out, reachF_no]; simp [hal']
      have HF := Lib.hid hfin
      clear hfin HR hal
      go_wp2_with fail
      refine (allocated_any _ _ hs _ _ (h.keep hb) (by omega)).mono ?_
      rintro e w' ⟨rfl, hb'⟩
      go_wp2
      go_ret
      exact ⟨by rw [HF.out]; rfl, hb.trans (hb'.mono hb.size)⟩
end Go.Proofs.Ytnhhfbhhglhocaa
