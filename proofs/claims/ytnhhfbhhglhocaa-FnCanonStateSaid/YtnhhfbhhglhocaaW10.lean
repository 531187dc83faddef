/- Walks: GarbageCells and CycleCells of the program. -/
import Derived.Test.YtnhhfbhhglhocaaGarb
namespace Go.Proofs.Ytnhhfbhhglhocaa
open Go.RowKit

set_option maxHeartbeats 800000 in
theorem garbageCells_any (vs hv : Value) (vl hl : List Int) (w : World) (h1 : RInts w vs vl) (h2 : RInts w hv hl) :
    Calls Try.prog 38 #[.agg #[vs, hv]] w fun e w' => ∃ v, e = .returned v ∧ w'.ownsRow w.heap.size 3 1 v (garbageL vl hl).length (ints (garbageL vl hl)) ∧ Below w.heap.size w w' := by
  by_cases hv1 : validB vl hl = true
  · have hlen := valid_len hv1
    have HLEN := Lib.hid hlen
    clear hlen
    have hfin : garbageL vl hl = sel (fun n => (garbN vl hl 4).testBit n) 1 8 := by rw [garbageL, if_pos hv1, garb_sel]
    have HF := Lib.hid hfin
    clear hfin
    have g1 := h1.alloc (.cells #[vs, hv] 34)
    have g2 := h2.alloc (.cells #[vs, hv] 34)
    go_enter Try.func38, Try.ntmps38
    go_wp2_with fail
    refine (stateValid_any _ _ vl hl _ g1 g2).mono ?_
    rintro e w1 ⟨rfl, hW⟩
    have hc0 := cell_keep hW (p := ⟨w.heap.size, 0, none⟩) (v := vs) (by simp)
    have hc1 := cell_keep hW (p := ⟨w.heap.size, 1, none⟩) (v := hv) (by simp)
    go_wp2_with fail
    refine (usedIn_any _ _ hl _ (g2.keep hW) HLEN.out.2).mono ?_
    rintro e w2 ⟨rfl, hb⟩
    replace hW := bt hW hb
    clear hb hc0 hc1
    go_wp2
    go_loopg [3, 4] 4 (fun q x i wr => ∃ k : Nat, k + q = 4 ∧ i = .int .i64 (k + 1 : Nat) ∧ x = .int .u16 (garbN vl hl k) ∧ Below (w.alloc (.cells #[vs, hv] 34)).heap.size (w.alloc (.cells #[vs, hv] 34)) wr)
    case atStart => exact ⟨0, by omega, rfl, rfl, hW⟩
    case round =>
      clear hW
      obtain ⟨k, hk, rfl, rfl, hW⟩ := hrel
      have HK := Lib.hid hk
      clear hk
      have e1 : (((k + 1 : Nat) : Int)) = (k : Int) + 1 := by omega
      rw [e1]
      clear e1
      have hc0 := cell_keep hW (p := ⟨w.heap.size, 0, none⟩) (v := vs) (by simp)
      have hc1 := cell_keep hW (p := ⟨w.heap.size, 1, none⟩) (v := hv) (by simp)
      have hz : w.heap.size < wr.heap.size := by have := hW.size; simp at this; omega
      by_cases hk8 : k < 4
      · have hlt := garbN_lt vl hl k
        have hlt2 := reachF_lt (hs := hl) 0 (tv vl ((k : Int) + 1)) (by omega)
        have ho := u16_andNot_nat (garbN vl hl k) (reachF hl 0 (tv vl ((k : Int) + 1))) hlt hlt2
        have HO := Lib.hid ho
        clear ho
        go_wp2
        refine wp_region_ext (by kernel_rfl) (by kernel_rfl) ?_
        repeat (go_big_quiet_step ((first
          | (go_at_call 67; exact ext_same (termValue_any _ vl _ _ ((g1.keep hW).ext _) (by omega) (by rw [HLEN.out.1]; omega)))
          | (go_at_call 91; exact ext_c (reachedFrom_any _ _ hl _ _ ((g2.keep hW).ext _) HLEN.out.2)))))
        refine wpQuiet_nil ?_
        intro w3 hb
        replace hW := bt hW hb
        clear hc0 hc1 hb
        go_wp2
        go_roundg (gk - 1)
        case rel => exact ⟨k + 1, by have := HK.out; omega, by go_num, by rw [HO.out]; rfl, hW⟩
        case measure => have := HK.out; omega
      · obtain rfl : k = 4 := by have := HK.out; omega
        go_wp2_with fail
        refine (cellList_any _ _ (garbN_lt vl hl 4)).mono ?_
        rintro e w3 ⟨v, rfl, hown, hb⟩
        go_wp2
        go_ret
        exact ⟨_, rfl, by rw [HF.out]; exact own_mono hown (by have := hW.size; simp at this; omega), bt (bt (below_alloc _ _) hW) hb⟩
  · have hv' : validB vl hl = false := by simpa using hv1
    have hfin : garbageL vl hl = [] := by rw [garbageL, if_neg (by simp [hv'])]
    have HF := Lib.hid hfin
    clear hfin hv1
    go_enter Try.func38, Try.ntmps38
    go_wp2_with fail
    refine (stateValid_any _ _ vl hl _ (h1.alloc _) (h2.alloc _)).mono ?_
    rintro e w1 ⟨rfl, hb1⟩
    go_wp2
    go_ret
    exact ⟨_, rfl, by rw [HF.out]; exact World.ownsRow_nil _ _ _ _, bt (below_alloc _ _) hb1⟩
set_option maxHeartbeats 800000 in
theorem cycleCells_any (vs hv : Value) (vl hl : List Int) (w : World) (h1 : RInts w vs vl) (h2 : RInts w hv hl) :
    Calls Try.prog 39 #[.agg #[vs, hv]] w fun e w' => ∃ v, e = .returned v ∧ w'.ownsRow w.heap.size 3 1 v (cycleL vl hl).length (ints (cycleL vl hl)) ∧ Below w.heap.size w w' := by
  by_cases hv1 : validB vl hl = true
  · have hlen := valid_len hv1
    have HLEN := Lib.hid hlen
    clear hlen
    have hfin : cycleL vl hl = (usedL vl hl).filter (cycI hl) := by rw [cycleL, if_pos hv1, usedL, if_pos hv1, sel_filter]; rfl
    have hul : (usedL vl hl).length ≤ 8 := by rw [usedL, if_pos hv1]; exact sel_len _ _ _
    have HF := Lib.hid hfin
    clear hfin
    have g1 := h1.alloc (.cells #[vs, hv] 34)
    have g2 := h2.alloc (.cells #[vs, hv] 34)
    go_enter Try.func39, Try.ntmps39
    go_wp2_with fail
    refine (stateValid_any _ _ vl hl _ g1 g2).mono ?_
    rintro e w1 ⟨rfl, hW⟩
    have hc0 := cell_keep hW (p := ⟨w.heap.size, 0, none⟩) (v := vs) (by simp)
    have hc1 := cell_keep hW (p := ⟨w.heap.size, 1, none⟩) (v := hv) (by simp)
    go_wp2_with fail
    refine (usedCells_any _ _ vl hl _ (g1.keep hW) (g2.keep hW)).mono ?_
    rintro e w2 ⟨uv, rfl, hu, hb⟩
    replace hW := bt hW hb
    clear hb hc0 hc1
    obtain ⟨au, cu, rfl, hcells⟩ := (own_ints hu).1.cells
    have HC := Lib.hid hcells
    have hB := hW.size
    clear hcells hu
    simp at hB
    go_wp2
    go_loopg [3, 12] (usedL vl hl).length (fun q x i wr => ∃ k : Nat, k + q = (usedL vl hl).length ∧ i = .int .i64 k ∧ wr.ownsRow w2.heap.size 3 1 x (((usedL vl hl).take k).filter (cycI hl)).length (ints (((usedL vl hl).take k).filter (cycI hl))) ∧ Below w2.heap.size w2 wr)
    case atStart => exact ⟨0, by omega, rfl, World.ownsRow_nil _ _ _ _, Below.refl _ _⟩
    case round =>
      obtain ⟨k, hk, rfl, hown, hb2⟩ := hrel
      have HK := Lib.hid hk
      clear hk
      have hWr := bt hW hb2
      have hc0 := cell_keep hWr (p := ⟨w.heap.size, 0, none⟩) (v := vs) (by simp)
      have hc1 := cell_keep hWr (p := ⟨w.heap.size, 1, none⟩) (v := hv) (by simp)
      have hz2 := hb2.size
      have hz : w.heap.size < wr.heap.size := by omega
      by_cases hk8 : k < (usedL vl hl).length
      · obtain ⟨b, o, rfl, hbl, hc⟩ := HC.out k hk8
        have hcr := cell_keep hb2 hc
        have hki : (k : Int) < ((usedL vl hl).length : Int) := by omega
        have hlt := reachF_lt (hs := hl) 0 (ct hl (gi (usedL vl hl) k)) (by omega)
        have hfl : (((usedL vl hl).take k).filter (cycI hl)).length ≤ 8 := Nat.le_trans (List.length_filter_le _ _) (by rw [List.length_take]; omega)
        by_cases hp : cycI hl (gi (usedL vl hl) k) = true
        · have hy := filter_take_yes hk8 hp
          have HY := Lib.hid hy
          have hp' : hasB (reachF hl 0 (ct hl (gi (usedL vl hl) k))) (gi (usedL vl hl) k) = true := hp
          clear hy hp hc
          go_wp2
          refine wp_region_ext (by kernel_rfl) (by kernel_rfl) ?_
          repeat (go_big_quiet_step ((first
            | (go_at_call 93; exact ext_c (content_any _ _ hl _ _ ((g2.keep hWr).ext _) (by rw [HLEN.out.2]; omega)))
            | (go_at_call 91; exact ext_c (reachedFrom_any _ _ hl _ _ ((g2.keep hWr).ext _) HLEN.out.2))
            | (go_at_call 94; exact ext_same (cellHas_val _ _ _ _ hlt hp')))))
          refine wpQuiet_nil ?_
          intro w3 hb3
          have hown3 := own_keep hown hb3
          have hb23 := hb2.trans (hb3.mono hz2)
          have hz3 := hb23.size
          go_wp2_with (at_builtin; refine app_int _ rfl _ _ rfl w2.heap.size _ _ rfl (own_keep hown3 (below_alloc _ _)) ⟨w3.heap.size, 0, none⟩ _ rfl (cell_new1 _ _ _) (by omega) (by simp; omega) ?_; intro v' w4 hown4 hf4)
          go_roundg (gk - 1)
          case rel => exact ⟨k + 1, by have := HK.out; omega, by go_num, by rw [HY.out]; exact hown4, below_own (own_keep hown3 (below_alloc _ _)) hf4 (hb23.trans ((below_alloc _ _).mono hz3)) (by simp; omega)⟩
          case measure => have := HK.out; omega
        · have hpf : cycI hl (gi (usedL vl hl) k) = false := by simpa using hp
          have hy := filter_take_no hk8 hpf
          have HY := Lib.hid hy
          have hp' : hasB (reachF hl 0 (ct hl (gi (usedL vl hl) k))) (gi (usedL vl hl) k) = false := hpf
          clear hy hp hc hpf
          go_wp2
          refine wp_region_ext (by kernel_rfl) (by kernel_rfl) ?_
          repeat (go_big_quiet_step ((first
            | (go_at_call 93; exact ext_c (content_any _ _ hl _ _ ((g2.keep hWr).ext _) (by rw [HLEN.out.2]; omega)))
            | (go_at_call 91; exact ext_c (reachedFrom_any _ _ hl _ _ ((g2.keep hWr).ext _) HLEN.out.2))
            | (go_at_call 94; exact ext_same (cellHas_val _ _ _ _ hlt hp')))))
          refine wpQuiet_nil ?_
          intro w3 hb3
          go_wp2
          go_roundg (gk - 1)
          case rel => exact ⟨k + 1, by have := HK.out; omega, by go_num, by rw [HY.out]; exact own_keep hown hb3, hb2.trans (hb3.mono hz2)⟩
          case measure => have := HK.out; omega
      · obtain rfl : k = (usedL vl hl).length := by have := HK.out; omega
        go_wp2
        go_ret
        rw [List.take_length] at hown
        exact ⟨_, rfl, by rw [HF.out]; exact own_mono hown (by omega), bt (bt (below_alloc _ _) hW) hb2⟩
  · have hv' : validB vl hl = false := by simpa using hv1
    have hfin : cycleL vl hl = [] := by rw [cycleL, if_neg (by simp [hv'])]
    have HF := Lib.hid hfin
    clear hfin hv1
    go_enter Try.func39, Try.ntmps39
    go_wp2_with fail
    refine (stateValid_any _ _ vl hl _ (h1.alloc _) (h2.alloc _)).mono ?_
    rintro e w1 ⟨rfl, hb1⟩
    go_wp2
    go_ret
    exact ⟨_, rfl, by rw [HF.out]; exact World.ownsRow_nil _ _ _ _, bt (below_alloc _ _) hb1⟩
end Go.Proofs.Ytnhhfbhhglhocaa
