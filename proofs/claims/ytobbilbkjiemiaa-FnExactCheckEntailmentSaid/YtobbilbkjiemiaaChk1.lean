/- Walks: equal lists of numbers: the reference (l2Ints). -/
import Derived.Test.YtobbilbkjiemiaaCpy
import Derived.Test.YtobbilbkjiemiaaData1
import Derived.Deep.Cut
import Derived.Handy
namespace Go.Proofs.Ytobbilbkjiemiaa
open Go.RowKit

set_option maxRecDepth 100000 in
set_option maxHeartbeats 1600000 in
theorem l2Ints_any (v1 v2 : Value) (l1 l2 : List Int) (w : World) (h1 : RInts w v1 l1) (h2 : RInts w v2 l2) :
    Calls Try.prog 76 #[v1, v2] w fun e w' => e = .returned (.bool (decide (l1 = l2))) ∧ Below w.heap.size w w' := by
  have hm1 := h1.len
  have hm2 := h2.len
  unfold maxLen at hm1 hm2
  obtain ⟨a1, c1, rfl, hf1⟩ := h1.cells
  obtain ⟨a2, c2, rfl, hf2⟩ := h2.cells
  by_cases hl : l1.length = l2.length
  · have HL := Lib.hid hl
    have F1 := Lib.hid hf1
    have F2 := Lib.hid hf2
    have hne : ((l1.length : Int) != (l2.length : Int)) = false := by simp [hl]
    clear hl hf1 hf2 h1 h2
    go_enter Try.func76, Try.ntmps76
    go_wp2
    go_loopg [5] l1.length (fun q i wr => ∃ k : Nat, k + q = l1.length ∧ i = .int .i64 k ∧ l1.take k = l2.take k ∧ Below w.heap.size w wr)
    case atStart => exact ⟨0, by omega, rfl, by simp, Below.refl _ _⟩
    case round =>
      obtain ⟨k, hk, rfl, ht, hb⟩ := hrel
      have HK := Lib.hid hk
      have HT := Lib.hid ht
      clear hk ht
      by_cases hk8 : k < l1.length
      · have hk2 : k < l2.length := by have := HL.out; omega
        obtain ⟨b1, o1, rfl, hbl1, hc1⟩ := F1.out k hk8
        obtain ⟨b2, o2, rfl, hbl2, hc2⟩ := F2.out k hk2
        replace hc1 := cell_keep hb hc1
        replace hc2 := cell_keep hb hc2
        have z1 := World.block_lt_of_cell? wr _ hc1
        have z2 := World.block_lt_of_cell? wr _ hc2
        simp only at z1 z2
        have i1 : (k : Int) < (l1.length : Int) := by omega
        have i2 : (k : Int) < (l2.length : Int) := by omega
        have HB := Lib.hid hb
        by_cases he : gi l1 k = gi l2 k
        · have hne2 : (gi l1 k != gi l2 k) = false := by simp [he]
          have HE := Lib.hid he
          clear he hb
          go_wp2
          refine wp_region_ext (by kernel_rfl) (by kernel_rfl) ?_
          repeat (go_big_quiet_step ((fail)))
          refine wpQuiet_nil ?_
          intro w5 hb5
          go_wp2
          go_roundg (gk - 1)
          case rel => exact ⟨k + 1, by have := HK.out; omega, by go_num, take_eq_succ hk8 hk2 HT.out HE.out, bt HB.out hb5⟩
          case measure => have := HK.out; omega
        · have hne2 : (gi l1 k != gi l2 k) = true := by simpa using he
          have hfin : decide (l1 = l2) = false := by simpa using ne_of_gi he
          have HF := Lib.hid hfin
          clear he hfin hb
          go_wp2
          refine wp_region_ext (by kernel_rfl) (by kernel_rfl) ?_
          repeat (go_big_quiet_step ((fail)))
          refine wpQuiet_nil ?_
          intro w5 hb5
          go_wp2
          go_returns
          exact ⟨by rw [HF.out]; rfl, bt HB.out hb5⟩
      · obtain rfl : k = l1.length := by have := HK.out; omega
        have hfin : decide (l1 = l2) = true := by
          have := HT.out
          rw [List.take_length, HL.out, List.take_length] at this
          simpa using this
        have HF := Lib.hid hfin
        clear hfin HT
        go_wp2
        go_returns
        exact ⟨by rw [HF.out]; rfl, hb⟩
  · have hne : ((l1.length : Int) != (l2.length : Int)) = true := by simp; omega
    have HF := Lib.hid (show decide (l1 = l2) = false by rw [decide_eq_false_iff_not]; intro e; exact hl (by rw [e]))
    clear hl
    go_enter Try.func76, Try.ntmps76
    go_wp2
    go_returns
    exact ⟨by rw [HF.out]; rfl, Below.refl _ _⟩
end Go.Proofs.Ytobbilbkjiemiaa
