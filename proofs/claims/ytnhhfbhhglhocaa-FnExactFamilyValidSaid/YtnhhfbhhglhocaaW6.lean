/- Walks: the reference's small functions on states. -/
import Derived.Test.YtnhhfbhhglhocaaW5
import Derived.Deep.LoopGhost
namespace Go.Proofs.Ytnhhfbhhglhocaa
open Go.RowKit

set_option maxHeartbeats 400000 in
theorem l2Has_any (vs hv : Value) (hs : List Int) (n : Int) (w : World) (h : RInts w hv hs) (hl : 8 ≤ hs.length) :
    Calls Try.prog 122 #[.agg #[vs, hv], .int .i64 n] w fun e w' => e = .returned (.bool (alB hs n)) ∧ Below w.heap.size w w' := by
  have hm := h.len
  unfold maxLen at hm
  by_cases hn1 : 1 ≤ n
  · by_cases hn8 : n ≤ 8
    · have ha : isAddrB n = true := isAddrB_iff.2 ⟨hn1, hn8⟩
      obtain ⟨k, rfl⟩ : ∃ k : Nat, n = (k : Int) + 1 := ⟨(n - 1).toNat, by omega⟩
      obtain ⟨b, o, cap, rfl, hc, hcm, hcell⟩ := h.ne (by omega)
      have hg := hcell k (by omega)
      have hk : (k : Int) < hs.length := by omega
      have hfin : ct hs ((k : Int) + 1) = gi hs k := by
        unfold ct; rw [if_pos ha]; congr 1; omega
      have HF := Lib.hid hfin
      have hbl := World.block_lt_of_cell? w _ hg
      clear hfin h hcell ha
      go_enter Try.func122, Try.ntmps122
      go_wp2
      go_ret
      exact ⟨by rw [alB, HF.out]; rfl, below_alloc _ _⟩
    · have ha : ct hs n = -1 := by unfold ct; rw [if_neg (by rw [isAddrB_iff]; omega)]
      have HF := Lib.hid ha
      clear ha
      obtain ⟨a2, c2, rfl⟩ := h.form
      go_enter Try.func122, Try.ntmps122
      go_wp2
      go_ret
      exact ⟨by rw [alB, HF.out]; rfl, below_alloc _ _⟩
  · have ha : ct hs n = -1 := by unfold ct; rw [if_neg (by rw [isAddrB_iff]; omega)]
    have HF := Lib.hid ha
    clear ha
    obtain ⟨a2, c2, rfl⟩ := h.form
    go_enter Try.func122, Try.ntmps122
    go_wp2
    go_ret
    exact ⟨by rw [alB, HF.out]; rfl, below_alloc _ _⟩
theorem RInts.cells {w : World} {v : Value} {l : List Int} (h : RInts w v l) :
    ∃ a cap, v = .slice a l.length cap ∧ ∀ i, i < l.length → ∃ b o, a = some ⟨b, o, none⟩ ∧ b < w.heap.size ∧ w.cell? ⟨b, o + i, none⟩ = some (.int .i64 (gi l i)) := by
  rcases h with ⟨a, cap, rfl, h, _⟩ | ⟨b, o, cap, rfl, h1, h2, h3⟩
  · exact ⟨a, cap, by rw [h], fun i hi => by omega⟩
  · exact ⟨_, cap, rfl, fun i hi => ⟨b, o, rfl, World.block_lt_of_cell? w _ (h3 i (by omega)), h3 i (by omega)⟩⟩

set_option maxHeartbeats 800000 in
theorem specStateValid_any (vs hv : Value) (vl hl : List Int) (w : World) (h1 : RInts w vs vl) (h2 : RInts w hv hl) :
    Calls Try.prog 58 #[.agg #[vs, hv]] w fun e w' => e = .returned (.bool (validB vl hl)) ∧ Below w.heap.size w w' := by
  have hm1 := h1.len
  have hm2 := h2.len
  unfold maxLen at hm1 hm2
  obtain ⟨a1, c1, rfl, hf1⟩ := h1.cells
  obtain ⟨a2, c2, rfl, hf2⟩ := h2.cells
  have CELL1 := Lib.hid hf1
  have CELL2 := Lib.hid hf2
  clear hf1 hf2 h1 h2
  go_enter Try.func58, Try.ntmps58
  go_wp2
  go_loopg [3] vl.length (fun q i wr => ∃ k : Nat, k + q = vl.length ∧ i = .int .i64 k ∧ (vl.take k).all isTermB = true ∧ wr = w.alloc (.cells #[.slice a1 vl.length c1, .slice a2 hl.length c2] 34))
  case atStart => exact ⟨0, by omega, rfl, rfl, rfl⟩
  case round =>
    obtain ⟨k, hk, rfl, hall, rfl⟩ := hrel
    have HALL := Lib.hid hall
    have HK := Lib.hid hk
    clear hall hk
    by_cases hk8 : k < vl.length
    · obtain ⟨b, o, rfl, hbl, hc⟩ := CELL1.out k hk8
      by_cases ht : isTermB (gi vl k) = true
      · go_wp2_with (go_at_call 121; refine (l2Addr_any _ _).mono ?_; rintro e w' ⟨rfl, rfl⟩)
        go_roundg (gk - 1)
        case rel => exact ⟨k + 1, by have := HK.out; omega, by go_num, all_take_succ hk8 HALL.out ht, rfl⟩
        case measure => have := HK.out; omega
      · have ht' : isTermB (gi vl k) = false := by simpa using ht
        clear ht
        go_wp2_with (go_at_call 121; refine (l2Addr_any _ _).mono ?_; rintro e w' ⟨rfl, rfl⟩)
        go_ret
        refine ⟨?_, below_alloc _ _⟩
        rw [show validB vl hl = false from by
          have := all_false_at (p := isTermB) (l := vl) (k := k) hk8 ht'
          simp [validB, this]]
        rfl
    · obtain rfl : k = vl.length := by have := HK.out; omega
      have hall1 : vl.all isTermB = true := all_take_full HALL.out
      have HALL1 := Lib.hid hall1
      clear hall1 HALL CELL1 HK hk8
      go_wp2
      go_loopg [4] hl.length (fun q i wr => ∃ k : Nat, k + q = hl.length ∧ i = .int .i64 k ∧ (hl.take k).all heapB = true ∧ wr = w.alloc (.cells #[.slice a1 vl.length c1, .slice a2 hl.length c2] 34))
      case atStart => exact ⟨0, by omega, rfl, rfl, rfl⟩
      case round =>
        obtain ⟨k, hk, rfl, hall, rfl⟩ := hrel
        have HALL := Lib.hid hall
        have HK := Lib.hid hk
        clear hall hk
        by_cases hk8 : k < hl.length
        · obtain ⟨b, o, rfl, hbl, hc⟩ := CELL2.out k hk8
          by_cases hn1 : gi hl k = -1
          · have hh : heapB (gi hl k) = true := by rw [hn1]; rfl
            have HH := Lib.hid hh
            have hne : (gi hl k != -1) = false := by rw [hn1]; rfl
            clear hh hn1
            go_wp2_with (go_at_call 121; refine (l2Addr_any _ _).mono ?_; rintro e w' ⟨rfl, rfl⟩)
            go_roundg (gk - 1)
            case rel => exact ⟨k + 1, by have := HK.out; omega, by go_num, all_take_succ hk8 HALL.out HH.out, rfl⟩
            case measure => have := HK.out; omega
          · have hne : (gi hl k != -1) = true := by simpa using hn1
            have hbe : (gi hl k == -1) = false := by simpa using hn1
            by_cases ht : isTermB (gi hl k) = true
            · have hh : heapB (gi hl k) = true := by rw [heapB, ht]; simp
              have HH := Lib.hid hh
              clear hh hn1 hbe
              go_wp2_with (go_at_call 121; refine (l2Addr_any _ _).mono ?_; rintro e w' ⟨rfl, rfl⟩)
              go_roundg (gk - 1)
              case rel => exact ⟨k + 1, by have := HK.out; omega, by go_num, all_take_succ hk8 HALL.out HH.out, rfl⟩
              case measure => have := HK.out; omega
            · have ht' : isTermB (gi hl k) = false := by simpa using ht
              have hh : heapB (gi hl k) = false := by rw [heapB, ht', hbe]; rfl
              have HH := Lib.hid hh
              clear hh hn1 hbe ht
              go_wp2_with (go_at_call 121; refine (l2Addr_any _ _).mono ?_; rintro e w' ⟨rfl, rfl⟩)
              go_ret
              refine ⟨?_, below_alloc _ _⟩
              rw [show validB vl hl = false from by
                have := all_false_at (p := heapB) (l := hl) (k := k) hk8 HH.out
                simp [validB, this]]
              rfl
        · obtain rfl : k = hl.length := by have := HK.out; omega
          have hall2 : hl.all heapB = true := all_take_full HALL.out
          have hfin : validB vl hl = (decide ((vl.length : Int) = 8) && decide ((hl.length : Int) = 8)) := by
            have e1 : ∀ n : Nat, (n == 8) = decide ((n : Int) = 8) := by
              intro n; rw [Bool.eq_iff_iff]; simp; omega
            unfold validB
            rw [HALL1.out, hall2, e1, e1]; simp
          have HF := Lib.hid hfin
          clear hall2 HALL hfin
          by_cases hA : (vl.length : Int) = 8
          · go_wp2
            go_ret
            refine ⟨?_, below_alloc _ _⟩
            rw [HF.out]; simp [hA]; rw [Bool.eq_iff_iff]; simp
          · have hA' : ((vl.length : Int) == 8) = false := by simpa using hA
            go_wp2
            go_ret
            refine ⟨?_, below_alloc _ _⟩
            rw [HF.out]; simp [hA]

/-! ### Flags -/
/-- The bools that stand for a set of numbers up to 8. -/
def flagsOf (m : Nat) : List Value := (List.range 9).map fun n => .bool (m.testBit n)
theorem flags_at (m k : Nat) (h : k < 9) : (flagsOf m)[k]? = some (.bool (m.testBit k)) := by simp [flagsOf, h]
theorem flags_set (m k : Nat) (_h : k < 9) : (flagsOf m).set k (.bool true) = flagsOf (m ||| 2 ^ k) := by
  apply List.ext_getElem?
  intro i
  rw [List.getElem?_set]
  by_cases hi : i < 9
  · rw [flags_at _ _ hi, flags_at _ _ hi, testBit_or_pow]
    by_cases hk : k = i
    · subst hk; simp [flagsOf, hi]
    · simp [hk]
  · have h1 : (flagsOf m)[i]? = none := by simp [flagsOf]; omega
    have h2 : (flagsOf (m ||| 2 ^ k))[i]? = none := by simp [flagsOf]; omega
    rw [h1, h2]
    by_cases hk : k = i
    · subst hk; omega
    · simp [hk]

set_option maxHeartbeats 400000 in
theorem l3List_any (m B : Nat) (v : Value) (w : World) (h : w.ownsRow B 4 1 v 9 (flagsOf m)) :
    Calls Try.prog 140 #[v] w fun e w' => ∃ v', e = .returned v' ∧ w'.ownsRow w.heap.size 3 1 v' (sel (fun n => m.testBit n) 0 9).length (ints (sel (fun n => m.testBit n) 0 9)) ∧ Below w.heap.size w w' := by
  obtain ⟨g, cap, rfl⟩ : ∃ g cap, v = .slice (some ⟨g, 0, none⟩) 9 cap := by
    rcases h.2 with ⟨_, h⟩ | ⟨g, cap, _, rfl, _⟩
    · omega
    · exact ⟨g, cap, rfl⟩
  have hgl := (h.lt g rfl).2
  have hc : ∀ k, k < 9 → w.cell? ⟨g, k, none⟩ = some (.bool (m.testBit k)) := fun k hk => by
    rw [h.cellAt k (by omega), flags_at m k hk]
  have HC := Lib.hid hc
  clear hc h
  go_enter Try.func140, Try.ntmps140
  go_wp2
  go_loopg [3, 4] 9 (fun q v i wr => ∃ k : Nat, k + q = 9 ∧ i = .int .i64 k ∧ wr.ownsRow w.heap.size 3 1 v (sel (fun n => m.testBit n) 0 k).length (ints (sel (fun n => m.testBit n) 0 k)) ∧ Below w.heap.size w wr)
  case atStart => exact ⟨0, by omega, rfl, by
    have := World.ownsRow_lit (size := 1) w #[] 0 (Nat.le_refl _) (by unfold maxLen; omega) rfl (e := 3)
    simpa [sel_zero, ints] using this, below_alloc _ _⟩
  case round =>
    obtain ⟨k, hk, rfl, hown, hb⟩ := hrel
    have hs := hb.size
    have HK := Lib.hid hk
    clear hk
    by_cases hk8 : k < 9
    · have hck := cell_below hb (p := ⟨g, k, none⟩) hgl (HC.out k hk8)
      by_cases hbit : m.testBit (0 + k) = true
      · have hl := sel_len (fun n => m.testBit n) 0 k
        have hy := sel_yes (p := fun n => m.testBit n) (a := 0) (k := k) hbit
        have e2 : (((0 + k : Nat) : Int)) = (k : Int) := by omega
        rw [e2] at hy
        rw [Nat.zero_add] at hbit
        rw [hbit] at hck
        have HY := Lib.hid hy
        clear hy e2 hbit
        go_wp2_with (at_builtin; refine app_int _ rfl _ _ rfl w.heap.size _ _ rfl (own_keep hown (below_alloc _ _)) ⟨wr.heap.size, 0, none⟩ _ rfl (cell_new1 _ _ _) (by omega) (by simp; omega) ?_; intro v' w1 hown1 hf1)
        go_roundg (gk - 1)
        case rel => exact ⟨k + 1, by have := HK.out; omega, by go_num, by rw [HY.out]; exact hown1, below_own (own_keep hown (below_alloc _ _)) hf1 (hb.trans ((below_alloc _ _).mono hs)) (by simp; omega)⟩
        case measure => have := HK.out; omega
      · have hbit' : m.testBit (0 + k) = false := by simpa using hbit
        have hy := sel_no (p := fun n => m.testBit n) (a := 0) (k := k) hbit'
        rw [Nat.zero_add] at hbit'
        rw [hbit'] at hck
        have HY := Lib.hid hy
        clear hy hbit hbit'
        go_wp2
        go_roundg (gk - 1)
        case rel => exact ⟨k + 1, by have := HK.out; omega, by go_num, by rw [HY.out]; exact hown, hb⟩
        case measure => have := HK.out; omega
    · obtain rfl : k = 9 := by have := HK.out; omega
      go_wp2
      go_ret
      exact ⟨_, rfl, hown, hb⟩
end Go.Proofs.Ytnhhfbhhglhocaa
