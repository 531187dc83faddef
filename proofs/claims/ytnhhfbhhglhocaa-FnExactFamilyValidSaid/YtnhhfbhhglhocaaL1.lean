/- Walks: the helpers of the laws: sizes, copies, comparisons, marks. -/
import Derived.Test.YtnhhfbhhglhocaaW6
import Derived.Test.YtnhhfbhhglhocaaQuiet
namespace Go.Proofs.Ytnhhfbhhglhocaa
open Go.RowKit

/-- Two lists agree up to k. -/
theorem take_eq_succ {l1 l2 : List Int} {k : Nat} (h1 : k < l1.length) (h2 : k < l2.length) (h : l1.take k = l2.take k) (e : gi l1 k = gi l2 k) : l1.take (k + 1) = l2.take (k + 1) := by
  rw [List.take_succ_eq_append_getElem h1, List.take_succ_eq_append_getElem h2, h]
  rw [gi_of h1, gi_of h2] at e
  rw [e]

theorem ne_of_gi {l1 l2 : List Int} {k : Nat} (e : ¬ gi l1 k = gi l2 k) : ¬ l1 = l2 := fun h => e (by rw [h])

set_option maxHeartbeats 400000 in
theorem eqIntS_any (v1 v2 : Value) (l1 l2 : List Int) (w : World) (h1 : RInts w v1 l1) (h2 : RInts w v2 l2) :
    Calls Try.prog 64 #[v1, v2] w fun e w' => e = .returned (.bool (decide (l1 = l2))) ∧ Below w.heap.size w w' := by
  have hm1 := h1.len
  have hm2 := h2.len
  unfold maxLen at hm1 hm2
  obtain ⟨a1, c1, rfl, hf1⟩ := h1.cells
  obtain ⟨a2, c2, rfl, hf2⟩ := h2.cells
  by_cases hl : l1.length = l2.length
  · have hle : l1.length ≤ l2.length := by omega
    have hge : l2.length ≤ l1.length := by omega
    have HL := Lib.hid hl
    have F1 := Lib.hid hf1
    have F2 := Lib.hid hf2
    have hne : ((l1.length : Int) != (l2.length : Int)) = false := by simp [hl]
    clear hl hf1 hf2 h1 h2
    go_enter Try.func64, Try.ntmps64
    go_wp2
    go_loopg [5] l1.length (fun q i wr => ∃ k : Nat, k + q = l1.length ∧ i = .int .i64 k ∧ l1.take k = l2.take k ∧ Below w.heap.size w wr)
    case atStart => exact ⟨0, by omega, rfl, by simp, Below.refl _ _⟩
    case round =>
      obtain ⟨k, hk, rfl, ht, hb⟩ := hrel
      have HK := Lib.hid hk
      have HT := Lib.hid ht
      clear hk ht
      by_cases hk8 : k < l1.length
      · have hk2 : k < l2.length := by omega
        obtain ⟨b1, o1, rfl, hbl1, hc1⟩ := F1.out k hk8
        obtain ⟨b2, o2, rfl, hbl2, hc2⟩ := F2.out k hk2
        have hc1r := cell_below hb hbl1 hc1
        have hc2r := cell_below hb hbl2 hc2
        have hs := hb.size
        have g1 : b1 < wr.heap.size := by omega
        have g2 : b2 < wr.heap.size := by omega
        have i1 : (k : Int) < (l1.length : Int) := by omega
        have i2 : (k : Int) < (l2.length : Int) := by omega
        by_cases he : gi l1 k = gi l2 k
        · have hne2 : (gi l1 k != gi l2 k) = false := by simp [he]
          have HE := Lib.hid he
          clear he hc1 hc2
          go_wp2
          refine wp_region_ext (by kernel_rfl) (by kernel_rfl) ?_
          repeat (go_big_quiet_step (fail))
          refine wpQuiet_nil ?_
          intro w2 hb2
          go_wp2
          go_roundg (gk - 1)
          case rel => exact ⟨k + 1, by have := HK.out; omega, by go_num, take_eq_succ hk8 hk2 HT.out HE.out, hb.trans (hb2.mono hs)⟩
          case measure => have := HK.out; omega
        · have hne2 : (gi l1 k != gi l2 k) = true := by simpa using he
          have hfin : decide (l1 = l2) = false := by simpa using ne_of_gi he
          have HF := Lib.hid hfin
          clear he hc1 hc2 hfin
          go_wp2
          refine wp_region_ext (by kernel_rfl) (by kernel_rfl) ?_
          repeat (go_big_quiet_step (fail))
          refine wpQuiet_nil ?_
          intro w2 hb2
          go_wp2
          go_ret
          exact ⟨by rw [HF.out]; rfl, hb.trans (hb2.mono hs)⟩
      · obtain rfl : k = l1.length := by have := HK.out; omega
        have hfin : decide (l1 = l2) = true := by
          have := HT.out
          rw [List.take_length, HL.out, List.take_length] at this
          simpa using this
        have HF := Lib.hid hfin
        clear hfin HT
        go_wp2
        go_ret
        exact ⟨by rw [HF.out]; rfl, hb⟩
  · have hne : ((l1.length : Int) != (l2.length : Int)) = true := by simp; omega
    have hfin : decide (l1 = l2) = false := by simpa using fun h => hl (by rw [h])
    have HF := Lib.hid hfin
    clear hl hfin
    go_enter Try.func64, Try.ntmps64
    go_wp2
    go_ret
    exact ⟨by rw [HF.out]; rfl, Below.refl _ _⟩
set_option maxHeartbeats 400000 in
theorem eqState_any (v1 v2 u1 u2 : Value) (l1 l2 m1 m2 : List Int) (w : World) (h1 : RInts w v1 l1) (h2 : RInts w v2 l2) (k1 : RInts w u1 m1) (k2 : RInts w u2 m2) :
    Calls Try.prog 22 #[.agg #[v1, v2], .agg #[u1, u2]] w fun e w' => e = .returned (.bool (decide (l1 = m1) && decide (l2 = m2))) ∧ Below w.heap.size w w' := by
  by_cases e1 : l1 = m1
  · by_cases e2 : l2 = m2
    · have d1 : decide (l1 = m1) = true := by simpa using e1
      have d2 : decide (l2 = m2) = true := by simpa using e2
      clear e1 e2
      go_enter Try.func22, Try.ntmps22
      go_wp2_with fail
      refine (eqIntS_any _ _ l1 m1 _ ((h1.alloc _).alloc _) ((k1.alloc _).alloc _)).mono ?_
      rintro e w1 ⟨rfl, hb1⟩
      have hc1 := cell_below hb1 (p := ⟨w.heap.size, 1, none⟩) (v := v2) (by simp; omega) (by simp)
      have hc2 := cell_below hb1 (p := ⟨w.heap.size + 1, 1, none⟩) (v := u2) (by simp) (by simp)
      go_wp2_with fail
      refine (eqIntS_any _ _ l2 m2 _ (((h2.alloc _).alloc _).keep hb1) (((k2.alloc _).alloc _).keep hb1)).mono ?_
      rintro e w2 ⟨rfl, hb2⟩
      go_wp2
      go_ret
      exact ⟨by simp [d1, d2], bt (bt (bt (below_alloc _ _) (below_alloc _ _)) hb1) hb2⟩
    · have d1 : decide (l1 = m1) = true := by simpa using e1
      have d2 : decide (l2 = m2) = false := by simpa using e2
      clear e1 e2
      go_enter Try.func22, Try.ntmps22
      go_wp2_with fail
      refine (eqIntS_any _ _ l1 m1 _ ((h1.alloc _).alloc _) ((k1.alloc _).alloc _)).mono ?_
      rintro e w1 ⟨rfl, hb1⟩
      have hc1 := cell_below hb1 (p := ⟨w.heap.size, 1, none⟩) (v := v2) (by simp; omega) (by simp)
      have hc2 := cell_below hb1 (p := ⟨w.heap.size + 1, 1, none⟩) (v := u2) (by simp) (by simp)
      go_wp2_with fail
      refine (eqIntS_any _ _ l2 m2 _ (((h2.alloc _).alloc _).keep hb1) (((k2.alloc _).alloc _).keep hb1)).mono ?_
      rintro e w2 ⟨rfl, hb2⟩
      go_wp2
      go_ret
      exact ⟨by simp [d1, d2], bt (bt (bt (below_alloc _ _) (below_alloc _ _)) hb1) hb2⟩
  · have d1 : decide (l1 = m1) = false := by simpa using e1
    clear e1
    go_enter Try.func22, Try.ntmps22
    go_wp2_with fail
    refine (eqIntS_any _ _ l1 m1 _ ((h1.alloc _).alloc _) ((k1.alloc _).alloc _)).mono ?_
    rintro e w1 ⟨rfl, hb1⟩
    go_wp2
    go_ret
    exact ⟨by simp [d1], bt (bt (below_alloc _ _) (below_alloc _ _)) hb1⟩
set_option maxHeartbeats 400000 in
theorem szIntS_fit (a : Option Addr) (n cap : Nat) (left : Int) (w : World) (h1 : left ≤ 1048576) (hn : (n : Int) ≤ left) :
    Calls Try.prog 57 #[.slice a n cap, .int .i64 left] w fun e w' => e = .returned (.int .i64 (left - n)) ∧ w = w' := by
  go_enter Try.func57, Try.ntmps57
  go_wp2
  go_ret
  simp
set_option maxHeartbeats 400000 in
theorem szIntS_big (a : Option Addr) (n cap : Nat) (left : Int) (w : World) (h0 : 0 ≤ left) (h1 : left < n) (hn : n ≤ maxLen) :
    Calls Try.prog 57 #[.slice a n cap, .int .i64 left] w fun e w' => e = .returned (.int .i64 (-1)) ∧ w = w' := by
  unfold maxLen at hn
  go_enter Try.func57, Try.ntmps57
  go_wp2
  go_ret
  simp
set_option maxHeartbeats 400000 in
theorem szState_fit (a1 a2 : Option Addr) (n1 n2 c1 c2 : Nat) (left : Int) (w : World) (h1 : left ≤ 1048576) (hn : (n1 : Int) + n2 ≤ left) :
    Calls Try.prog 18 #[.agg #[.slice a1 n1 c1, .slice a2 n2 c2], .int .i64 left] w fun e w' => e = .returned (.int .i64 (left - n1 - n2)) ∧ Below w.heap.size w w' := by
  go_enter Try.func18, Try.ntmps18
  go_wp2_with fail
  refine (szIntS_fit _ _ _ _ _ h1 (by omega)).mono ?_; rintro e w' ⟨rfl, rfl⟩
  go_wp2_with fail
  refine (szIntS_fit _ _ _ _ _ (by omega) (by omega)).mono ?_; rintro e w' ⟨rfl, rfl⟩
  go_wp2
  go_ret
  exact ⟨rfl, below_alloc _ _⟩
set_option maxHeartbeats 400000 in
theorem szState_big (a1 a2 : Option Addr) (n1 n2 c1 c2 : Nat) (left : Int) (w : World) (h0 : 0 ≤ left) (h1 : left ≤ 1048576) (hn : left < (n1 : Int) + n2) (hn1 : n1 ≤ maxLen) (hn2 : n2 ≤ maxLen) :
    Calls Try.prog 18 #[.agg #[.slice a1 n1 c1, .slice a2 n2 c2], .int .i64 left] w fun e w' => e = .returned (.int .i64 (-1)) ∧ Below w.heap.size w w' := by
  by_cases hlt : (n1 : Int) ≤ left
  · go_enter Try.func18, Try.ntmps18
    go_wp2_with fail
    refine (szIntS_fit _ _ _ _ _ h1 hlt).mono ?_; rintro e w' ⟨rfl, rfl⟩
    go_wp2_with fail
    refine (szIntS_big _ _ _ _ _ (by omega) (by omega) hn2).mono ?_; rintro e w' ⟨rfl, rfl⟩
    go_wp2
    go_ret
    exact ⟨rfl, below_alloc _ _⟩
  · go_enter Try.func18, Try.ntmps18
    go_wp2_with fail
    refine (szIntS_big _ _ _ _ _ h0 (by omega) hn1).mono ?_; rintro e w' ⟨rfl, rfl⟩
    go_wp2
    go_ret
    exact ⟨rfl, below_alloc _ _⟩
end Go.Proofs.Ytnhhfbhhglhocaa
