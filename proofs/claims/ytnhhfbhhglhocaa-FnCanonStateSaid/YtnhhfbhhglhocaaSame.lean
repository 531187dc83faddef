/- Walks: equal lists and equal states. -/
import Derived.Test.YtnhhfbhhglhocaaL1
import Derived.Test.YtnhhfbhhglhocaaExt
namespace Go.Proofs.Ytnhhfbhhglhocaa
open Go.RowKit

set_option maxHeartbeats 400000 in
theorem sameInts_any (v1 v2 : Value) (l1 l2 : List Int) (w : World) (h1 : RInts w v1 l1) (h2 : RInts w v2 l2) :
    Calls Try.prog 72 #[v1, v2] w fun e w' => e = .returned (.bool (decide (l1 = l2))) ∧ w = w' := by
  have hm1 := h1.len
  have hm2 := h2.len
  unfold maxLen at hm1 hm2
  obtain ⟨a1, c1, rfl, hf1⟩ := h1.cells
  obtain ⟨a2, c2, rfl, hf2⟩ := h2.cells
  by_cases hl : l1.length = l2.length
  · have hle : l1.length ≤ l2.length := by omega
    have hge : l2.length ≤ l1.length := by omega
    have HL := Lib.hid hl
    have F1 := Lib.hid hf1
    have F2 := Lib.hid hf2
    have hne : ((l1.length : Int) != (l2.length : Int)) = false := by simp [hl]
    clear hl hf1 hf2 h1 h2
    go_enter Try.func72, Try.ntmps72
    go_wp2
    go_loopg [14] l1.length (fun q i wr => ∃ k : Nat, k + q = l1.length ∧ i = .int .i64 k ∧ l1.take k = l2.take k ∧ w = wr)
    case atStart => exact ⟨0, by omega, rfl, by simp, rfl⟩
    case round =>
      obtain ⟨k, hk, rfl, ht, rfl⟩ := hrel
      have HK := Lib.hid hk
      have HT := Lib.hid ht
      clear hk ht
      by_cases hk8 : k < l1.length
      · have hk2 : k < l2.length := by omega
        obtain ⟨b1, o1, rfl, hbl1, hc1⟩ := F1.out k hk8
        obtain ⟨b2, o2, rfl, hbl2, hc2⟩ := F2.out k hk2
        have i1 : (k : Int) < (l1.length : Int) := by omega
        have i2 : (k : Int) < (l2.length : Int) := by omega
        by_cases he : gi l1 k = gi l2 k
        · have hne2 : (gi l1 k != gi l2 k) = false := by simp [he]
          have HE := Lib.hid he
          clear he
          go_wp2
          go_roundg (gk - 1)
          case rel => exact ⟨k + 1, by have := HK.out; omega, by go_num, take_eq_succ hk8 hk2 HT.out HE.out, rfl⟩
          case measure => have := HK.out; omega
        · have hne2 : (gi l1 k != gi l2 k) = true := by simpa using he
          have hfin : decide (l1 = l2) = false := by simpa using ne_of_gi he
          have HF := Lib.hid hfin
          clear he hfin
          go_wp2
          go_ret
          exact ⟨by rw [HF.out]; rfl, rfl⟩
      · obtain rfl : k = l1.length := by have := HK.out; omega
        have hfin : decide (l1 = l2) = true := by
          have := HT.out
          rw [List.take_length, HL.out, List.take_length] at this
          simpa using this
        have HF := Lib.hid hfin
        clear hfin HT
        go_wp2
        go_ret
        exact ⟨by rw [HF.out]; rfl, rfl⟩
  · have hne : ((l1.length : Int) != (l2.length : Int)) = true := by simp; omega
    have hfin : decide (l1 = l2) = false := by simpa using fun h => hl (by rw [h])
    have HF := Lib.hid hfin
    clear hl hfin
    go_enter Try.func72, Try.ntmps72
    go_wp2
    go_ret
    exact ⟨by rw [HF.out]; rfl, rfl⟩
set_option maxHeartbeats 400000 in
theorem stateSame_any (v1 v2 u1 u2 : Value) (l1 l2 m1 m2 : List Int) (w : World) (h1 : RInts w v1 l1) (h2 : RInts w v2 l2) (k1 : RInts w u1 m1) (k2 : RInts w u2 m2) :
    Calls Try.prog 26 #[.agg #[v1, v2], .agg #[u1, u2]] w fun e w' => e = .returned (.bool (decide (l1 = m1) && decide (l2 = m2))) ∧ Below w.heap.size w w' := by
  by_cases e1 : l1 = m1
  · have d1 : decide (l1 = m1) = true := by simpa using e1
    have D1 := Lib.hid d1
    clear e1 d1
    go_enter Try.func26, Try.ntmps26
    go_wp2_with (first
      | (go_at_call 72; ((with_reducible refine (sameInts_any v1 u1 l1 m1 _ (by repeat (first | with_reducible assumption | exact (own_ints (by assumption)).1 | apply rints_ext | apply rints_alloc | apply rints_drew)) (by repeat (first | with_reducible assumption | exact (own_ints (by assumption)).1 | apply rints_ext | apply rints_alloc | apply rints_drew))).mono ?_); rintro e w' ⟨rfl, rfl⟩; rw [D1.out]))
      | (go_at_call 72; ((with_reducible refine (sameInts_any v2 u2 l2 m2 _ (by repeat (first | with_reducible assumption | exact (own_ints (by assumption)).1 | apply rints_ext | apply rints_alloc | apply rints_drew)) (by repeat (first | with_reducible assumption | exact (own_ints (by assumption)).1 | apply rints_ext | apply rints_alloc | apply rints_drew))).mono ?_); rintro e w' ⟨rfl, rfl⟩)))
    go_ret
    exact ⟨by rw [D1.out]; simp, (by repeat (first | exact Below.refl _ _ | with_reducible assumption | exact below_alloc _ _ | (refine Below.setCell ?_ (by first | (simp; done) | (simp; omega) | omega) _) | apply bd | apply ba | apply be))⟩
  · have d1 : decide (l1 = m1) = false := by simpa using e1
    have D1 := Lib.hid d1
    clear e1 d1
    go_enter Try.func26, Try.ntmps26
    go_wp2_with (go_at_call 72; ((with_reducible refine (sameInts_any v1 u1 l1 m1 _ (by repeat (first | with_reducible assumption | exact (own_ints (by assumption)).1 | apply rints_ext | apply rints_alloc | apply rints_drew)) (by repeat (first | with_reducible assumption | exact (own_ints (by assumption)).1 | apply rints_ext | apply rints_alloc | apply rints_drew))).mono ?_); rintro e w' ⟨rfl, rfl⟩; rw [D1.out]))
    go_ret
    exact ⟨by rw [D1.out]; simp, (by repeat (first | exact Below.refl _ _ | with_reducible assumption | exact below_alloc _ _ | (refine Below.setCell ?_ (by first | (simp; done) | (simp; omega) | omega) _) | apply bd | apply ba | apply be))⟩
end Go.Proofs.Ytnhhfbhhglhocaa
