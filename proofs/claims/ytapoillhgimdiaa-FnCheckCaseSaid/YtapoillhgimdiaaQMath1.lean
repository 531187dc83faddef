/- Math1: texts DMath, DMath2, DMath3, Sl1, Sl2, Sl3 in one. -/
import Derived.Test.YtapoillhgimdiaaQBase2
import Derived.Test.YtapoillhgimdiaaQBase3
import Derived.Test.YtapoillhgimdiaaQDraw2
/- Plain facts on reaching, for the drawn laws. -/
namespace Go.Proofs.Ytapoillhgimdiaa

end Go.Proofs.Ytapoillhgimdiaa
/- Plain facts on cycles, for the drawn laws. -/
namespace Go.Proofs.Ytapoillhgimdiaa

end Go.Proofs.Ytapoillhgimdiaa
/- Plain facts on garbage, for the drawn laws. -/
namespace Go.Proofs.Ytapoillhgimdiaa

end Go.Proofs.Ytapoillhgimdiaa
/- Walks: small helpers of the drawn laws; reading a cell; tests. -/
namespace Go.Proofs.Ytapoillhgimdiaa
open Go.RowKit

set_option maxHeartbeats 400000 in
theorem slInts_any (v1 v2 : Value) (l1 l2 : List Int) (w : World) (h1 : RInts w v1 l1) (h2 : RInts w v2 l2) :
    Calls Try.prog 33 #[v1, v2] w fun e w' => e = .returned (.bool (decide (l1 = l2))) ∧ Below w.heap.size w w' := by
  have hm1 := h1.len
  have hm2 := h2.len
  unfold maxLen at hm1 hm2
  obtain ⟨a1, c1, rfl, hf1⟩ := h1.cells
  obtain ⟨a2, c2, rfl, hf2⟩ := h2.cells
  by_cases hl : l1.length = l2.length
  · have hle : l1.length ≤ l2.length := by omega
    have hge : l2.length ≤ l1.length := by omega
    have HL := Lib.hid hl
    have F1 := Lib.hid hf1
    have F2 := Lib.hid hf2
    have hne : ((l1.length : Int) != (l2.length : Int)) = false := by simp [hl]
    clear hl hf1 hf2 h1 h2
    go_enter Try.func33, Try.ntmps33
    go_wp2
    go_loopg [5] l1.length (fun q i wr => ∃ k : Nat, k + q = l1.length ∧ i = .int .i64 k ∧ l1.take k = l2.take k ∧ Below w.heap.size w wr)
    case atStart => exact ⟨0, by omega, rfl, by simp, Below.refl _ _⟩
    case round =>
      obtain ⟨k, hk, rfl, ht, hb⟩ := hrel
      have HK := Lib.hid hk
      have HT := Lib.hid ht
      clear hk ht
      by_cases hk8 : k < l1.length
      · have hk2 : k < l2.length := by omega
        obtain ⟨b1, o1, rfl, hbl1, hc1⟩ := F1.out k hk8
        obtain ⟨b2, o2, rfl, hbl2, hc2⟩ := F2.out k hk2
        have hc1r := cell_below hb hbl1 hc1
        have hc2r := cell_below hb hbl2 hc2
        have hs := hb.size
        have g1 : b1 < wr.heap.size := by omega
        have g2 : b2 < wr.heap.size := by omega
        have i1 : (k : Int) < (l1.length : Int) := by omega
        have i2 : (k : Int) < (l2.length : Int) := by omega
        by_cases he : gi l1 k = gi l2 k
        · have hne2 : (gi l1 k != gi l2 k) = false := by simp [he]
          have HE := Lib.hid he
          clear he hc1 hc2
          go_wp2
          refine wp_region_ext (by kernel_rfl) (by kernel_rfl) ?_
          repeat (go_big_quiet_step (fail))
          refine wpQuiet_nil ?_
          intro w2 hb2
          go_wp2
          go_roundg (gk - 1)
          case rel => exact ⟨k + 1, by have := HK.out; omega, by go_num, take_eq_succ hk8 hk2 HT.out HE.out, hb.trans (hb2.mono hs)⟩
          case measure => have := HK.out; omega
        · have hne2 : (gi l1 k != gi l2 k) = true := by simpa using he
          have hfin : decide (l1 = l2) = false := by simpa using ne_of_gi he
          have HF := Lib.hid hfin
          clear he hc1 hc2 hfin
          go_wp2
          refine wp_region_ext (by kernel_rfl) (by kernel_rfl) ?_
          repeat (go_big_quiet_step (fail))
          refine wpQuiet_nil ?_
          intro w2 hb2
          go_wp2
          go_ret
          exact ⟨by rw [HF.out]; rfl, hb.trans (hb2.mono hs)⟩
      · obtain rfl : k = l1.length := by have := HK.out; omega
        have hfin : decide (l1 = l2) = true := by
          have := HT.out
          rw [List.take_length, HL.out, List.take_length] at this
          simpa using this
        have HF := Lib.hid hfin
        clear hfin HT
        go_wp2
        go_ret
        exact ⟨by rw [HF.out]; rfl, hb⟩
  · have hne : ((l1.length : Int) != (l2.length : Int)) = true := by simp; omega
    have hfin : decide (l1 = l2) = false := by simpa using fun h => hl (by rw [h])
    have HF := Lib.hid hfin
    clear hl hfin
    go_enter Try.func33, Try.ntmps33
    go_wp2
    go_ret
    exact ⟨by rw [HF.out]; rfl, Below.refl _ _⟩
end Go.Proofs.Ytapoillhgimdiaa
/- Walks: tests of facts. -/
namespace Go.Proofs.Ytapoillhgimdiaa
open Go.RowKit

theorem bytes_form {w : World} {v : Value} {n : Nat} (h : RBytes w v n) : ∃ a cap, v = .slice a n cap := by
  obtain ⟨_, hr, _⟩ := h
  rcases hr with ⟨a, cap, rfl, h0, _⟩ | ⟨b, o, cap, rfl, _⟩
  · exact ⟨a, cap, by rw [h0]⟩
  · exact ⟨_, cap, rfl⟩

end Go.Proofs.Ytapoillhgimdiaa
/- Walks: a walk that never ends. -/
namespace Go.Proofs.Ytapoillhgimdiaa
open Go.RowKit

end Go.Proofs.Ytapoillhgimdiaa
