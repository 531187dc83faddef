/- Walks: small helpers of the drawn laws; reading a cell; tests. -/
import Derived.Test.YtlmhcacgedidbaaL1
import Derived.Test.YtlmhcacgedidbaaDMath
import Derived.Test.YtlmhcacgedidbaaW9
import Derived.Test.YtlmhcacgedidbaaDr4
namespace Go.Proofs.Ytlmhcacgedidbaa
open Go.RowKit

set_option maxHeartbeats 400000 in
theorem slInts_any (v1 v2 : Value) (l1 l2 : List Int) (w : World) (h1 : RInts w v1 l1) (h2 : RInts w v2 l2) :
    Calls Try.prog 27 #[v1, v2] w fun e w' => e = .returned (.bool (decide (l1 = l2))) ∧ Below w.heap.size w w' := by
  have hm1 := h1.len
  have hm2 := h2.len
  unfold maxLen at hm1 hm2
  obtain ⟨a1, c1, rfl, hf1⟩ := h1.cells
  obtain ⟨a2, c2, rfl, hf2⟩ := h2.cells
  by_cases hl : l1.length = l2.length
  · have hle : l1.length ≤ l2.length := by omega
    have hge : l2.length ≤ l1.length := by omega
    have HL := Lib.hid hl
    have F1 := Lib.hid hf1
    have F2 := Lib.hid hf2
    have hne : ((l1.length : Int) != (l2.length : Int)) = false := by simp [hl]
    clear hl hf1 hf2 h1 h2
    go_enter Try.func27, Try.ntmps27
    go_wp2
    go_loopg [5] l1.length (fun q i wr => ∃ k : Nat, k + q = l1.length ∧ i = .int .i64 k ∧ l1.take k = l2.take k ∧ Below w.heap.size w wr)
    case atStart => exact ⟨0, by omega, rfl, by simp, Below.refl _ _⟩
    case round =>
      obtain ⟨k, hk, rfl, ht, hb⟩ := hrel
      have HK := Lib.hid hk
      have HT := Lib.hid ht
      clear hk ht
      by_cases hk8 : k < l1.length
      · have hk2 : k < l2.length := by omega
        obtain ⟨b1, o1, rfl, hbl1, hc1⟩ := F1.out k hk8
        obtain ⟨b2, o2, rfl, hbl2, hc2⟩ := F2.out k hk2
        have hc1r := cell_below hb hbl1 hc1
        have hc2r := cell_below hb hbl2 hc2
        have hs := hb.size
        have g1 : b1 < wr.heap.size := by omega
        have g2 : b2 < wr.heap.size := by omega
        have i1 : (k : Int) < (l1.length : Int) := by omega
        have i2 : (k : Int) < (l2.length : Int) := by omega
        by_cases he : gi l1 k = gi l2 k
        · have hne2 : (gi l1 k != gi l2 k) = false := by simp [he]
          have HE := Lib.hid he
          clear he hc1 hc2
          go_wp2
          refine wp_region_ext (by kernel_rfl) (by kernel_rfl) ?_
          repeat (go_big_quiet_step (fail))
          refine wpQuiet_nil ?_
          intro w2 hb2
          go_wp2
          go_roundg (gk - 1)
          case rel => exact ⟨k + 1, by have := HK.out; omega, by go_num, take_eq_succ hk8 hk2 HT.out HE.out, hb.trans (hb2.mono hs)⟩
          case measure => have := HK.out; omega
        · have hne2 : (gi l1 k != gi l2 k) = true := by simpa using he
          have hfin : decide (l1 = l2) = false := by simpa using ne_of_gi he
          have HF := Lib.hid hfin
          clear he hc1 hc2 hfin
          go_wp2
          refine wp_region_ext (by kernel_rfl) (by kernel_rfl) ?_
          repeat (go_big_quiet_step (fail))
          refine wpQuiet_nil ?_
          intro w2 hb2
          go_wp2
          go_ret
          exact ⟨by rw [HF.out]; rfl, hb.trans (hb2.mono hs)⟩
      · obtain rfl : k = l1.length := by have := HK.out; omega
        have hfin : decide (l1 = l2) = true := by
          have := HT.out
          rw [List.take_length, HL.out, List.take_length] at this
          simpa using this
        have HF := Lib.hid hfin
        clear hfin HT
        go_wp2
        go_ret
        exact ⟨by rw [HF.out]; rfl, hb⟩
  · have hne : ((l1.length : Int) != (l2.length : Int)) = true := by simp; omega
    have hfin : decide (l1 = l2) = false := by simpa using fun h => hl (by rw [h])
    have HF := Lib.hid hfin
    clear hl hfin
    go_enter Try.func27, Try.ntmps27
    go_wp2
    go_ret
    exact ⟨by rw [HF.out]; rfl, Below.refl _ _⟩
set_option maxHeartbeats 400000 in
theorem slHas_any (v : Value) (l : List Int) (n : Int) (w : World) (h : RInts w v l) :
    Calls Try.prog 28 #[v, .int .i64 n] w fun e w' => e = .returned (.bool (decide (n ∈ l))) ∧ Below w.heap.size w w' := by
  have hm1 := h.len
  unfold maxLen at hm1
  obtain ⟨a1, c1, rfl, hf1⟩ := h.cells
  have F1 := Lib.hid hf1
  clear hf1 h
  go_enter Try.func28, Try.ntmps28
  go_wp2
  go_loopg [5] l.length (fun q i wr => ∃ k : Nat, k + q = l.length ∧ i = .int .i64 k ∧ ¬ n ∈ l.take k ∧ Below w.heap.size w wr)
  case atStart => exact ⟨0, by omega, rfl, by simp, Below.refl _ _⟩
  case round =>
    obtain ⟨k, hk, rfl, ht, hb⟩ := hrel
    have HK := Lib.hid hk
    have HT := Lib.hid ht
    clear hk ht
    by_cases hk8 : k < l.length
    · obtain ⟨b1, o1, rfl, hbl1, hc1⟩ := F1.out k hk8
      have hc1r := cell_below hb hbl1 hc1
      have hs := hb.size
      have g1 : b1 < wr.heap.size := by omega
      have i1 : (k : Int) < (l.length : Int) := by omega
      by_cases he : gi l k = n
      · have hne2 : (gi l k == n) = true := by simpa using he
        have hfin : decide (n ∈ l) = true := by
          simp
          rw [← he, gi_of hk8]
          exact List.getElem_mem hk8
        have HF := Lib.hid hfin
        clear he hfin
        go_wp2
        go_ret
        exact ⟨by rw [HF.out]; rfl, hb⟩
      · have hne2 : (gi l k == n) = false := by simpa using he
        have ht1 : ¬ n ∈ l.take (k + 1) := by
          rw [List.take_succ_eq_append_getElem hk8, ← gi_of hk8]
          intro hh
          rcases List.mem_append.1 hh with hh | hh
          · exact HT.out hh
          · simp at hh; exact he hh.symm
        have HT1 := Lib.hid ht1
        clear he ht1
        go_wp2
        go_roundg (gk - 1)
        case rel => exact ⟨k + 1, by have := HK.out; omega, by go_num, HT1.out, hb⟩
        case measure => have := HK.out; omega
    · obtain rfl : k = l.length := by have := HK.out; omega
      have hfin : decide (n ∈ l) = false := by
        have := HT.out
        rw [List.take_length] at this
        simpa using this
      have HF := Lib.hid hfin
      clear hfin HT
      go_wp2
      go_ret
      exact ⟨by rw [HF.out]; rfl, hb⟩
theorem slHas_eq (v : Value) (l : List Int) (n : Int) (b : Bool) (w : World) (h : RInts w v l) (hb : decide (n ∈ l) = b) :
    Calls Try.prog 28 #[v, .int .i64 n] w fun e w' => e = .returned (.bool b) ∧ Below w.heap.size w w' := by
  rw [← hb]; exact slHas_any v l n w h
set_option maxHeartbeats 400000 in
theorem readCell_any (vs hv : Value) (vl hl : List Int) (n : Int) (w : World) (h1 : RInts w vs vl) (h2 : RInts w hv hl) :
    Calls Try.prog 35 #[.agg #[vs, hv], .int .i64 n] w fun e w' => e = .returned (.tuple #[.int .i64 (readV vl hl n), .bool (readB vl hl n)]) ∧ Below w.heap.size w w' := by
  by_cases hv1 : validB vl hl = true
  · have hlen := (valid_len hv1).2
    have HLEN := Lib.hid hlen
    clear hlen
    by_cases ha : alB hl n = true
    · have hr : readB vl hl n = true := by unfold readB; rw [hv1, ha]; rfl
      have hrv : readV vl hl n = ct hl n := by rw [readV, if_pos hr]
      have HR := Lib.hid (And.intro hr hrv)
      clear hr hrv
      go_enter Try.func35, Try.ntmps35
      go_wp2_with fail
      refine (stateValid_any _ _ vl hl _ (h1.alloc _) (h2.alloc _)).mono ?_
      rintro e w1 ⟨rfl, hb1⟩
      have hb01 := bt (below_alloc w _) hb1
      have hc0 := cell_below hb1 (p := ⟨w.heap.size, 0, none⟩) (v := vs) (by simp) (by simp)
      have hc1 := cell_below hb1 (p := ⟨w.heap.size, 1, none⟩) (v := hv) (by simp) (by simp)
      clear hb1
      go_wp2_with fail
      refine (allocated_any _ _ hl n _ (h2.keep hb01) (by rw [HLEN.out]; omega)).mono ?_
      rintro e w2 ⟨rfl, hb2⟩
      replace hc0 := cell_keep hb2 hc0
      replace hc1 := cell_keep hb2 hc1
      replace hb01 := bt hb01 hb2
      clear hb2
      go_wp2_with fail
      refine (content_any _ _ hl n _ (h2.keep hb01) (by rw [HLEN.out]; omega)).mono ?_
      rintro e w3 ⟨rfl, hb3⟩
      replace hb01 := bt hb01 hb3
      clear hb3 hc0 hc1
      go_wp2
      refine bodyPost_ret (v := .tuple #[.int .i64 (ct hl n), .bool true]) (by simp [results, Try.results35, go_sem]) rfl ?_
      exact ⟨by rw [HR.out.1, HR.out.2], hb01⟩
    · have ha' : alB hl n = false := by simpa using ha
      have hr : readB vl hl n = false := by unfold readB; rw [ha', Bool.and_false]
      have hrv : readV vl hl n = 0 := by rw [readV, if_neg (by rw [hr]; simp)]
      have HR := Lib.hid (And.intro hr hrv)
      clear hr hrv ha
      go_enter Try.func35, Try.ntmps35
      go_wp2_with fail
      refine (stateValid_any _ _ vl hl _ (h1.alloc _) (h2.alloc _)).mono ?_
      rintro e w1 ⟨rfl, hb1⟩
      have hb01 := bt (below_alloc w _) hb1
      have hc0 := cell_below hb1 (p := ⟨w.heap.size, 0, none⟩) (v := vs) (by simp) (by simp)
      have hc1 := cell_below hb1 (p := ⟨w.heap.size, 1, none⟩) (v := hv) (by simp) (by simp)
      clear hb1
      go_wp2_with fail
      refine (allocated_any _ _ hl n _ (h2.keep hb01) (by rw [HLEN.out]; omega)).mono ?_
      rintro e w2 ⟨rfl, hb2⟩
      replace hb01 := bt hb01 hb2
      clear hb2 hc0 hc1
      go_wp2
      refine bodyPost_ret (v := .tuple #[.int .i64 (0), .bool false]) (by simp [results, Try.results35, go_sem]) rfl ?_
      exact ⟨by rw [HR.out.1, HR.out.2], hb01⟩
  · have hv2 : validB vl hl = false := by simpa using hv1
    have hr : readB vl hl n = false := by unfold readB; rw [hv2]; rfl
    have hrv : readV vl hl n = 0 := by rw [readV, if_neg (by rw [hr]; simp)]
    have HR := Lib.hid (And.intro hr hrv)
    clear hr hrv hv1
    go_enter Try.func35, Try.ntmps35
    go_wp2_with fail
    refine (stateValid_any _ _ vl hl _ (h1.alloc _) (h2.alloc _)).mono ?_
    rintro e w1 ⟨rfl, hb1⟩
    have hb01 := bt (below_alloc w _) hb1
    clear hb1
    go_wp2
    refine bodyPost_ret (v := .tuple #[.int .i64 (0), .bool false]) (by simp [results, Try.results35, go_sem]) rfl ?_
    exact ⟨by rw [HR.out.1, HR.out.2], hb01⟩
end Go.Proofs.Ytlmhcacgedidbaa
