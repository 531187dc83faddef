/- Walks: tests of facts. -/
import Derived.Test.YtlmhcacgedidbaaSl1
namespace Go.Proofs.Ytlmhcacgedidbaa
open Go.RowKit

theorem bytes_form {w : World} {v : Value} {n : Nat} (h : RBytes w v n) : ∃ a cap, v = .slice a n cap := by
  obtain ⟨_, hr, _⟩ := h
  rcases hr with ⟨a, cap, rfl, h0, _⟩ | ⟨b, o, cap, rfl, _⟩
  · exact ⟨a, cap, by rw [h0]⟩
  · exact ⟨_, cap, rfl⟩

set_option maxHeartbeats 400000 in
theorem factValid_any (q : Bool) (a b : Int) (w : World) :
    Calls Try.prog 63 #[.agg #[.bool q, .int .i64 a, .int .i64 b]] w fun e w' => e = .returned (.bool (isTermB a && isTermB b)) ∧ Below w.heap.size w w' := by
  by_cases ha : isTermB a = true
  · go_enter Try.func63, Try.ntmps63
    go_wp2_with (go_at_call 54; refine (isTerm_any _ _).mono ?_; rintro e w' ⟨rfl, rfl⟩)
    go_ret
    exact ⟨by rw [ha]; rfl, below_alloc _ _⟩
  · have ha' : isTermB a = false := by simpa using ha
    clear ha
    go_enter Try.func63, Try.ntmps63
    go_wp2_with (go_at_call 54; refine (isTerm_any _ _).mono ?_; rintro e w' ⟨rfl, rfl⟩)
    go_ret
    exact ⟨by rw [ha']; rfl, below_alloc _ _⟩
def testB (vl hl : List Int) (q : Bool) (a b : Int) : Bool := validB vl hl && (isTermB a && isTermB b) && ((tv vl a == tv vl b) == q)
set_option maxHeartbeats 800000 in
theorem testHolds_any (vs hv : Value) (vl hl : List Int) (q : Bool) (a b : Int) (w : World) (h1 : RInts w vs vl) (h2 : RInts w hv hl) :
    Calls Try.prog 29 #[.agg #[vs, hv], .agg #[.bool q, .int .i64 a, .int .i64 b]] w fun e w' => e = .returned (.bool (testB vl hl q a b)) ∧ Below w.heap.size w w' := by
  by_cases hv1 : validB vl hl = true
  · have hlen := (valid_len hv1).1
    have HLEN := Lib.hid hlen
    clear hlen
    by_cases hf : (isTermB a && isTermB b) = true
    · have hr : testB vl hl q a b = ((tv vl a == tv vl b) == q) := by unfold testB; rw [hv1, hf]; rfl
      have ht : isTermB a = true ∧ isTermB b = true := by simpa using hf
      have hta := isTermB_iff.1 ht.1
      have htb := isTermB_iff.1 ht.2
      have HR := Lib.hid hr
      clear hr ht
      go_enter Try.func29, Try.ntmps29
      go_wp2_with fail
      refine (stateValid_any _ _ vl hl _ ((h1.alloc _).alloc _) ((h2.alloc _).alloc _)).mono ?_
      rintro e w1 ⟨rfl, hb1⟩
      have hb01 := bt (bt (below_alloc w _) (below_alloc _ _)) hb1
      have hc0 := cell_keep hb1 (p := ⟨w.heap.size, 0, none⟩) (v := vs) (by simp [go_sem])
      have hc1 := cell_keep hb1 (p := ⟨w.heap.size, 1, none⟩) (v := hv) (by simp [go_sem])
      have hd0 := cell_keep hb1 (p := ⟨w.heap.size + 1, 0, none⟩) (v := .bool q) (by simp [go_sem])
      have hd1 := cell_keep hb1 (p := ⟨w.heap.size + 1, 1, none⟩) (v := .int .i64 a) (by simp [go_sem])
      have hd2 := cell_keep hb1 (p := ⟨w.heap.size + 1, 2, none⟩) (v := .int .i64 b) (by simp [go_sem])
      have hz1 : w.heap.size + 1 < w1.heap.size := by have := hb1.size; simp at this; omega
      have hz0 : w.heap.size < w1.heap.size := by omega
      clear hb1
      go_wp2_with fail
      refine (factValid_any q a b _).mono ?_
      rintro e w2 ⟨rfl, hb2⟩
      replace hc0 := cell_keep hb2 hc0
      replace hc1 := cell_keep hb2 hc1
      replace hd0 := cell_keep hb2 hd0
      replace hd1 := cell_keep hb2 hd1
      replace hd2 := cell_keep hb2 hd2
      replace hb01 := bt hb01 hb2
      replace hz0 : w.heap.size < w2.heap.size := by have := hb2.size; omega
      replace hz1 : w.heap.size + 1 < w2.heap.size := by have := hb2.size; omega
      have q1 := h1.keep hb01
      clear hb2
      go_wp2
      refine wp_region_ext (by kernel_rfl) (by kernel_rfl) ?_
      repeat (go_big_quiet_step ((go_at_call 55; exact ext_same (termValue_any _ vl _ _ (q1.ext _) (by omega) (by rw [HLEN.out]; omega)))))
      refine wpQuiet_nil ?_
      intro w3 hb3
      go_wp2
      go_ret
      exact ⟨by rw [HR.out]; rfl, bt hb01 hb3⟩
    · have hf' : (isTermB a && isTermB b) = false := by simpa using hf
      have hr : testB vl hl q a b = false := by unfold testB; rw [hf', Bool.and_false]; rfl
      have HR := Lib.hid hr
      clear hr hf
      go_enter Try.func29, Try.ntmps29
      go_wp2_with fail
      refine (stateValid_any _ _ vl hl _ ((h1.alloc _).alloc _) ((h2.alloc _).alloc _)).mono ?_
      rintro e w1 ⟨rfl, hb1⟩
      have hb01 := bt (bt (below_alloc w _) (below_alloc _ _)) hb1
      have hd0 := cell_keep hb1 (p := ⟨w.heap.size + 1, 0, none⟩) (v := .bool q) (by simp [go_sem])
      have hd1 := cell_keep hb1 (p := ⟨w.heap.size + 1, 1, none⟩) (v := .int .i64 a) (by simp [go_sem])
      have hd2 := cell_keep hb1 (p := ⟨w.heap.size + 1, 2, none⟩) (v := .int .i64 b) (by simp [go_sem])
      clear hb1
      go_wp2_with fail
      refine (factValid_any q a b _).mono ?_
      rintro e w2 ⟨rfl, hb2⟩
      replace hb01 := bt hb01 hb2
      clear hb2 hd0 hd1 hd2
      go_wp2
      go_ret
      exact ⟨by rw [HR.out]; rfl, hb01⟩
  · have hv2 : validB vl hl = false := by simpa using hv1
    have hr : testB vl hl q a b = false := by unfold testB; rw [hv2]; rfl
    have HR := Lib.hid hr
    clear hr hv1
    go_enter Try.func29, Try.ntmps29
    go_wp2_with fail
    refine (stateValid_any _ _ vl hl _ ((h1.alloc _).alloc _) ((h2.alloc _).alloc _)).mono ?_
    rintro e w1 ⟨rfl, hb1⟩
    have hb01 := bt (bt (below_alloc w _) (below_alloc _ _)) hb1
    clear hb1
    go_wp2
    go_ret
    exact ⟨by rw [HR.out]; rfl, hb01⟩
theorem testHolds_eq (vs hv : Value) (vl hl : List Int) (q : Bool) (a b : Int) (r : Bool) (w : World) (h1 : RInts w vs vl) (h2 : RInts w hv hl) (hb : testB vl hl q a b = r) :
    Calls Try.prog 29 #[.agg #[vs, hv], .agg #[.bool q, .int .i64 a, .int .i64 b]] w fun e w' => e = .returned (.bool r) ∧ Below w.heap.size w w' := by
  rw [← hb]; exact testHolds_any vs hv vl hl q a b w h1 h2
end Go.Proofs.Ytlmhcacgedidbaa
