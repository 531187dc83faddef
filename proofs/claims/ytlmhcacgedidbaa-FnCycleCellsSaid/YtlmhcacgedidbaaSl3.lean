/- Walks: a walk that never ends. -/
import Derived.Test.YtlmhcacgedidbaaSl2
import Derived.Test.YtlmhcacgedidbaaDMath2
namespace Go.Proofs.Ytlmhcacgedidbaa
open Go.RowKit

set_option maxHeartbeats 1600000 in
theorem walkCells_never (vs hv : Value) (vl hs : List Int) (f t : Int) (w : World) (h1 : RInts w vs vl) (h2 : RInts w hv hs) (hvd : validB vl hs = true) (hf : isTermB f = true) (ht : isTermB t = true)
    (P : Int → Prop) (hP : P f) (hstep : ∀ v, P v → alB hs v = true ∧ (v != t) = true ∧ P (ct hs v)) :
    Calls Try.prog 43 #[.agg #[vs, hv], .int .i64 f, .int .i64 t] w fun e w' => e = .returned (.tuple #[.slice none 0 0, .bool false]) ∧ Below w.heap.size w w' := by
  have hlen := (valid_len hvd).2
  have HLEN := Lib.hid hlen
  clear hlen
  go_enter Try.func43, Try.ntmps43
  go_wp2_with fail
  refine (stateValid_any _ _ vl hs _ (h1.alloc _) (h2.alloc _)).mono ?_
  rintro e w1 ⟨rfl, hb1⟩
  have hc0 := cell_keep hb1 (p := ⟨w.heap.size, 0, none⟩) (v := vs) (by simp)
  have hc1 := cell_keep hb1 (p := ⟨w.heap.size, 1, none⟩) (v := hv) (by simp)
  have hb01 := bt (below_alloc w _) hb1
  have hz : w.heap.size < w1.heap.size := World.block_lt_of_cell? w1 _ hc0
  clear hb1
  go_wp2_with (go_at_call 59; refine (isValue_any _ _).mono ?_; rintro e w' ⟨rfl, rfl⟩)
  have HC := Lib.hid (And.intro hc0 hc1)
  go_loopg [8, 9] 9 (fun q way at_ wr => ∃ (k : Nat) (l : List Int) (a : Int), k + q = 9 ∧ k ≤ 8 ∧ l.length = k ∧ at_ = .int .i64 a ∧ P a ∧ wr.ownsRow w1.heap.size 3 1 way l.length (ints l) ∧ Below w1.heap.size w1 wr)
  case atStart => exact ⟨0, [], f, by omega, by omega, rfl, rfl, hP, World.ownsRow_nil _ _ _ _, Below.refl _ _⟩
  case round =>
    obtain ⟨k, l, a, hk, hk8, hl, rfl, hPa, hown, hb⟩ := hrel
    obtain ⟨xa, xc, rfl⟩ := (own_ints hown).1.form
    have HK := Lib.hid (And.intro hk hl)
    obtain ⟨hal, hne, hPn⟩ := hstep a hPa
    have HP := Lib.hid hPn
    clear hk hPa hPn
    replace hc0 := cell_keep hb hc0
    replace hc1 := cell_keep hb hc1
    have hzr : w.heap.size < wr.heap.size := World.block_lt_of_cell? wr _ hc0
    have hz1 := hb.size
    by_cases hk7 : k = 8
    · have hlb : ((l.length : Int) == 8) = true := by rw [hl, hk7]; rfl
      clear hl
      go_wp2_with fail
      refine (allocated_any _ _ hs a _ (h2.keep (bt hb01 hb)) (by rw [HLEN.out]; omega)).mono ?_
      rintro e w2 ⟨rfl, hb2⟩
      go_wp2
      refine bodyPost_ret (v := .tuple #[.slice none 0 0, .bool false]) (by simp [results, Try.results43, go_sem]) rfl ?_
      exact ⟨rfl, bt (bt hb01 hb) hb2⟩
    · have hlb : ((l.length : Int) == 8) = false := by rw [hl]; simp; omega
      clear hl
      go_wp2_with fail
      refine (allocated_any _ _ hs a _ (h2.keep (bt hb01 hb)) (by rw [HLEN.out]; omega)).mono ?_
      rintro e w2 ⟨rfl, hb2⟩
      replace hc0 := cell_keep hb2 hc0
      replace hc1 := cell_keep hb2 hc1
      replace hown := own_keep hown hb2
      have hz2 := hb2.size
      replace hb := bt hb hb2
      clear hb2
      have hlen9 : l.length < 1099511627776 := by have := HK.out; omega
      go_wp2_with (first
        | (at_builtin; refine app_int _ rfl _ _ rfl w1.heap.size _ l rfl (own_keep hown (below_alloc _ _)) ⟨w2.heap.size, 0, none⟩ _ rfl (cell_new1 _ _ _) hlen9 (by simp; omega) ?_; intro v' w3 hown3 hf3; have hb3 := below_own (own_keep hown (below_alloc _ _)) hf3 (hb.trans ((below_alloc _ _).mono hb.size)) (by simp; omega); have hd0 := cell_keep hb3 HC.out.1; have hd1 := cell_keep hb3 HC.out.2)
        | (go_at_call 65; refine (content_any _ _ hs a _ (h2.keep (bt hb01 hb3)) (by rw [HLEN.out]; omega)).mono ?_; rintro e w4 ⟨rfl, hb4⟩))
      go_roundg (gk - 1)
      case rel => exact ⟨k + 1, l ++ [a], ct hs a, by have := HK.out; omega, by omega, by have := HK.out; simp; omega, rfl, HP.out, own_keep hown3 hb4, bt hb3 hb4⟩
      case measure => have := HK.out; omega
end Go.Proofs.Ytlmhcacgedidbaa
