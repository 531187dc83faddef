/- Walks: atoms compared. -/
import Derived.Test.YtnhhfbhhglhocaaLf1
namespace Go.Proofs.Ytnhhfbhhglhocaa
open Go.RowKit

set_option maxHeartbeats 800000 in
theorem eqAtom_any (f g : Atom) (w : World) :
    Calls Try.prog 155 #[.agg #[.int .i64 f.1, .int .i64 f.2.1, .int .i64 f.2.2], .agg #[.int .i64 g.1, .int .i64 g.2.1, .int .i64 g.2.2]] w fun e w' => e = .returned (.bool (decide (f = g))) ∧ Below w.heap.size w w' := by
  obtain ⟨b1, x1, y1⟩ := f
  obtain ⟨b2, x2, y2⟩ := g
  by_cases h0 : b1 = b2
  rotate_left
  · have hn : (b1 != b2) = true := by simpa using h0
    have hfin : decide ((b1, x1, y1) = (b2, x2, y2)) = false := by simp [h0]
    have HF := Lib.hid hfin
    clear h0 hfin
    go_enter Try.func155, Try.ntmps155
    go_wp2
    go_ret
    exact ⟨by rw [HF.out]; rfl, ba (below_alloc _ _) _⟩
  subst h0
  by_cases h1 : x1 = x2
  rotate_left
  · have hn : (x1 != x2) = true := by simpa using h1
    have hfin : decide ((b1, x1, y1) = (b1, x2, y2)) = false := by simp [h1]
    have HF := Lib.hid hfin
    clear h1 hfin
    go_enter Try.func155, Try.ntmps155
    go_wp2
    go_ret
    exact ⟨by rw [HF.out]; rfl, ba (below_alloc _ _) _⟩
  subst h1
  by_cases h2 : y1 = y2
  rotate_left
  · have hn : (y1 != y2) = true := by simpa using h2
    have hfin : decide ((b1, x1, y1) = (b1, x1, y2)) = false := by simp [h2]
    have HF := Lib.hid hfin
    clear h2 hfin
    go_enter Try.func155, Try.ntmps155
    go_wp2
    go_ret
    exact ⟨by rw [HF.out]; rfl, ba (below_alloc _ _) _⟩
  subst h2
  go_enter Try.func155, Try.ntmps155
  go_wp2
  go_ret
  exact ⟨by simp, ba (below_alloc _ _) _⟩
theorem eqAtom_eq (f g : Atom) (b : Bool) (w : World) (h : decide (f = g) = b) :
    Calls Try.prog 155 #[.agg #[.int .i64 f.1, .int .i64 f.2.1, .int .i64 f.2.2], .agg #[.int .i64 g.1, .int .i64 g.2.1, .int .i64 g.2.2]] w fun e w' => e = .returned (.bool b) ∧ Below w.heap.size w w' := by
  rw [← h]; exact eqAtom_any f g w
set_option maxHeartbeats 800000 in
theorem eqAtomS_any {S1 S2 : Nat → Prop} (v1 v2 : Value) (l1 l2 : List Atom) (w : World) (h1 : RL w S1 v1 l1) (h2 : RL w S2 v2 l2) :
    Calls Try.prog 111 #[v1, v2] w fun e w' => e = .returned (.bool (decide (l1 = l2))) ∧ Below w.heap.size w w' := by
  have hm1 := h1.len
  have hm2 := h2.len
  unfold maxLen at hm1 hm2
  obtain ⟨a1, c1, rfl, _, _, hf1⟩ := h1.atomAt
  obtain ⟨a2, c2, rfl, _, _, hf2⟩ := h2.atomAt
  by_cases hl : l1.length = l2.length
  rotate_left
  · have hne : ((l1.length : Int) != (l2.length : Int)) = true := by simp; omega
    have hfin : decide (l1 = l2) = false := by simpa using fun h => hl (by rw [h])
    have HF := Lib.hid hfin
    clear hl hfin hf1 hf2
    go_enter Try.func111, Try.ntmps111
    go_wp2
    go_ret
    exact ⟨by rw [HF.out]; rfl, Below.refl _ _⟩
  have HL := Lib.hid hl
  have F1 := Lib.hid hf1
  have F2 := Lib.hid hf2
  have hne : ((l1.length : Int) != (l2.length : Int)) = false := by simp [hl]
  have hle : l1.length ≤ l2.length := by omega
  clear hl hf1 hf2 h1 h2
  go_enter Try.func111, Try.ntmps111
  go_wp2
  go_loopg [5] l1.length (fun q i wr => ∃ k : Nat, k + q = l1.length ∧ i = .int .i64 k ∧ l1.take k = l2.take k ∧ Below w.heap.size w wr)
  case atStart => exact ⟨0, by omega, rfl, by simp, Below.refl _ _⟩
  case round =>
    obtain ⟨k, hk, rfl, ht, hb⟩ := hrel
    have HK := Lib.hid hk
    have HT := Lib.hid ht
    clear hk ht
    by_cases hk8 : k < l1.length
    · have hk2 : k < l2.length := by omega
      obtain ⟨b1, o1, rfl, _, hbl1, hp1, hp2, hp3⟩ := F1.out k hk8
      obtain ⟨b2, o2, rfl, _, hbl2, hq1, hq2, hq3⟩ := F2.out k hk2
      replace hp1 := cell_keep hb hp1
      replace hp2 := cell_keep hb hp2
      replace hp3 := cell_keep hb hp3
      replace hq1 := cell_keep hb hq1
      replace hq2 := cell_keep hb hq2
      replace hq3 := cell_keep hb hq3
      have hs := hb.size
      have g1 : b1 < wr.heap.size := by omega
      have g2 : b2 < wr.heap.size := by omega
      have i1 : (k : Int) < (l1.length : Int) := by omega
      have i2 : (k : Int) < (l2.length : Int) := by omega
      by_cases he : gd l1 k = gd l2 k
      · have hd : decide (gd l1 k = gd l2 k) = true := by simpa using he
        have HE := Lib.hid (And.intro he hd)
        clear he hd
        go_wp2
        refine wp_region_ext (by kernel_rfl) (by kernel_rfl) ?_
        repeat (go_big_quiet_step ((go_at_call 155; exact ext_c (eqAtom_eq (gd l1 k) (gd l2 k) true _ HE.out.2))))
        refine wpQuiet_nil ?_
        intro w2 hb2
        go_wp2
        go_roundg (gk - 1)
        case rel => exact ⟨k + 1, by have := HK.out; omega, by go_num, gd_take_succ hk8 hk2 HT.out HE.out.1, hb.trans (hb2.mono hs)⟩
        case measure => have := HK.out; omega
      · have hd : decide (gd l1 k = gd l2 k) = false := by simpa using he
        have hfin : decide (l1 = l2) = false := by simpa using ne_of_gd he
        have HF := Lib.hid (And.intro hfin hd)
        clear he hfin hd
        go_wp2
        refine wp_region_ext (by kernel_rfl) (by kernel_rfl) ?_
        repeat (go_big_quiet_step ((go_at_call 155; exact ext_c (eqAtom_eq (gd l1 k) (gd l2 k) false _ HF.out.2))))
        refine wpQuiet_nil ?_
        intro w2 hb2
        go_wp2
        go_ret
        exact ⟨by rw [HF.out.1]; rfl, hb.trans (hb2.mono hs)⟩
    · obtain rfl : k = l1.length := by have := HK.out; omega
      have hfin : decide (l1 = l2) = true := by
        have := HT.out
        rw [List.take_length, HL.out, List.take_length] at this
        simpa using this
      have HF := Lib.hid hfin
      clear hfin HT
      go_wp2
      go_ret
      exact ⟨by rw [HF.out]; rfl, hb⟩
end Go.Proofs.Ytnhhfbhhglhocaa
