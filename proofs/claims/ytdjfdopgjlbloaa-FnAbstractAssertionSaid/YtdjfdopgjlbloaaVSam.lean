/- Walks: assertions that are equal are the same. (Printed by gen_sam.py.) -/
import Derived.Test.YtdjfdopgjlbloaaVData2
import Derived.Laws.StructEq
import Derived.Deep.RegionHeld3
import Derived.Handy
namespace Go.Proofs.Ytdjfdopgjlbloaa
open Go.RowKit

set_option maxRecDepth 100000 in
set_option maxHeartbeats 3200000 in
theorem sameFact_any {S1 S2 : Nat → Prop} (v1 v2 : Value) (l : List Fact) (w : World) (h1 : RL w S1 v1 l) (h2 : RL w S2 v2 l) :
    Calls Try.prog 24 #[v1, v2] w fun e w' => e = .returned (.bool true) ∧ Below w.heap.size w w' := by
  have hm := h1.len
  unfold maxLen at hm
  obtain ⟨a1, c1, rfl, _, _, hf1⟩ := h1.factAt
  obtain ⟨a2, c2, rfl, _, _, hf2⟩ := h2.factAt
  have F1 := Lib.hid hf1
  have F2 := Lib.hid hf2
  have hne : ((l.length : Int) != (l.length : Int)) = false := by simp
  clear hf1 hf2 h1 h2
  go_enter Try.func24, Try.ntmps24
  go_wp2
  go_loopg [14] l.length (fun q i wr => ∃ k : Nat, k + q = l.length ∧ i = .int .i64 k ∧ Below w.heap.size w wr)
  case atStart => exact ⟨0, by omega, rfl, Below.refl _ _⟩
  case round =>
    obtain ⟨k, hk, rfl, hb⟩ := hrel
    have HK := Lib.hid hk
    clear hk
    by_cases hk8 : k < l.length
    · obtain ⟨b1, o1, rfl, _, hbl1, hp1, hp2, hp3⟩ := F1.out k hk8
      obtain ⟨b2, o2, rfl, _, hbl2, hq1, hq2, hq3⟩ := F2.out k hk8
      replace hp1 := cell_keep hb hp1
      replace hp2 := cell_keep hb hp2
      replace hp3 := cell_keep hb hp3
      replace hq1 := cell_keep hb hq1
      replace hq2 := cell_keep hb hq2
      replace hq3 := cell_keep hb hq3
      obtain ⟨X1, hX1⟩ : ∃ x, x = (gd l k).1 := ⟨_, rfl⟩
      obtain ⟨X2, hX2⟩ : ∃ x, x = (gd l k).2.1 := ⟨_, rfl⟩
      obtain ⟨X3, hX3⟩ : ∃ x, x = (gd l k).2.2 := ⟨_, rfl⟩
      rw [← hX1] at hp1 hq1
      rw [← hX2] at hp2 hq2
      rw [← hX3] at hp3 hq3
      clear hX1 hX2 hX3
      have hs := hb.size
      have g1 : b1 < wr.heap.size := by omega
      have g2 : b2 < wr.heap.size := by omega
      have i1 : (k : Int) < (l.length : Int) := by omega
      have e1 : (X1 == X1) = true := by simp
      have e2 : (X2 == X2) = true := by simp
      have e3 : (X3 == X3) = true := by simp
      go_wp2
      refine wp_region_ext (by kernel_rfl) (by kernel_rfl) ?_
      repeat (go_big_quiet_step ((fail)))
      refine wpQuiet_nil ?_
      intro w2 hb2
      have hbn : Below w.heap.size w w2 := bt hb (bt Bl hb2)
      clear hb2
      go_wp2
      go_roundg (gk - 1)
      case rel => exact ⟨k + 1, by have := HK.out; omega, by go_num, hbn⟩
      case measure => have := HK.out; omega
    · obtain rfl : k = l.length := by have := HK.out; omega
      go_wp2
      go_returns
      exact ⟨rfl, hb⟩
set_option maxRecDepth 100000 in
set_option maxHeartbeats 3200000 in
theorem sameAtom_any {S1 S2 : Nat → Prop} (v1 v2 : Value) (l : List Atom) (w : World) (h1 : RL w S1 v1 l) (h2 : RL w S2 v2 l) :
    Calls Try.prog 25 #[v1, v2] w fun e w' => e = .returned (.bool true) ∧ Below w.heap.size w w' := by
  have hm := h1.len
  unfold maxLen at hm
  obtain ⟨a1, c1, rfl, _, _, hf1⟩ := h1.atomAt
  obtain ⟨a2, c2, rfl, _, _, hf2⟩ := h2.atomAt
  have F1 := Lib.hid hf1
  have F2 := Lib.hid hf2
  have hne : ((l.length : Int) != (l.length : Int)) = false := by simp
  clear hf1 hf2 h1 h2
  go_enter Try.func25, Try.ntmps25
  go_wp2
  go_loopg [14] l.length (fun q i wr => ∃ k : Nat, k + q = l.length ∧ i = .int .i64 k ∧ Below w.heap.size w wr)
  case atStart => exact ⟨0, by omega, rfl, Below.refl _ _⟩
  case round =>
    obtain ⟨k, hk, rfl, hb⟩ := hrel
    have HK := Lib.hid hk
    clear hk
    by_cases hk8 : k < l.length
    · obtain ⟨b1, o1, rfl, _, hbl1, hp1, hp2, hp3⟩ := F1.out k hk8
      obtain ⟨b2, o2, rfl, _, hbl2, hq1, hq2, hq3⟩ := F2.out k hk8
      replace hp1 := cell_keep hb hp1
      replace hp2 := cell_keep hb hp2
      replace hp3 := cell_keep hb hp3
      replace hq1 := cell_keep hb hq1
      replace hq2 := cell_keep hb hq2
      replace hq3 := cell_keep hb hq3
      obtain ⟨X1, hX1⟩ : ∃ x, x = (gd l k).1 := ⟨_, rfl⟩
      obtain ⟨X2, hX2⟩ : ∃ x, x = (gd l k).2.1 := ⟨_, rfl⟩
      obtain ⟨X3, hX3⟩ : ∃ x, x = (gd l k).2.2 := ⟨_, rfl⟩
      rw [← hX1] at hp1 hq1
      rw [← hX2] at hp2 hq2
      rw [← hX3] at hp3 hq3
      clear hX1 hX2 hX3
      have hs := hb.size
      have g1 : b1 < wr.heap.size := by omega
      have g2 : b2 < wr.heap.size := by omega
      have i1 : (k : Int) < (l.length : Int) := by omega
      have e1 : (X1 == X1) = true := by simp
      have e2 : (X2 == X2) = true := by simp
      have e3 : (X3 == X3) = true := by simp
      go_wp2
      refine wp_region_ext (by kernel_rfl) (by kernel_rfl) ?_
      repeat (go_big_quiet_step ((fail)))
      refine wpQuiet_nil ?_
      intro w2 hb2
      have hbn : Below w.heap.size w w2 := bt hb (bt Bl hb2)
      clear hb2
      go_wp2
      go_roundg (gk - 1)
      case rel => exact ⟨k + 1, by have := HK.out; omega, by go_num, hbn⟩
      case measure => have := HK.out; omega
    · obtain rfl : k = l.length := by have := HK.out; omega
      go_wp2
      go_returns
      exact ⟨rfl, hb⟩
set_option maxRecDepth 100000 in
set_option maxHeartbeats 3200000 in
theorem asnSame_any {S1 S2 S3 S4 : Nat → Prop} (v1 v2 u1 u2 : Value) (a : Asn) (w : World) (h1 : RL w S1 v1 a.1) (h2 : RL w S2 v2 a.2) (k1 : RL w S3 u1 a.1) (k2 : RL w S4 u2 a.2) :
    Calls Try.prog 8 #[.agg #[v1, v2], .agg #[u1, u2]] w fun e w' => e = .returned (.bool true) ∧ Below w.heap.size w w' := by
  obtain ⟨p1, c1, rfl⟩ := h1.form
  obtain ⟨p2, c2, rfl⟩ := h2.form
  obtain ⟨p3, c3, rfl⟩ := k1.form
  obtain ⟨p4, c4, rfl⟩ := k2.form
  go_enter Try.func8, Try.ntmps8
  go_wp2_with fail
  refine (sameFact_any _ _ a.1 _ ((h1.alloc _).alloc _) ((k1.alloc _).alloc _)).mono ?_
  rintro e w1 ⟨rfl, hb⟩
  have d1 := cell_keep hb (p := ⟨w.heap.size, 1, none⟩) (v := .slice p2 a.2.length c2) (by simp [go_sem])
  have d2 := cell_keep hb (p := ⟨w.heap.size + 1, 1, none⟩) (v := .slice p4 a.2.length c4) (by simp [go_sem])
  have hW : Below w.heap.size w w1 := bt Bl hb
  clear hb
  go_wp2_with fail
  refine (sameAtom_any _ _ a.2 _ (h2.keep hW) (k2.keep hW)).mono ?_
  rintro e w2 ⟨rfl, hb⟩
  go_wp2
  go_returns
  exact ⟨rfl, bt hW hb⟩
end Go.Proofs.Ytdjfdopgjlbloaa
