/- Walks: the terms of an assertion. -/
import Derived.Test.YthoingdcmdhllaaCase2
import Derived.Deep.Cut
namespace Go.Proofs.Ythoingdcmdhllaa
open Go.RowKit

set_option maxRecDepth 100000 in
set_option maxHeartbeats 3200000 in
theorem termsIn_any {S1 S2 : Nat → Prop} (v1 v2 : Value) (a : Asn) (w : World) (h1 : RL w S1 v1 a.1) (h2 : RL w S2 v2 a.2) :
    Calls Try.prog 123 #[.agg #[v1, v2]] w fun e w' => e = .returned (.int .u16 (termsM a)) ∧ Below w.heap.size w w' := by
  have hm1 := h1.len
  have hm2 := h2.len
  unfold maxLen at hm1 hm2
  obtain ⟨l1, l2⟩ := a
  simp only at h1 h2 hm1 hm2
  obtain ⟨a1, c1, rfl, _, _, hf1⟩ := h1.factAt
  obtain ⟨a2, c2, rfl, _, _, hf2⟩ := h2.atomAt
  have F1 := Lib.hid hf1
  have F2 := Lib.hid hf2
  clear hf1 hf2 h1 h2
  go_enter Try.func123, Try.ntmps123
  go_wp2
  go_loopg [3, 11] l1.length (fun q x i wr => ∃ k : Nat, k + q = l1.length ∧ i = .int .i64 k ∧ x = .int .u16 (factsM 0 (l1.take k)) ∧ (wr.cell? ⟨w.heap.size, 1, none⟩ = some (.slice a2 l2.length c2)) ∧ Below w.heap.size w wr)
  case atStart => exact ⟨0, by omega, rfl, rfl, by simp, below_alloc _ _⟩
  case round =>
    obtain ⟨k, hk, rfl, rfl, hc1, hb⟩ := hrel
    have HK := Lib.hid hk
    clear hk
    have hz : w.heap.size < wr.heap.size := World.block_lt_of_cell? wr _ hc1
    by_cases hk8 : k < l1.length
    · obtain ⟨b1, o1, rfl, _, hbl1, hp1, hp2, hp3⟩ := F1.out k hk8
      replace hp1 := cell_keep hb hp1; replace hp2 := cell_keep hb hp2; replace hp3 := cell_keep hb hp3
      have i1 : (k : Int) < (l1.length : Int) := by omega
      have hzb : b1 < wr.heap.size := World.block_lt_of_cell? wr _ hp1
      have hst := factsM_step (m := 0) hk8
      obtain ⟨m, hm⟩ : ∃ m, factsM 0 (l1.take k) = m := ⟨_, rfl⟩
      have hml : m < 65536 := by rw [← hm]; exact factsM_lt (by decide)
      rw [hm] at hst ⊢
      obtain ⟨n1, hn1⟩ : ∃ n, termM m (gd l1 k).2.1 = n := ⟨_, rfl⟩
      have hnl1 : n1 < 65536 := by rw [← hn1]; exact termM_lt hml
      obtain ⟨n2, hn2⟩ : ∃ n, termM n1 (gd l1 k).2.2 = n := ⟨_, rfl⟩
      rw [hn1, hn2] at hst
      have HST := Lib.hid hst
      have HN := Lib.hid (And.intro hn1 hn2)
      clear hst hn1 hn2 hm
      go_wp2
      refine wp_region_ext (by kernel_rfl) (by kernel_rfl) ?_
      repeat (go_big_quiet_step ((go_at_call 94; first
        | with_reducible exact ext_same (withT_val _ hml HN.out.1)
        | with_reducible exact ext_same (withT_val _ hnl1 HN.out.2))))
      refine wpQuiet_nil ?_
      intro w5 hb5
      go_wp2
      go_roundg (gk - 1)
      case rel => exact ⟨k + 1, by have := HK.out; omega, by go_num, by rw [HST.out], cell_keep (bt (by repeat (first | exact Below.refl _ _ | with_reducible assumption | exact below_alloc _ _ | (refine Below.setCell ?_ (by first | (simp; done) | (simp; omega) | omega) _) | apply bd | apply ba | apply be)) hb5) hc1, bt (bt hb (by repeat (first | exact Below.refl _ _ | with_reducible assumption | exact below_alloc _ _ | (refine Below.setCell ?_ (by first | (simp; done) | (simp; omega) | omega) _) | apply bd | apply ba | apply be))) hb5⟩
      case measure => have := HK.out; omega
    · obtain rfl : k = l1.length := by have := HK.out; omega
      rw [List.take_length]
      have hml : factsM 0 l1 < 65536 := factsM_lt (by decide)
      have hT : termsM (l1, l2) = atomsM (factsM 0 l1) l2 := rfl
      obtain ⟨M, hM⟩ : ∃ m, factsM 0 l1 = m := ⟨_, rfl⟩
      rw [hM] at hml hT ⊢
      have HT := Lib.hid hT
      clear hM hT
      have hbe : Below wr.heap.size wr wr := Below.refl _ _
      obtain ⟨wo, rfl⟩ : ∃ wo : World, wo = wr := ⟨_, rfl⟩
      go_wp2
      go_loopg [3, 26] l2.length (fun q x i wr => ∃ k : Nat, k + q = l2.length ∧ i = .int .i64 k ∧ x = .int .u16 (atomsM M (l2.take k)) ∧ Below wo.heap.size wo wr)
      case atStart => exact ⟨0, by omega, rfl, rfl, hbe⟩
      case round =>
        obtain ⟨k, hk, rfl, rfl, hb'⟩ := hrel
        have HK := Lib.hid hk
        clear hk
        by_cases hk8 : k < l2.length
        · obtain ⟨b1, o1, rfl, _, hbl1, hp1, hp2, hp3⟩ := F2.out k hk8
          replace hp1 := cell_keep (bt hb hb') hp1; replace hp2 := cell_keep (bt hb hb') hp2; replace hp3 := cell_keep (bt hb hb') hp3
          have i1 : (k : Int) < (l2.length : Int) := by omega
          have hzb : b1 < wr.heap.size := World.block_lt_of_cell? wr _ hp1
          have hst := atomsM_step (m := M) hk8
          obtain ⟨m, hm⟩ : ∃ m, atomsM M (l2.take k) = m := ⟨_, rfl⟩
          have hml2 : m < 65536 := by rw [← hm]; exact atomsM_lt hml
          rw [hm] at hst ⊢
          obtain ⟨n1, hn1⟩ : ∃ n, termM m (gd l2 k).2.1 = n := ⟨_, rfl⟩
          have hnl1 : n1 < 65536 := by rw [← hn1]; exact termM_lt hml2
          obtain ⟨n2, hn2⟩ : ∃ n, termM n1 (gd l2 k).2.2 = n := ⟨_, rfl⟩
          rw [hn1, hn2] at hst
          have HST := Lib.hid hst
          have HN := Lib.hid (And.intro hn1 hn2)
          clear hst hn1 hn2 hm
          go_wp2
          refine wp_region_ext (by kernel_rfl) (by kernel_rfl) ?_
          repeat (go_big_quiet_step ((go_at_call 94; first
            | with_reducible exact ext_same (withT_val _ hml2 HN.out.1)
            | with_reducible exact ext_same (withT_val _ hnl1 HN.out.2))))
          refine wpQuiet_nil ?_
          intro w5 hb5
          go_wp2
          go_roundg (gk - 1)
          case rel => exact ⟨k + 1, by have := HK.out; omega, by go_num, by rw [HST.out], bt (bt hb' (by repeat (first | exact Below.refl _ _ | with_reducible assumption | exact below_alloc _ _ | (refine Below.setCell ?_ (by first | (simp; done) | (simp; omega) | omega) _) | apply bd | apply ba | apply be))) hb5⟩
          case measure => have := HK.out; omega
        · obtain rfl : k = l2.length := by have := HK.out; omega
          rw [List.take_length]
          go_wp2
          go_ret
          exact ⟨by rw [HT.out]; rfl, bt hb hb'⟩
theorem mk9T (w : World) : (Instr.makeSlice 151 (.int .i64 9) (.int .i64 9)).run Try.prog w =
    .ok (.slice (some ⟨w.heap.size, 0, none⟩) 9 9) (w.alloc (.cells #[.bool false, .bool false, .bool false, .bool false, .bool false, .bool false, .bool false, .bool false, .bool false] 4)) := by kernel_rfl
theorem own9T (w : World) (B : Nat) (hB : B ≤ w.heap.size) :
    (w.alloc (.cells #[.bool false, .bool false, .bool false, .bool false, .bool false, .bool false, .bool false, .bool false, .bool false] 4)).ownsRow B 4 1 (.slice (some ⟨w.heap.size, 0, none⟩) 9 9) 9 (flagsOf 0) :=
  World.ownsRow_lit (size := 1) w _ 9 hB (by unfold maxLen; omega) rfl
theorem termM_nat {m n : Nat} (h : n ≤ 8) : termM m (n : Int) = m ||| 2 ^ n := by
  rw [termM, if_pos (isTermB_iff.2 (by omega)), Int.toNat_natCast]
set_option maxRecDepth 100000 in
set_option maxHeartbeats 3200000 in
theorem l3Terms_any {S1 S2 : Nat → Prop} (v1 v2 : Value) (a : Asn) (w : World) (h1 : RL w S1 v1 a.1) (h2 : RL w S2 v2 a.2) (hx1 : a.1.all factB = true) (hx2 : a.2.all atomB = true) :
    Calls Try.prog 171 #[.agg #[v1, v2]] w fun e w' => ∃ v, e = .returned v ∧ w'.ownsRow w.heap.size 4 1 v 9 (flagsOf (termsM a)) ∧ Below w.heap.size w w' := by
  have hmk := mk9T
  have hm1 := h1.len
  have hm2 := h2.len
  unfold maxLen at hm1 hm2
  obtain ⟨l1, l2⟩ := a
  simp only at h1 h2 hm1 hm2 hx1 hx2
  obtain ⟨a1, c1, rfl, _, _, hf1⟩ := h1.factAt
  obtain ⟨a2, c2, rfl, _, _, hf2⟩ := h2.atomAt
  have F1 := Lib.hid hf1
  have F2 := Lib.hid hf2
  have B1 := Lib.hid (all_of hx1)
  have B2 := Lib.hid (all_of hx2)
  clear hf1 hf2 h1 h2 hx1 hx2
  have hfl := own9T (w.alloc (.cells #[.slice a1 l1.length c1, .slice a2 l2.length c2] 34)) w.heap.size (by simp)
  simp only [World.size_alloc] at hfl
  have HFL := Lib.hid hfl
  clear hfl
  go_enter Try.func171, Try.ntmps171
  go_wp2
  go_loopg [4] l1.length (fun q i wr => ∃ k : Nat, k + q = l1.length ∧ i = .int .i64 k ∧ wr.ownsRow w.heap.size 4 1 (.slice (some ⟨w.heap.size + 1, 0, none⟩) 9 9) 9 (flagsOf (factsM 0 (l1.take k))) ∧ (wr.cell? ⟨w.heap.size, 0, none⟩ = some (.slice a1 l1.length c1) ∧ wr.cell? ⟨w.heap.size, 1, none⟩ = some (.slice a2 l2.length c2)) ∧ Below w.heap.size w wr)
  case atStart => exact ⟨0, by omega, rfl, HFL.out, ⟨by simp [go_sem], by simp [go_sem]⟩, (by repeat (first | exact Below.refl _ _ | with_reducible assumption | exact below_alloc _ _ | (refine Below.setCell ?_ (by first | (simp; done) | (simp; omega) | omega) _) | apply bd | apply ba | apply be))⟩
  case round =>
    obtain ⟨k, hk, rfl, ho, ⟨hc0, hc1⟩, hb⟩ := hrel
    have HK := Lib.hid hk
    clear hk
    have hz : w.heap.size < wr.heap.size := World.block_lt_of_cell? wr _ hc1
    have hzf : w.heap.size + 1 < wr.heap.size := (ho.lt _ rfl).2
    by_cases hk8 : k < l1.length
    · obtain ⟨b1, o1, rfl, _, hbl1, hp1, hp2, hp3⟩ := F1.out k hk8
      replace hp1 := cell_keep hb hp1; replace hp2 := cell_keep hb hp2; replace hp3 := cell_keep hb hp3
      have i1 : (k : Int) < (l1.length : Int) := by omega
      have hne : ¬ b1 = w.heap.size + 1 := by omega
      have hst := factsM_step (m := 0) hk8
      obtain ⟨t1, t2, t3, t4⟩ := factB_le (B1.out k hk8)
      obtain ⟨i, hi⟩ := Int.eq_ofNat_of_zero_le t1
      obtain ⟨j, hj⟩ := Int.eq_ofNat_of_zero_le t3
      have hi9 : (i : Int) < 9 := by omega
      have hj9 : (j : Int) < 9 := by omega
      obtain ⟨m, hm⟩ : ∃ m, factsM 0 (l1.take k) = m := ⟨_, rfl⟩
      rw [hi, hj, termM_nat (by omega), termM_nat (by omega), hm] at hst
      rw [hm] at ho
      rw [hi] at hp2
      rw [hj] at hp3
      have HST := Lib.hid hst
      obtain ⟨s1, g1⟩ := ho.stored i (.bool true)
      rw [flags_set m i (by omega)] at s1
      have f1 := grown_fr g1
      have z1 := ho.frozenAt i
      have y1 : wr.cell? ⟨w.heap.size + 1, i, none⟩ = some (.bool (m.testBit i)) := by
        have := ho.cellAt i (by omega)
        rw [flags_at m i (by omega)] at this
        simpa using this
      have hc0' := f1.cell (p := ⟨w.heap.size, 0, none⟩) (fun e => by have := Option.some.inj e; simp at this) hc0
      have hc1' := f1.cell (p := ⟨w.heap.size, 1, none⟩) (fun e => by have := Option.some.inj e; simp at this) hc1
      have hp3' := f1.cell (p := ⟨b1, o1 + k * 3 + 2, none⟩) (fun e => hne (Option.some.inj e)) hp3
      have hb1 := hb.trans (f1.below hb.size fun k _ e => by have := Option.some.inj e; omega)
      have HS1 := Lib.hid (And.intro s1 hb1)
      have HC1 := Lib.hid (And.intro hp3' (And.intro hc0' hc1'))
      clear hst t1 t2 t3 t4 hi hj hm ho s1 g1 f1 hp3' hb1 hc0' hc1'
      go_upto_region 6 with fail
      generalize wr.setCell ⟨w.heap.size + 1, i, none⟩ (.bool true) = w6 at HS1 HC1 ⊢
      have s1 := HS1.out.1
      have hb6 := HS1.out.2
      have hp6 := HC1.out.1
      have hd0 := HC1.out.2.1
      have hd1 := HC1.out.2.2
      obtain ⟨s2, g2⟩ := s1.stored j (.bool true)
      rw [flags_set _ j (by omega)] at s2
      have z2 := s1.frozenAt j
      have y2 : w6.cell? ⟨w.heap.size + 1, j, none⟩ = some (.bool ((m ||| 2 ^ i).testBit j)) := by
        have := s1.cellAt j (by omega)
        rw [flags_at _ j (by omega)] at this
        simpa using this
      have HS := Lib.hid (And.intro s2 (grown_fr g2))
      clear s1 s2 g2 hc1 z1 y1 hc0 hp1 hp2 hp3
      go_wp2
      go_roundg (gk - 1)
      case rel => exact ⟨k + 1, by have := HK.out; omega, by go_num, by rw [HST.out]; exact HS.out.1, ⟨HS.out.2.cell (fun e => by have := Option.some.inj e; simp at this) hd0, HS.out.2.cell (fun e => by have := Option.some.inj e; simp at this) hd1⟩, hb6.trans (HS.out.2.below hb6.size fun k _ e => by have := Option.some.inj e; omega)⟩
      case measure => have := HK.out; omega
    · obtain rfl : k = l1.length := by have := HK.out; omega
      rw [List.take_length] at ho
      have hT : termsM (l1, l2) = atomsM (factsM 0 l1) l2 := rfl
      obtain ⟨M, hM⟩ : ∃ m, factsM 0 l1 = m := ⟨_, rfl⟩
      rw [hM] at ho hT
      have HT := Lib.hid hT
      have HO := Lib.hid ho
      clear hM hT ho
      obtain ⟨wo, rfl⟩ : ∃ wo : World, wo = wr := ⟨_, rfl⟩
      go_wp2
      go_loopg [5] l2.length (fun q i wr => ∃ k : Nat, k + q = l2.length ∧ i = .int .i64 k ∧ wr.ownsRow w.heap.size 4 1 (.slice (some ⟨w.heap.size + 1, 0, none⟩) 9 9) 9 (flagsOf (atomsM M (l2.take k))) ∧ wr.cell? ⟨w.heap.size, 1, none⟩ = some (.slice a2 l2.length c2) ∧ Below w.heap.size w wr)
      case atStart => exact ⟨0, by omega, rfl, HO.out, hc1, hb⟩
      case round =>
        clear hc0 hc1 hb hz hzf
        obtain ⟨k, hk, rfl, ho, hc1, hb⟩ := hrel
        have HK := Lib.hid hk
        clear hk
        have hz : w.heap.size < wr.heap.size := World.block_lt_of_cell? wr _ hc1
        have hzf : w.heap.size + 1 < wr.heap.size := (ho.lt _ rfl).2
        by_cases hk8 : k < l2.length
        · obtain ⟨b1, o1, rfl, _, hbl1, hp1, hp2, hp3⟩ := F2.out k hk8
          replace hp1 := cell_keep hb hp1; replace hp2 := cell_keep hb hp2; replace hp3 := cell_keep hb hp3
          have i1 : (k : Int) < (l2.length : Int) := by omega
          have hne : ¬ b1 = w.heap.size + 1 := by omega
          have hst := atomsM_step (m := M) hk8
          obtain ⟨t1, t2, t3, t4⟩ := atomB_le' (B2.out k hk8)
          obtain ⟨i, hi⟩ := Int.eq_ofNat_of_zero_le t1
          obtain ⟨j, hj⟩ := Int.eq_ofNat_of_zero_le t3
          have hi9 : (i : Int) < 9 := by omega
          have hj9 : (j : Int) < 9 := by omega
          obtain ⟨m, hm⟩ : ∃ m, atomsM M (l2.take k) = m := ⟨_, rfl⟩
          rw [hi, hj, termM_nat (by omega), termM_nat (by omega), hm] at hst
          rw [hm] at ho
          rw [hi] at hp2
          rw [hj] at hp3
          have HST := Lib.hid hst
          obtain ⟨s1, g1⟩ := ho.stored i (.bool true)
          rw [flags_set m i (by omega)] at s1
          have f1 := grown_fr g1
          have z1 := ho.frozenAt i
          have y1 : wr.cell? ⟨w.heap.size + 1, i, none⟩ = some (.bool (m.testBit i)) := by
            have := ho.cellAt i (by omega)
            rw [flags_at m i (by omega)] at this
            simpa using this
          have hc1' := f1.cell (p := ⟨w.heap.size, 1, none⟩) (fun e => by have := Option.some.inj e; simp at this) hc1
          have hp3' := f1.cell (p := ⟨b1, o1 + k * 3 + 2, none⟩) (fun e => hne (Option.some.inj e)) hp3
          have hb1 := hb.trans (f1.below hb.size fun k _ e => by have := Option.some.inj e; omega)
          have HS1 := Lib.hid (And.intro s1 hb1)
          have HC1 := Lib.hid (And.intro hp3' hc1')
          clear hst t1 t2 t3 t4 hi hj hm ho s1 g1 f1 hp3' hb1 hc1'
          go_upto_region 11 with fail
          generalize wr.setCell ⟨w.heap.size + 1, i, none⟩ (.bool true) = w6 at HS1 HC1 ⊢
          have s1 := HS1.out.1
          have hb6 := HS1.out.2
          have hp6 := HC1.out.1
          have hd1 := HC1.out.2
          obtain ⟨s2, g2⟩ := s1.stored j (.bool true)
          rw [flags_set _ j (by omega)] at s2
          have z2 := s1.frozenAt j
          have y2 : w6.cell? ⟨w.heap.size + 1, j, none⟩ = some (.bool ((m ||| 2 ^ i).testBit j)) := by
            have := s1.cellAt j (by omega)
            rw [flags_at _ j (by omega)] at this
            simpa using this
          have HS := Lib.hid (And.intro s2 (grown_fr g2))
          clear s1 s2 g2 hc1 z1 y1 hp1 hp2 hp3
          go_wp2
          go_roundg (gk - 1)
          case rel => exact ⟨k + 1, by have := HK.out; omega, by go_num, by rw [HST.out]; exact HS.out.1, HS.out.2.cell (fun e => by have := Option.some.inj e; simp at this) hd1, hb6.trans (HS.out.2.below hb6.size fun k _ e => by have := Option.some.inj e; omega)⟩
          case measure => have := HK.out; omega
        · obtain rfl : k = l2.length := by have := HK.out; omega
          rw [List.take_length] at ho
          go_wp2
          go_ret
          exact ⟨_, rfl, by rw [HT.out]; exact ho, hb⟩
end Go.Proofs.Ythoingdcmdhllaa
