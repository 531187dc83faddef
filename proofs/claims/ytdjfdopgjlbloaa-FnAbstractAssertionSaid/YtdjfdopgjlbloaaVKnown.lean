/- Walks: the first fact that says what a variable is (l10Known, firstSubstitution). -/
import Derived.Test.YtdjfdopgjlbloaaVTdy
import Derived.Laws.StructEq
import Derived.Deep.Cut
import Derived.Handy
import Derived.BigQuiet
set_option linter.unusedVariables false
set_option linter.unusedSimpArgs false
namespace Go.Proofs.Ytdjfdopgjlbloaa
open Go.RowKit

def kX (r : Option (Int × Int)) : Int := (r.getD (0, 0)).1
def kT (r : Option (Int × Int)) : Int := (r.getD (0, 0)).2
def isSo {α : Type} (r : Option α) : Bool := r.isSome
def logB (t : Int) : Bool := decide (4 < t) && decide (t ≤ 8)
theorem free_nat {m i : Nat} (h : i ≤ 8) : freeB m (i : Int) = (decide (4 < (i : Int)) && !m.testBit i) := by
  rw [freeB, hasT, show isTermB (i : Int) = true by simp [isTermB]; omega]; simp
theorem known_eq {m i j : Nat} (h : ((i : Int) == (j : Int)) = true) : knownS m (true, (i : Int), (j : Int)) = none := by
  rw [knownS, if_pos rfl, if_pos (by simpa using h)]
theorem known_fst {m i j : Nat} (hi : i ≤ 8) (h : ((i : Int) == (j : Int)) = false) (h4 : 4 < (i : Int)) (hb : m.testBit i = false) : knownS m (true, (i : Int), (j : Int)) = some ((i : Int), (j : Int)) := by
  rw [knownS, if_pos rfl, if_neg (by simpa using h), if_pos (by rw [free_nat hi, hb, decide_eq_true h4]; rfl)]
theorem free_no {m i : Nat} (hi : i ≤ 8) (h : ¬ 4 < (i : Int) ∨ (4 < (i : Int) ∧ m.testBit i = true)) : ¬ freeB m (i : Int) = true := by
  rw [free_nat hi]
  rcases h with h | ⟨_, h⟩
  · rw [decide_eq_false h]; simp
  · rw [h]; simp
theorem known_snd {m i j : Nat} (hi : i ≤ 8) (hj : j ≤ 8) (h : ((i : Int) == (j : Int)) = false) (h1 : ¬ 4 < (i : Int) ∨ (4 < (i : Int) ∧ m.testBit i = true)) (h4 : 4 < (j : Int)) (hb : m.testBit j = false) : knownS m (true, (i : Int), (j : Int)) = some ((j : Int), (i : Int)) := by
  rw [knownS, if_pos rfl, if_neg (by simpa using h), if_neg (free_no hi h1), if_pos (by rw [free_nat hj, hb, decide_eq_true h4]; rfl)]
theorem known_no {m i j : Nat} (hi : i ≤ 8) (hj : j ≤ 8) (h : ((i : Int) == (j : Int)) = false) (h1 : ¬ 4 < (i : Int) ∨ (4 < (i : Int) ∧ m.testBit i = true)) (h2 : ¬ 4 < (j : Int) ∨ (4 < (j : Int) ∧ m.testBit j = true)) : knownS m (true, (i : Int), (j : Int)) = none := by
  rw [knownS, if_pos rfl, if_neg (by simpa using h), if_neg (free_no hi h1), if_neg (free_no hj h2)]
theorem findS_step {α β : Type} [Inhabited α] {f : α → Option β} {l : List α} {k : Nat} (h : k < l.length) (h0 : (l.take k).findSome? f = none) (h1 : f (gd l k) = none) : (l.take (k + 1)).findSome? f = none := by
  rw [take_gd h, List.findSome?_append, h0, List.findSome?_cons, h1]; rfl
theorem findS_hit {α β : Type} [Inhabited α] {f : α → Option β} {l : List α} {k : Nat} {y : β} (h : k < l.length) (h0 : (l.take k).findSome? f = none) (h1 : f (gd l k) = some y) : l.findSome? f = some y := by
  rw [← List.take_append_drop (k + 1) l, List.findSome?_append, take_gd h, List.findSome?_append, h0, List.findSome?_cons, h1]; rfl
theorem three_ways (b : Bool) (i : Int) (p : Bool) (hp : p = b) : ¬ 4 < i ∨ (4 < i ∧ b = true) ∨ (4 < i ∧ b = false) := by
  by_cases h : 4 < i
  · cases b
    · exact .inr (.inr ⟨h, rfl⟩)
    · exact .inr (.inl ⟨h, rfl⟩)
  · exact .inl h
theorem logVar_any (t : Int) (w : World) : Calls Try.prog 48 #[.int .i64 t] w fun e w' => e = .returned (.bool (logB t)) ∧ w = w' := by
  have hl : logB t = (decide (4 < t) && decide (t ≤ 8)) := rfl
  have HL := Lib.hid hl
  clear hl
  by_cases h1 : 4 < t
  · by_cases h2 : t ≤ 8
    · have HD := Lib.hid (show logB t = true by rw [HL.out, decide_eq_true h1, decide_eq_true h2]; rfl)
      go_enter Try.func48, Try.ntmps48
      go_wp2
      go_ret
      exact ⟨by rw [HD.out]; rfl, rfl⟩
    · have HD := Lib.hid (show logB t = false by rw [HL.out, decide_eq_false h2]; simp)
      go_enter Try.func48, Try.ntmps48
      go_wp2
      go_ret
      exact ⟨by rw [HD.out]; rfl, rfl⟩
  · have HD := Lib.hid (show logB t = false by rw [HL.out, decide_eq_false h1]; simp)
    go_enter Try.func48, Try.ntmps48
    go_wp2
    go_ret
    exact ⟨by rw [HD.out]; rfl, rfl⟩
set_option maxRecDepth 100000 in
set_option maxHeartbeats 3200000 in
theorem l10Known_any {S1 S2 : Nat → Prop} (v1 v2 bv : Value) (a : Asn) (m B : Nat) (r : Option (Int × Int)) (w : World) (h1 : RL w S1 v1 a.1) (h2 : RL w S2 v2 a.2) (ho : w.ownsRow B 4 1 bv 9 (flagsOf m)) (ha : ∀ f ∈ a.1, factB f = true) (hr : knownF m a.1 = r) :
    Calls Try.prog 78 #[.agg #[v1, v2], bv] w fun e w' => e = .returned (.tuple #[.int .i64 (kX r), .int .i64 (kT r), .bool (isSo r)]) ∧ Below w.heap.size w w' := by
  obtain ⟨a1, a2⟩ := a
  simp only at h1 h2 ha hr
  obtain ⟨p1, c1, rfl⟩ := h1.form
  obtain ⟨p2, c2, rfl⟩ := h2.form
  obtain ⟨g, cap, rfl⟩ := flags_form ho
  have hln := h1.len
  unfold maxLen at hln
  have hbA := heap_alloc_new w (.cells #[.slice p1 a1.length c1, .slice p2 a2.length c2] 26)
  have hb0 : Below w.heap.size w (w.alloc (.cells #[.slice p1 a1.length c1, .slice p2 a2.length c2] 26)) := below_alloc _ _
  have H1 := Lib.hid (And.intro hbA (And.intro hb0 (And.intro ho h1)))
  have HR := Lib.hid (And.intro hr ha)
  clear hbA hb0 ho h1 h2 hr ha
  go_enter Try.func78, Try.ntmps78
  go_wp2
  go_loopg [7] a1.length (fun q i wr => ∃ k : Nat, k + q = a1.length ∧ i = .int .i64 k ∧ (a1.take k).findSome? (knownS m) = none ∧ wr.heap[w.heap.size]? = some (.cells #[.slice p1 a1.length c1, .slice p2 a2.length c2] 26 (0, 0)) ∧ Below w.heap.size w wr)
  case atStart => exact ⟨0, by omega, rfl, rfl, H1.out.1, H1.out.2.1⟩
  case round =>
    obtain ⟨k, hk, rfl, hf, hA, hW⟩ := hrel
    have HK := Lib.hid (And.intro hk hf)
    clear hk hf
    have x0 := box0 hA
    have xl := box_lt hA
    by_cases hk8 : k < a1.length
    · have hki : (k : Int) < (a1.length : Int) := by omega
      obtain ⟨qa, qc, hqe, _, _, hqf⟩ := (H1.out.2.2.2.keep hW).factAt
      simp only [Value.slice.injEq] at hqe
      obtain ⟨rfl, _, rfl⟩ := hqe
      obtain ⟨b1, o1, rfl, _, hz1, hp1, hp2, hp3⟩ := hqf k hk8
      obtain ⟨X, hX⟩ : ∃ X, gd a1 k = X := ⟨_, rfl⟩
      obtain ⟨X1, X2, X3⟩ := X
      have hv := factB_iff.1 (HR.out.2 _ (gd_mem hk8))
      rw [hX] at hp1 hp2 hp3 hv
      simp only at hp1 hp2 hp3 hv
      obtain ⟨i2, rfl⟩ := Int.eq_ofNat_of_zero_le hv.1.1
      obtain ⟨i3, rfl⟩ := Int.eq_ofNat_of_zero_le hv.2.1
      have u2 : i2 ≤ 8 := by omega
      have u3 : i3 ≤ 8 := by omega
      have t2 : (i2 : Int) < 9 := by omega
      have t3 : (i3 : Int) < 9 := by omega
      have y2 : ∃ b, m.testBit i2 = b ∧ wr.cell? ⟨g, i2, none⟩ = some (.bool b) := ⟨_, rfl, by have := (own_keep H1.out.2.2.1 hW).cellAt i2 (by omega); rw [flags_at m i2 (by omega)] at this; exact this⟩
      have y3 : ∃ b, m.testBit i3 = b ∧ wr.cell? ⟨g, i3, none⟩ = some (.bool b) := ⟨_, rfl, by have := (own_keep H1.out.2.2.1 hW).cellAt i3 (by omega); rw [flags_at m i3 (by omega)] at this; exact this⟩
      obtain ⟨b2, hb2, y2⟩ := y2
      obtain ⟨b3, hb3, y3⟩ := y3
      have z2 := World.block_lt_of_cell? wr _ y2
      simp only at z2
      have HX := Lib.hid (And.intro hX (And.intro (And.intro u2 u3) (And.intro hb2 hb3)))
      have HA := Lib.hid (And.intro (box_keep hA (below_alloc wr (.cells #[.bool X1, .int .i64 i2, .int .i64 i3] 53))) (bt hW (below_alloc wr (.cells #[.bool X1, .int .i64 i2, .int .i64 i3] 53))))
      clear hqf hX hv u2 u3 hb2 hb3 hA hW
      have stay : knownS m (X1, (i2 : Int), (i3 : Int)) = none → (a1.take (k + 1)).findSome? (knownS m) = none := fun e => findS_step hk8 HK.out.2 (by rw [HX.out.1]; exact e)
      have hit : ∀ y, knownS m (X1, (i2 : Int), (i3 : Int)) = some y → r = some y := fun y e => HR.out.1.symm.trans (findS_hit hk8 HK.out.2 (by rw [HX.out.1]; exact e))
      have HS := Lib.hid (And.intro stay hit)
      clear stay hit
      cases X1 with
      | false =>
        have HV := Lib.hid (HS.out.1 (by simp [knownS]))
        go_wp2
        go_roundg (gk - 1)
        case rel => exact ⟨k + 1, by have := HK.out.1; omega, by go_num, HV.out, HA.out⟩
        case measure => have := HK.out.1; omega
      | true =>
        cases he : ((i2 : Int) == (i3 : Int)) with
        | true =>
          have HV := Lib.hid (HS.out.1 (known_eq he))
          go_wp2
          go_roundg (gk - 1)
          case rel => exact ⟨k + 1, by have := HK.out.1; omega, by go_num, HV.out, HA.out⟩
          case measure => have := HK.out.1; omega
        | false =>
          have HE := Lib.hid he
          have w2 : (¬ 4 < (i2 : Int) ∨ (4 < (i2 : Int) ∧ b2 = true)) ∨ (4 < (i2 : Int) ∧ b2 = false) := by
            rcases three_ways b2 (i2 : Int) b2 rfl with h | h | h
            · exact .inl (.inl h)
            · exact .inl (.inr h)
            · exact .inr h
          rcases w2 with w2 | ⟨w2, rfl⟩
          · have w3 : (¬ 4 < (i3 : Int) ∨ (4 < (i3 : Int) ∧ b3 = true)) ∨ (4 < (i3 : Int) ∧ b3 = false) := by
              rcases three_ways b3 (i3 : Int) b3 rfl with h | h | h
              · exact .inl (.inl h)
              · exact .inl (.inr h)
              · exact .inr h
            have HW2 := Lib.hid (show ¬ 4 < (i2 : Int) ∨ (4 < (i2 : Int) ∧ m.testBit i2 = true) by rw [HX.out.2.2.1]; exact w2)
            rcases w3 with w3 | ⟨w3, rfl⟩
            · have HV := Lib.hid (HS.out.1 (known_no HX.out.2.1.1 HX.out.2.1.2 HE.out HW2.out (by rw [HX.out.2.2.2]; exact w3)))
              rcases w2 with w2 | ⟨w2, rfl⟩ <;> rcases w3 with w3 | ⟨w3, rfl⟩
              all_goals
                go_wp2
                go_roundg (gk - 1)
                case rel => exact ⟨k + 1, by have := HK.out.1; omega, by go_num, HV.out, HA.out⟩
                case measure => have := HK.out.1; omega
            · have HV := Lib.hid (HS.out.2 _ (known_snd HX.out.2.1.1 HX.out.2.1.2 HE.out HW2.out w3 HX.out.2.2.2))
              rcases w2 with w2 | ⟨w2, rfl⟩
              all_goals
                go_wp2
                go_region
                go_wp2
                refine bodyPost_ret (v := .tuple #[.int .i64 i3, .int .i64 i2, .bool true]) (by simp [results, Try.results78, go_sem]) rfl ?_
                exact ⟨by rw [HV.out]; rfl, bt HA.out.2 Bl⟩
          · have HV := Lib.hid (HS.out.2 _ (known_fst HX.out.2.1.1 HE.out w2 HX.out.2.2.1))
            go_wp2
            go_region
            go_wp2
            refine bodyPost_ret (v := .tuple #[.int .i64 i2, .int .i64 i3, .bool true]) (by simp [results, Try.results78, go_sem]) rfl ?_
            exact ⟨by rw [HV.out]; rfl, bt HA.out.2 Bl⟩
    · obtain rfl : k = a1.length := by have := HK.out.1; omega
      have HV := Lib.hid (show r = none by rw [← HR.out.1, knownF]; have := HK.out.2; rw [List.take_length] at this; exact this)
      have HB := Lib.hid hW
      clear hW hA
      go_wp2
      refine bodyPost_ret (v := .tuple #[.int .i64 0, .int .i64 0, .bool false]) (by simp [results, Try.results78, go_sem]) rfl ?_
      exact ⟨by rw [HV.out]; rfl, HB.out⟩
theorem log_nat {i : Nat} (h : i ≤ 8) : logB (i : Int) = decide (4 < (i : Int)) := by
  rw [logB, decide_eq_true (show (i : Int) ≤ 8 by omega), Bool.and_true]
theorem has_nat {m i : Nat} (h : i ≤ 8) : hasT m (i : Int) = m.testBit i := by
  rw [hasT, show isTermB (i : Int) = true by simp [isTermB]; omega]; simp
set_option maxRecDepth 100000 in
set_option maxHeartbeats 3200000 in
theorem firstSub_any {S1 : Nat → Prop} (v1 : Value) (a1 : List Fact) (m : Nat) (r : Option (Int × Int)) (w : World) (h1 : RL w S1 v1 a1) (hm : m < 65536) (ha : ∀ f ∈ a1, factB f = true) (hr : knownF m a1 = r) :
    Calls Try.prog 71 #[v1, .int .u16 m] w fun e w' => e = .returned (.tuple #[.agg #[.int .i64 (kX r), .int .i64 (kT r)], .bool (isSo r)]) ∧ Below w.heap.size w w' := by
  obtain ⟨p1, c1, rfl⟩ := h1.form
  have hln := h1.len
  unfold maxLen at hln
  have hbA := heap_alloc_new w (.cells #[.int .i64 0, .int .i64 0] 103)
  have hb0 : Below w.heap.size w (w.alloc (.cells #[.int .i64 0, .int .i64 0] 103)) := below_alloc _ _
  have H1 := Lib.hid (And.intro hbA (And.intro hb0 h1))
  have HR := Lib.hid (And.intro hr ha)
  clear hbA hb0 h1 hr ha
  go_enter Try.func71, Try.ntmps71
  go_wp2
  go_loopg [10] a1.length (fun q i wr => ∃ k : Nat, k + q = a1.length ∧ i = .int .i64 k ∧ (a1.take k).findSome? (knownS m) = none ∧ wr.heap[w.heap.size]? = some (.cells #[.int .i64 0, .int .i64 0] 103 (0, 0)) ∧ Below w.heap.size w wr)
  case atStart => exact ⟨0, by omega, rfl, rfl, H1.out.1, H1.out.2.1⟩
  case round =>
    obtain ⟨k, hk, rfl, hf, hA, hW⟩ := hrel
    have HK := Lib.hid (And.intro hk hf)
    clear hk hf
    have xl := box_lt hA
    by_cases hk8 : k < a1.length
    · have hki : (k : Int) < (a1.length : Int) := by omega
      obtain ⟨qa, qc, hqe, _, _, hqf⟩ := (H1.out.2.2.keep hW).factAt
      simp only [Value.slice.injEq] at hqe
      obtain ⟨rfl, _, rfl⟩ := hqe
      obtain ⟨b1, o1, rfl, _, hz1, hp1, hp2, hp3⟩ := hqf k hk8
      obtain ⟨X, hX⟩ : ∃ X, gd a1 k = X := ⟨_, rfl⟩
      obtain ⟨X1, X2, X3⟩ := X
      have hv := factB_iff.1 (HR.out.2 _ (gd_mem hk8))
      rw [hX] at hp1 hp2 hp3 hv
      simp only at hp1 hp2 hp3 hv
      obtain ⟨i2, rfl⟩ := Int.eq_ofNat_of_zero_le hv.1.1
      obtain ⟨i3, rfl⟩ := Int.eq_ofNat_of_zero_le hv.2.1
      have u2 : i2 ≤ 8 := by omega
      have u3 : i3 ≤ 8 := by omega
      obtain ⟨b2, hb2⟩ : ∃ b, m.testBit i2 = b := ⟨_, rfl⟩
      obtain ⟨b3, hb3⟩ : ∃ b, m.testBit i3 = b := ⟨_, rfl⟩
      have HX := Lib.hid (And.intro hX (And.intro (And.intro u2 u3) (And.intro hb2 hb3)))
      have hA' := box_keep hA (below_alloc wr (.cells #[.bool X1, .int .i64 i2, .int .i64 i3] 53))
      have r0 := box0 hA
      have r1 := box1 hA
      have rz := boxz hA
      have rr := box_two (.int .i64 (i2 : Int)) (.int .i64 (i3 : Int)) r0 r1
      have rs := box_two (.int .i64 (i3 : Int)) (.int .i64 (i2 : Int)) r0 r1
      have rr0 := cell_keep (below_alloc _ (.cells #[.bool X1, .int .i64 i2, .int .i64 i3] 53)) rr.1
      have rr1 := cell_keep (below_alloc _ (.cells #[.bool X1, .int .i64 i2, .int .i64 i3] 53)) rr.2
      have rs0 := cell_keep (below_alloc _ (.cells #[.bool X1, .int .i64 i2, .int .i64 i3] 53)) rs.1
      have rs1 := cell_keep (below_alloc _ (.cells #[.bool X1, .int .i64 i2, .int .i64 i3] 53)) rs.2
      have HQ := Lib.hid (And.intro hW (And.intro (And.intro rr0 rr1) (And.intro rs0 rs1)))
      clear rr rs rr0 rr1 rs0 rs1
      have HA := Lib.hid (And.intro hA' (bt hW (below_alloc wr (.cells #[.bool X1, .int .i64 i2, .int .i64 i3] 53))))
      clear hqf hX hv u2 u3 hb2 hb3 hA hA' hW
      have stay : knownS m (X1, (i2 : Int), (i3 : Int)) = none → (a1.take (k + 1)).findSome? (knownS m) = none := fun e => findS_step hk8 HK.out.2 (by rw [HX.out.1]; exact e)
      have hit : ∀ y, knownS m (X1, (i2 : Int), (i3 : Int)) = some y → r = some y := fun y e => HR.out.1.symm.trans (findS_hit hk8 HK.out.2 (by rw [HX.out.1]; exact e))
      have HS := Lib.hid (And.intro stay hit)
      clear stay hit
      cases X1 with
      | false =>
        have HV := Lib.hid (HS.out.1 (by simp [knownS]))
        clear r0 r1 rz
        go_wp2
        go_roundg (gk - 1)
        case rel => exact ⟨k + 1, by have := HK.out.1; omega, by go_num, HV.out, HA.out⟩
        case measure => have := HK.out.1; omega
      | true =>
        cases he : ((i2 : Int) == (i3 : Int)) with
        | true =>
          have HV := Lib.hid (HS.out.1 (known_eq he))
          clear r0 r1 rz
          go_wp2
          go_roundg (gk - 1)
          case rel => exact ⟨k + 1, by have := HK.out.1; omega, by go_num, HV.out, HA.out⟩
          case measure => have := HK.out.1; omega
        | false =>
          have HE := Lib.hid he
          have hT2 : hasT m (i2 : Int) = b2 := by rw [has_nat HX.out.2.1.1, HX.out.2.2.1]
          have hT3 : hasT m (i3 : Int) = b3 := by rw [has_nat HX.out.2.1.2, HX.out.2.2.2]
          have w2 : (logB (i2 : Int) = false ∨ (logB (i2 : Int) = true ∧ b2 = true)) ∨ (logB (i2 : Int) = true ∧ b2 = false) := by
            cases logB (i2 : Int) <;> cases b2 <;> simp
          have w3 : (logB (i3 : Int) = false ∨ (logB (i3 : Int) = true ∧ b3 = true)) ∨ (logB (i3 : Int) = true ∧ b3 = false) := by
            cases logB (i3 : Int) <;> cases b3 <;> simp
          have tr : ∀ i b, i ≤ 8 → m.testBit i = b → (logB (i : Int) = false ∨ (logB (i : Int) = true ∧ b = true)) → (¬ 4 < (i : Int) ∨ (4 < (i : Int) ∧ m.testBit i = true)) := fun i b hi hb h => by
            rw [log_nat hi] at h
            rcases h with h | ⟨h, rfl⟩
            · exact .inl (by simpa using h)
            · exact .inr ⟨by simpa using h, hb⟩
          have HTR := Lib.hid tr
          clear tr
          rcases w2 with w2 | ⟨w2, rfl⟩
          · have HW2 := Lib.hid (HTR.out i2 b2 HX.out.2.1.1 HX.out.2.2.1 w2)
            rcases w3 with w3 | ⟨w3, rfl⟩
            · have HV := Lib.hid (HS.out.1 (known_no HX.out.2.1.1 HX.out.2.1.2 HE.out HW2.out (HTR.out i3 b3 HX.out.2.1.2 HX.out.2.2.2 w3)))
              clear r0 r1 rz
              rcases w2 with w2 | ⟨w2, rfl⟩ <;> rcases w3 with w3 | ⟨w3, rfl⟩
              all_goals
                go_wp2_with (first
                  | (go_at_call 48; refine (logVar_any _ _).mono ?_; rintro e w' ⟨rfl, rfl⟩)
                  | (go_at_call 49; refine (hasT_any _ _ _ hm).mono ?_; rintro e w' ⟨rfl, rfl⟩))
                go_roundg (gk - 1)
                case rel => exact ⟨k + 1, by have := HK.out.1; omega, by go_num, HV.out, HA.out⟩
                case measure => have := HK.out.1; omega
            · have HV := Lib.hid (HS.out.2 _ (known_snd HX.out.2.1.1 HX.out.2.1.2 HE.out HW2.out (by rw [log_nat HX.out.2.1.2] at w3; simpa using w3) HX.out.2.2.2))
              rcases w2 with w2 | ⟨w2, rfl⟩
              all_goals
                go_wp2_with (first
                  | (go_at_call 48; refine (logVar_any _ _).mono ?_; rintro e w' ⟨rfl, rfl⟩)
                  | (go_at_call 49; refine (hasT_any _ _ _ hm).mono ?_; rintro e w' ⟨rfl, rfl⟩))
                refine bodyPost_ret (v := .tuple #[.agg #[.int .i64 i3, .int .i64 i2], .bool true]) (by simp [results, Try.results71, go_sem, HQ.out.2.2.1, HQ.out.2.2.2]) rfl ?_
                exact ⟨by rw [HV.out]; rfl, ba ((HQ.out.1.setCell (by simp) _).setCell (by simp) _) _⟩
          · have HV := Lib.hid (HS.out.2 _ (known_fst HX.out.2.1.1 HE.out (by rw [log_nat HX.out.2.1.1] at w2; simpa using w2) HX.out.2.2.1))
            go_wp2_with (first
              | (go_at_call 48; refine (logVar_any _ _).mono ?_; rintro e w' ⟨rfl, rfl⟩)
              | (go_at_call 49; refine (hasT_any _ _ _ hm).mono ?_; rintro e w' ⟨rfl, rfl⟩))
            refine bodyPost_ret (v := .tuple #[.agg #[.int .i64 i2, .int .i64 i3], .bool true]) (by simp [results, Try.results71, go_sem, HQ.out.2.1.1, HQ.out.2.1.2]) rfl ?_
            exact ⟨by rw [HV.out]; rfl, ba ((HQ.out.1.setCell (by simp) _).setCell (by simp) _) _⟩
    · obtain rfl : k = a1.length := by have := HK.out.1; omega
      have HV := Lib.hid (show r = none by rw [← HR.out.1, knownF]; have := HK.out.2; rw [List.take_length] at this; exact this)
      have r0 := box0 hA
      have r1 := box1 hA
      have rz := boxz hA
      have rr := box_two (.int .i64 0) (.int .i64 0) r0 r1
      have HB := Lib.hid hW
      clear hW hA
      go_wp2
      refine bodyPost_ret (v := .tuple #[.agg #[.int .i64 0, .int .i64 0], .bool false]) (by simp [results, Try.results71, go_sem, rr.1, rr.2]) rfl ?_
      exact ⟨by rw [HV.out]; rfl, (HB.out.setCell (by simp) _).setCell (by simp) _⟩
end Go.Proofs.Ytdjfdopgjlbloaa
