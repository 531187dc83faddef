/- Walks: the set of the terms that are kept (setOfTerms, l10Busy). -/
import Derived.Test.YtdjfdopgjlbloaaVCaseA
import Derived.Handy
set_option linter.unusedVariables false
namespace Go.Proofs.Ytdjfdopgjlbloaa
open Go.RowKit

/-- The terms of a list. -/
def keepM (l : List Int) : Nat := l.foldl termM 0
theorem keepFold_lt : ∀ {l : List Int} {m : Nat}, m < 65536 → l.foldl termM m < 65536
  | [], _, h => h
  | x :: l, m, h => keepFold_lt (l := l) (m := termM m x) (termM_lt h)
theorem keepM_lt (l : List Int) : keepM l < 65536 := keepFold_lt (by decide)
theorem keepM_step {l : List Int} {k : Nat} (h : k < l.length) : keepM (l.take (k + 1)) = termM (keepM (l.take k)) (gi l k) := by
  rw [keepM, take_gd h, List.foldl_append, ← gi_gd]; rfl
set_option maxRecDepth 100000 in
set_option maxHeartbeats 3200000 in
theorem setOfTerms_any (v : Value) (l : List Int) (w : World) (h : RInts w v l) :
    Calls Try.prog 21 #[v] w fun e w' => e = .returned (.int .u16 (keepM l)) ∧ w = w' := by
  obtain ⟨a, c, rfl, hcell⟩ := h.cells
  have hlm := h.len
  unfold maxLen at hlm
  have HC := Lib.hid hcell
  clear hcell h
  go_enter Try.func21, Try.ntmps21
  go_wp2
  go_loopg [3, 8] l.length (fun q x i wr => ∃ k : Nat, k + q = l.length ∧ i = .int .i64 k ∧ x = .int .u16 (keepM (l.take k)) ∧ wr = w)
  case atStart => exact ⟨0, by omega, rfl, rfl, rfl⟩
  case round =>
    obtain ⟨k, hk, rfl, rfl, rfl⟩ := hrel
    have HK := Lib.hid hk
    clear hk
    by_cases hk8 : k < l.length
    · have hki : (k : Int) < (l.length : Int) := by omega
      obtain ⟨b, o, rfl, hzb, hck⟩ := HC.out k hk8
      have hst := keepM_step hk8
      obtain ⟨m, hm⟩ : ∃ m, keepM (l.take k) = m := ⟨_, rfl⟩
      have hml : m < 65536 := by rw [← hm]; exact keepM_lt _
      rw [hm] at hst ⊢
      have HST := Lib.hid hst
      clear hm hst
      go_wp2_with fail
      refine (withT_val _ hml HST.out.symm).mono ?_
      rintro e w5 ⟨rfl, rfl⟩
      go_wp2
      go_roundg (gk - 1)
      case rel => exact ⟨k + 1, by have := HK.out; omega, by go_num, rfl, rfl⟩
      case measure => have := HK.out; omega
    · obtain rfl : k = l.length := by have := HK.out; omega
      rw [List.take_length]
      go_wp2
      go_ret
      exact ⟨rfl, rfl⟩
set_option maxRecDepth 100000 in
set_option maxHeartbeats 3200000 in
theorem l10Busy_any (v : Value) (l : List Int) (w : World) (h : RInts w v l) :
    Calls Try.prog 55 #[v] w fun e w' => ∃ v, e = .returned v ∧ w'.ownsRow w.heap.size 4 1 v 9 (flagsOf (keepM l)) ∧ Below w.heap.size w w' := by
  have hmk := mk9T
  obtain ⟨a, c, rfl, hcell⟩ := h.cells
  have hlm := h.len
  unfold maxLen at hlm
  have HC := Lib.hid hcell
  have hfl := own9T w w.heap.size (Nat.le_refl _)
  have HFL := Lib.hid hfl
  clear hcell h hfl
  go_enter Try.func55, Try.ntmps55
  go_wp2
  go_loopg [4] l.length (fun q i wr => ∃ k : Nat, k + q = l.length ∧ i = .int .i64 k ∧ wr.ownsRow w.heap.size 4 1 (.slice (some ⟨w.heap.size, 0, none⟩) 9 9) 9 (flagsOf (keepM (l.take k))) ∧ Below w.heap.size w wr)
  case atStart => exact ⟨0, by omega, rfl, HFL.out, below_alloc _ _⟩
  case round =>
    obtain ⟨k, hk, rfl, ho, hb⟩ := hrel
    have HK := Lib.hid hk
    clear hk
    have hzf : w.heap.size < wr.heap.size := (ho.lt _ rfl).2
    by_cases hk8 : k < l.length
    · have hki : (k : Int) < (l.length : Int) := by omega
      obtain ⟨b, o, rfl, hzb, hck⟩ := HC.out k hk8
      replace hck := cell_keep hb hck
      have hz := hb.size
      have hzr : b < wr.heap.size := by omega
      have hne : ¬ b = w.heap.size := by omega
      have hst := keepM_step hk8
      obtain ⟨m, hm⟩ : ∃ m, keepM (l.take k) = m := ⟨_, rfl⟩
      rw [hm] at hst ho
      cases ht : isTermB (gi l k) with
      | false =>
        rw [termM, if_neg (by rw [ht]; decide)] at hst
        have HST := Lib.hid (And.intro hst ht)
        have HO := Lib.hid (And.intro ho hb)
        clear hst ht ho hm
        go_wp2_with fail
        refine (cb (l1Is_any _ _) HST.out.2).mono ?_
        rintro e w5 ⟨rfl, rfl⟩
        go_wp2
        go_roundg (gk - 1)
        case rel => exact ⟨k + 1, by have := HK.out; omega, by go_num, by rw [HST.out.1]; exact HO.out.1, HO.out.2⟩
        case measure => have := HK.out; omega
      | true =>
        have hn := isTermB_iff.1 ht
        obtain ⟨i, hi⟩ := Int.eq_ofNat_of_zero_le (show 0 ≤ gi l k by omega)
        rw [hi] at hst hck ht
        rw [termM_nat (by omega)] at hst
        have hi9 : (i : Int) < 9 := by omega
        have hi9n : i < 9 := by omega
        obtain ⟨s1, g1⟩ := ho.stored i (.bool true)
        rw [flags_set m i (by omega)] at s1
        have f1 := grown_fr g1
        have z1 := ho.frozenAt i
        have y1 : wr.cell? ⟨w.heap.size, i, none⟩ = some (.bool (m.testBit i)) := by
          have := ho.cellAt i (by omega)
          rw [flags_at m i (by omega)] at this
          simpa using this
        have hb1 := hb.trans (f1.below hb.size fun k _ e => by have := Option.some.inj e; omega)
        have HST := Lib.hid (And.intro hst ht)
        have HS := Lib.hid (And.intro s1 hb1)
        clear hst ht hn hi s1 g1 f1 hb1 ho hm
        go_wp2_with fail
        refine (cb (l1Is_any _ _) HST.out.2).mono ?_
        rintro e w5 ⟨rfl, rfl⟩
        go_wp2
        go_roundg (gk - 1)
        case rel => exact ⟨k + 1, by have := HK.out; omega, by go_num, by rw [HST.out.1]; exact HS.out.1, HS.out.2⟩
        case measure => have := HK.out; omega
    · obtain rfl : k = l.length := by have := HK.out; omega
      rw [List.take_length] at ho
      go_wp2
      go_ret
      exact ⟨_, rfl, ho, hb⟩
end Go.Proofs.Ytdjfdopgjlbloaa
