/- Walks: the words of a text (reference: l18Words). -/
import Derived.Test.YtgfnoinkajfndaaGreatABtxA
import Derived.Handy
import Derived.Deep.DeepMust
set_option linter.unusedVariables false
set_option linter.unusedSimpArgs false
namespace Go.Proofs.YtgfnoinkajfndaaGreat
open Go.RowKit

/-- The pieces that are not empty. -/
def wordsL (x : List UInt8) : List (List UInt8) := (cutL 32 x).filter fun p => decide (p ≠ [])
theorem filter_take {α : Type} [Inhabited α] {p : α → Bool} {l : List α} {k : Nat} (h : k < l.length) : (l.take (k + 1)).filter p = (l.take k).filter p ++ (if p (gd l k) = true then [gd l k] else []) := by
  rw [take_gd h, List.filter_append]; congr 1
  cases hp : p (gd l k) <;> simp [hp]
theorem filter_few {α : Type} (p : α → Bool) (l : List α) (k : Nat) : ((l.take k).filter p).length ≤ k :=
  Nat.le_trans (List.length_filter_le _ _) (by rw [List.length_take]; exact Nat.min_le_left _ _)
theorem words_short {t x : List UInt8} (h : x ∈ wordsL t) : x.length ≤ t.length := cut_short (List.mem_filter.1 h).1
theorem words_few (t : List UInt8) : (wordsL t).length ≤ t.length + 1 := Nat.le_trans (List.length_filter_le _ _) (cutL_len 32 t)
attribute [local go_sem] btx_nil
set_option maxRecDepth 100000 in
set_option maxHeartbeats 3200000 in
theorem wordsS_any (t : List UInt8) (w : World) (hl : t.length ≤ 1048576) :
    Calls Tryz.prog 138 #[.string (btx t)] w fun e w' => ∃ v, e = .returned v ∧ w'.ownsRow w.heap.size 9 1 v (wordsL t).length (strs (wordsL t)) ∧ Below w.heap.size w w' := by
  go_enter Tryz.func138, Tryz.ntmps138
  go_wp2_with fail
  refine (cutS_any t 32 _ hl).mono ?_
  rintro e w1 ⟨v, rfl, hrow, hb1⟩
  have hne : 0 < (cutL 32 t).length := List.length_pos_iff.2 (cutL_ne 32 t)
  obtain ⟨g, cap, rfl, hg1, hg2, hcell⟩ := strs_at hrow hne
  have hcl := cutL_len 32 t
  have hwd : wordsL t = (cutL 32 t).filter fun p => decide (p ≠ []) := rfl
  obtain ⟨ps, hps⟩ : ∃ ps, cutL 32 t = ps := ⟨_, rfl⟩
  rw [hps] at hne hcell hcl hwd ⊢
  have HW := Lib.hid hwd
  obtain ⟨m, hm⟩ : ∃ m, ps.length = m := ⟨_, rfl⟩
  have HM := Lib.hid hm
  rw [hm] at hne hcell hcl ⊢
  have HC := Lib.hid hcell
  have hown0 := World.ownsRow_lit (base := w1.heap.size) (size := 1) w1 #[] 0 (Nat.le_refl _) (by decide) (by simp) (e := 9)
  have HL := Lib.hid hb1.size
  clear hps hcell hrow hm hwd
  go_wp2
  go_loopg [4, 5] m (fun q v i wr => ∃ k : Nat, k + q = m ∧ i = .int .i64 k ∧ wr.ownsRow w1.heap.size 9 1 v ((ps.take k).filter fun p => decide (p ≠ [])).length (strs ((ps.take k).filter fun p => decide (p ≠ []))) ∧ Below w.heap.size w wr ∧ w1.heap.size ≤ wr.heap.size ∧ (∀ i, i < m → wr.cell? ⟨g, i, none⟩ = some (.string (btx (gd ps i)))))
  case atStart => exact ⟨0, by omega, rfl, hown0, bt hb1 Bl, by simp, fun i hi => cell_keep Bl (HC.out i hi)⟩
  case round =>
    clear hown0 hb1
    obtain ⟨k, hk, rfl, hown, hb, hg3, hce⟩ := hrel
    have HK := Lib.hid hk
    have HCE := Lib.hid hce
    obtain ⟨va, vc, rfl, _⟩ := own_form hown
    clear hk hce
    have hs := hb.size
    by_cases hk8 : k < m
    · have i1 : (k : Int) < (m : Int) := by omega
      have hp := HCE.out k hk8
      have hst := filter_take (p := fun p => decide (p ≠ [])) (show k < ps.length by rw [HM.out]; exact hk8)
      obtain ⟨x, hx⟩ : ∃ x, gd ps k = x := ⟨_, rfl⟩
      rw [hx] at hp hst
      have hfew := filter_few (fun p => decide (p ≠ [])) ps k
      obtain ⟨ds, hds⟩ : ∃ ds, (ps.take k).filter (fun p => decide (p ≠ [])) = ds := ⟨_, rfl⟩
      rw [hds] at hst hfew hown ⊢
      by_cases hx0 : x = []
      · have j1 : ((btx x).toList == (btx []).toList) = true := by rw [btx_leq]; exact decide_eq_true hx0
        rw [hx0, show decide (([] : List UInt8) ≠ []) = false from rfl, if_neg (by decide), List.append_nil] at hst
        have HST := Lib.hid hst
        clear hx0 hst hds hx
        go_wp2
        go_roundg (gk - 1)
        case rel => exact ⟨k + 1, by have := HK.out; omega, by go_num, by rw [HST.out]; exact hown, hb, hg3, HCE.out⟩
        case measure => have := HK.out; omega
      · have j1b : ((btx x).toList == (btx []).toList) = false := by rw [btx_leq]; exact decide_eq_false hx0
        rw [if_pos (decide_eq_true hx0)] at hst
        have HST := Lib.hid hst
        clear hx0 hst hds hx
        go_wp2_with (at_builtin; go_must (refine app_str _ rfl _ _ rfl w1.heap.size _ ds rfl (own_keep hown (below_alloc _ _)) ⟨wr.heap.size, 0, none⟩ x rfl (cell_new1 _ _ _) (by omega) (by simp; omega) ?_); intro v' w2 hown1 hf1)
        have hsz := hf1.size
        rw [World.size_alloc] at hsz
        go_roundg (gk - 1)
        case rel => exact ⟨k + 1, by have := HK.out; omega, by go_num, by rw [HST.out]; exact hown1, below_own (own_mono (own_keep hown (below_alloc _ _)) HL.out) hf1 (hb.trans ((below_alloc _ _).mono hs)) (by simp; omega), by omega, fun i hi => hf1.cell (fun e => absurd (own_lt hown e).1 (Nat.not_le.2 hg2)) (cell_keep (below_alloc _ _) (HCE.out i hi))⟩
        case measure => have := HK.out; omega
    · obtain rfl : k = m := by have := HK.out; omega
      rw [List.take_of_length_le (by rw [HM.out]; exact Nat.le_refl _)] at hown ⊢
      go_wp2
      go_ret
      exact ⟨_, rfl, by rw [HW.out]; exact own_mono hown HL.out, hb⟩
end Go.Proofs.YtgfnoinkajfndaaGreat
