/- Walks: follow: names in the order in which addresses are met. -/
import Derived.Test.YtnhhfbhhglhocaaCanon
import Derived.Test.YtnhhfbhhglhocaaDr3
import Derived.Deep.RegionHeld3
namespace Go.Proofs.Ytnhhfbhhglhocaa
open Go.RowKit

/-- The name of an address in a list. -/
def posO (l : List Int) (v : Int) : Int := if v ∈ l then (l.idxOf v : Int) + 1 else 0
def tabO (l : List Int) : List Int := (List.range 9).map fun (n : Nat) => posO l n
/-- The ten cells of the names: the table, the last name. -/
def cn (l : List Int) : List Int := tabO l ++ [(l.length : Int)]
theorem tabO_len (l : List Int) : (tabO l).length = 9 := by simp [tabO]
theorem cn_len (l : List Int) : (cn l).length = 10 := by simp [cn, tabO]
theorem gi_tabO (l : List Int) {i : Nat} (h : i < 9) : gi (tabO l) i = posO l i := by
  rw [gi_of (by rw [tabO_len]; exact h)]; simp [tabO]
theorem gi_cn (l : List Int) {i : Nat} (h : i < 9) : gi (cn l) i = posO l i := by
  rw [cn, gi_app, if_pos (by rw [tabO_len]; exact h), gi_tabO l h]
theorem gi_cn9 (l : List Int) : gi (cn l) 9 = (l.length : Int) := by
  rw [cn, gi_app, if_neg (by rw [tabO_len]; omega), tabO_len]; simp [gi]
theorem posO_zero {l : List Int} {v : Int} : posO l v = 0 ↔ ¬ v ∈ l := by
  unfold posO
  split
  · rename_i h; simp [h]; omega
  · rename_i h; simp [h]
theorem posO_snoc {l : List Int} {v u : Int} (hn : ¬ v ∈ l) : posO (l ++ [v]) u = if u = v then (l.length : Int) + 1 else posO l u := by
  unfold posO
  by_cases e : u = v
  · subst e
    rw [if_pos rfl, if_pos (by simp), List.idxOf_append, if_neg hn]
    simp
  · rw [if_neg e]
    by_cases hu : u ∈ l
    · rw [if_pos (by simp [hu]), if_pos hu, List.idxOf_append, if_pos hu]
    · rw [if_neg (by simp [hu, e]), if_neg hu]
theorem cn_step {l : List Int} {m : Nat} (h1 : 1 ≤ m) (h8 : m ≤ 8) (hn : ¬ (m : Int) ∈ l) : ((cn l).set 9 ((l.length : Int) + 1)).set m ((l.length : Int) + 1) = cn (l ++ [(m : Int)]) := by
  refine gi_ext (by simp [cn_len]) fun i hi => ?_
  simp only [List.length_set, cn_len] at hi
  rw [gi_set (by simp [cn_len]; omega), gi_set (by rw [cn_len]; omega)]
  by_cases h9 : i = 9
  · subst h9
    rw [if_neg (by omega), if_pos rfl, gi_cn9]; simp
  · rw [gi_cn l (by omega), gi_cn (l ++ [(m : Int)]) (by omega), posO_snoc hn]
    by_cases e : m = i
    · subst e; rw [if_pos rfl, if_pos rfl]
    · rw [if_neg e, if_neg (by omega), if_neg (by omega)]

set_option maxHeartbeats 1600000 in
theorem follow_any (b : Nat) (v1 v2 : Value) (hl l : List Int) (v : Int) (w : World) (h2 : RInts w v2 hl) (hhl : 8 ≤ hl.length) (hg : GoodL l) (hb : w.heap[b]? = some (.cells (iarr (cn l)) 95 (0, 0)))
    (hne : ∀ k, v2.ownBlock = some k → ¬ k = b) :
    Calls Try.prog 66 #[.pointer (some ⟨b, 0, none⟩), .agg #[v1, v2], .int .i64 v] w fun e w' => e = .returned (.tuple #[]) ∧ w'.heap[b]? = some (.cells (iarr (cn (walkL hl l v))) 95 (0, 0)) ∧ Fr (fun j => j = b) w w' := by
  have hbl := box_lt hb
  have h8 := goodL_len hg
  have HB := Lib.hid hb
  have HG := Lib.hid hg
  clear hb hg
  go_enter Try.func66, Try.ntmps66
  go_wp2
  go_loopg [2] (9 - l.length) (fun q u wr => ∃ (m : List Int) (x : Int), u = .int .i64 x ∧ m.length + q = 9 ∧ GoodL m ∧ walkL hl m x = walkL hl l v ∧ wr.heap[b]? = some (.cells (iarr (cn m)) 95 (0, 0)) ∧ Fr (fun j => j = b) w wr ∧ wr.cell? ⟨w.heap.size, 0, none⟩ = some v1 ∧ wr.cell? ⟨w.heap.size, 1, none⟩ = some v2)
  case atStart => exact ⟨l, v, rfl, by omega, HG.out, rfl, box_keep HB.out (below_alloc _ _), (Below.fr (below_alloc _ _)).mono fun _ _ h => h.elim, by simp, by simp⟩
  case round =>
    obtain ⟨m, x, rfl, hq, hgm, hwk, hrow, hf, hc0, hc1⟩ := hrel
    have HQ := Lib.hid hq
    have HM := Lib.hid (And.intro hgm hwk)
    have HR := Lib.hid hrow
    have hm8 := goodL_len hgm
    have hrz := box_lt hrow
    have hsz := hf.size
    clear hq hgm hwk hrow
    by_cases ha : isAddrB x = true
    · have hx := isAddrB_iff.1 ha
      obtain ⟨n, rfl⟩ := Int.eq_ofNat_of_zero_le (show 0 ≤ x by omega)
      have hn8 : n ≤ 8 := by omega
      have hni : (n : Int) < 9 := by omega
      have hcn := iarr_at HR.out n (by rw [cn_len]; omega)
      have hc9 := iarr_at HR.out 9 (by rw [cn_len]; omega)
      rw [gi_cn _ (by omega)] at hcn
      rw [gi_cn9] at hc9
      have hfz := fun i => frozen_of_row wr b i _ _ HR.out
      by_cases hin : (n : Int) ∈ m
      · have hp : (posO m n == 0) = false := by rw [beq_eq_false_iff_ne]; exact fun e => posO_zero.1 e hin
        have hw : walkL hl m n = m := walkL_no (by simp [hin])
        have HW := Lib.hid (HM.out.2.symm.trans hw)
        clear hin hw
        go_wp2_with ((go_at_call 126; go_must (((with_reducible refine (isAddr_any _ _).mono ?_); rintro e w' ⟨rfl, rfl⟩))))
        go_end0
        exact ⟨rfl, by rw [HW.out]; exact HR.out, hf⟩
      · have hp0 : posO m n = 0 := posO_zero.2 hin
        rw [hp0] at hcn
        have hw : walkL hl m n = walkL hl (m ++ [(n : Int)]) (ct hl n) := walkL_yes HM.out.1 ha hin
        have hst := cn_step (l := m) (by omega) hn8 hin
        have HW := Lib.hid (And.intro (hw.symm.trans HM.out.2) (And.intro hst (goodL_snoc HM.out.1 ha hin)))
        have hne9 : ¬ (9 : Nat) = n := by omega
        have hwl : w.heap.size < wr.heap.size := World.block_lt_of_cell? wr _ hc0
        have hbne : ¬ b = w.heap.size := by omega
        clear hin hp0 hw hst
        go_wp2_with ((go_at_call 126; go_must (((with_reducible refine (isAddr_any _ _).mono ?_); rintro e w' ⟨rfl, rfl⟩))))
        have hrow1 := iarr_set HR.out 9 ((m.length : Int) + 1)
        have hf1 : Fr (fun j => j = b) w (wr.setCell ⟨b, 9, none⟩ (.int .i64 ((m.length : Int) + 1))) := hf.then (fr_set _ _ _) (fun i _ e => by simpa using e)
        have hd0 := (fr_set wr ⟨b, 9, none⟩ (.int .i64 ((m.length : Int) + 1))).cell (by simp; omega) hc0
        have hd1 := (fr_set wr ⟨b, 9, none⟩ (.int .i64 ((m.length : Int) + 1))).cell (by simp; omega) hc1
        generalize wr.setCell ⟨b, 9, none⟩ (.int .i64 ((m.length : Int) + 1)) = W at *
        have hk9 := iarr_at hrow1 9 (by simp [cn_len])
        have hkn := iarr_at hrow1 n (by simp [cn_len]; omega)
        rw [gi_set (by rw [cn_len]; omega), if_pos rfl] at hk9
        have hfw := fun i => frozen_of_row W b i _ _ hrow1
        have HR1 := Lib.hid hrow1
        have HF1 := Lib.hid hf1
        have hwl1 : w.heap.size < W.heap.size := World.block_lt_of_cell? W _ hd0
        clear hrow1 hf1 hcn hc9 hfz hc0 hc1 hf
        go_region_held3 (fun w' => w'.cell? ⟨b, 9, none⟩ = some (.int .i64 ((m.length : Int) + 1)))
          (first | exact hk9 | (rw [World.cell?_setCell_other _ _ _ _ (fun e => by injection e; omega)]; exact hk9) | (rw [World.cell?_drew, World.cell?_setCell_other _ _ _ _ (fun e => by injection e; omega)]; exact hk9))
          (fail)
        all_goals
          have hrow2 := iarr_set HR1.out n ((m.length : Int) + 1)
          have HF2 := Lib.hid (HF1.out.then (fr_set W ⟨b, n, none⟩ (.int .i64 ((m.length : Int) + 1))) (fun i _ e => by simpa using e))
          have he0 := (fr_set W ⟨b, n, none⟩ (.int .i64 ((m.length : Int) + 1))).cell (by simp; omega) hd0
          have he1 := (fr_set W ⟨b, n, none⟩ (.int .i64 ((m.length : Int) + 1))).cell (by simp; omega) hd1
          rw [HW.out.2.1] at hrow2
          have HR2 := Lib.hid hrow2
          clear hrow2
          generalize W.setCell ⟨b, n, none⟩ (.int .i64 ((m.length : Int) + 1)) = W2 at *
          go_wp2_with fail
          refine (content_any _ _ hl n _ (by first | exact h2.kept HF2.out hne | exact (h2.kept HF2.out hne).keep (below_drew _)) (by omega)).mono ?_
          rintro e w5 ⟨rfl, hb5⟩
          have hb5' : Below W2.heap.size W2 w5 := by first | exact hb5 | exact bt (below_drew _) hb5
          go_wp2
          go_roundg (gk - 1)
          case rel => exact ⟨m ++ [(n : Int)], ct hl n, rfl, by have := HQ.out; simp; omega, HW.out.2.2, HW.out.1, box_keep HR2.out hb5', HF2.out.thenB hb5', cell_keep hb5' he0, cell_keep hb5' he1⟩
          case measure => have := HQ.out; omega
    · have ha' : isAddrB x = false := by simpa using ha
      have hw : walkL hl m x = m := walkL_no (by simp [ha'])
      have HW := Lib.hid (HM.out.2.symm.trans hw)
      clear hw ha
      go_wp2_with ((go_at_call 126; go_must (((with_reducible refine (isAddr_any _ _).mono ?_); rintro e w' ⟨rfl, rfl⟩))))
      go_end0
      exact ⟨rfl, by rw [HW.out]; exact HR.out, hf⟩
end Go.Proofs.Ytnhhfbhhglhocaa
