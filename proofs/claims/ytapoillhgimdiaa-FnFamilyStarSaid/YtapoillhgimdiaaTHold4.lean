/- Walks: the cells that an atom describes. -/
import Derived.Test.YtapoillhgimdiaaTInv
import Derived.Test.YtapoillhgimdiaaTDraw1
namespace Go.Proofs.Ytapoillhgimdiaa
open Go.RowKit

theorem own_one (w : World) (x : Int) (B : Nat) (hB : B ≤ w.heap.size) : (w.alloc (.cells #[.int .i64 x] 3)).ownsRow B 3 1 (.slice (some ⟨w.heap.size, 0, none⟩) 1 1) 1 (ints [x]) := by
  have := World.ownsRow_lit (size := 1) w #[.int .i64 x] 1 (Nat.le_refl _) (by unfold maxLen; omega) (by simp) (e := 3)
  exact own_mono (by simpa using this) hB
theorem tv_term {vl hl : List Int} {t : Int} (hv : validB vl hl = true) (h0 : 0 ≤ t) (h8 : t ≤ 8) : isTermB (tv vl t) = true := by
  have ha : ∀ x ∈ vl, isTermB x = true := by
    simp only [validB, Bool.and_eq_true, List.all_eq_true] at hv; exact hv.2.2.1
  rw [tv]
  split
  · rfl
  · have hl := (valid_len hv).1
    have hi : (t - 1).toNat < vl.length := by omega
    rw [gi_of hi]; exact ha _ (List.getElem_mem hi)
theorem atomB_le {x : Atom} (h : atomB x = true) : 0 ≤ x.2.1 ∧ x.2.1 ≤ 8 ∧ 0 ≤ x.2.2 ∧ x.2.2 ≤ 8 := by
  simp [atomB, isTermB] at h; omega
/-- An atom describes cells of a state. -/
def cellsB (vl hl : List Int) (x : Atom) : Bool := if x.1 = 2 then wayB hl (tv vl x.2.1) (tv vl x.2.2) else (ct hl (tv vl x.2.1) == tv vl x.2.2)
def cellsL (vl hl : List Int) (x : Atom) : List Int := if x.1 = 2 then wayL hl (tv vl x.2.1) (tv vl x.2.2) else if (ct hl (tv vl x.2.1) == tv vl x.2.2) = true then [tv vl x.2.1] else []
set_option maxRecDepth 100000 in
set_option maxHeartbeats 3200000 in
theorem atomCells_any (vs hv : Value) (vl hs : List Int) (x : Atom) (w : World) (h1 : RInts w vs vl) (h2 : RInts w hv hs) (hvd : validB vl hs = true) (hx : atomB x = true) :
    Calls Try.prog 213 #[.agg #[vs, hv], .agg #[.int .i64 x.1, .int .i64 x.2.1, .int .i64 x.2.2]] w fun e w' => ∃ v, e = .returned (.tuple #[v, .bool (cellsB vl hs x)]) ∧ w'.ownsRow w.heap.size 3 1 v (cellsL vl hs x).length (ints (cellsL vl hs x)) ∧ Below w.heap.size w w' := by
  obtain ⟨va1, vc1, rfl⟩ := h1.form
  obtain ⟨va2, vc2, rfl⟩ := h2.form
  obtain ⟨x1, x2, x3⟩ := x
  simp only at *
  have hlen := valid_len hvd
  obtain ⟨t1, t2, t3, t4⟩ := atomB_le hx
  simp only at t1 t2 t3 t4
  obtain ⟨A, hA⟩ : ∃ A, tv vl x2 = A := ⟨_, rfl⟩
  obtain ⟨B, hB⟩ : ∃ B, tv vl x3 = B := ⟨_, rfl⟩
  have ht1 : isTermB A = true := by rw [← hA]; exact tv_term hvd t1 t2
  have ht2 : isTermB B = true := by rw [← hB]; exact tv_term hvd t3 t4
  have HLEN := Lib.hid hlen
  have HV := Lib.hid (And.intro hvd hx)
  have HA := Lib.hid hA
  have HB := Lib.hid hB
  have HT := Lib.hid (And.intro ht1 ht2)
  clear hlen hvd hx hA hB ht1 ht2
  go_enter Try.func213, Try.ntmps213
  go_wp2_with fail
  refine (cb (stateValid_any _ _ vl hs _ ((h1.alloc _).alloc _) ((h2.alloc _).alloc _)) HV.out.1).mono ?_
  rintro e w1 ⟨rfl, hb1⟩
  have hc0 := cell_keep hb1 (p := ⟨w.heap.size, 0, none⟩) (v := .slice va1 vl.length vc1) (by simp [go_sem])
  have hc1 := cell_keep hb1 (p := ⟨w.heap.size, 1, none⟩) (v := .slice va2 hs.length vc2) (by simp [go_sem])
  have hd0 := cell_keep hb1 (p := ⟨w.heap.size + 1, 0, none⟩) (v := .int .i64 x1) (by simp [go_sem])
  have hd1 := cell_keep hb1 (p := ⟨w.heap.size + 1, 1, none⟩) (v := .int .i64 x2) (by simp [go_sem])
  have hd2 := cell_keep hb1 (p := ⟨w.heap.size + 1, 2, none⟩) (v := .int .i64 x3) (by simp [go_sem])
  have hb01 := bt (ba (below_alloc w _) _) hb1
  have hz : w.heap.size + 1 < w1.heap.size := World.block_lt_of_cell? w1 _ hd0
  clear hb1
  go_wp2_with fail
  refine (cb (atomValidI_any (x1, x2, x3) _) HV.out.2).mono ?_
  rintro e w2 ⟨rfl, hb2⟩
  replace hc0 := cell_keep hb2 hc0; replace hc1 := cell_keep hb2 hc1; replace hd0 := cell_keep hb2 hd0; replace hd1 := cell_keep hb2 hd1; replace hd2 := cell_keep hb2 hd2; replace hb01 := bt hb01 hb2; clear hb2
  replace hz : w.heap.size + 1 < w2.heap.size := World.block_lt_of_cell? w2 _ hd0
  have hy : w.heap.size < w2.heap.size := World.block_lt_of_cell? w2 _ hc0
  have q1 := h1.keep hb01
  have q2 := h2.keep hb01
  go_wp2
  refine wp_region_ext (by kernel_rfl) (by kernel_rfl) ?_
  repeat (go_big_quiet_step ((go_at_call 218; first
    | with_reducible exact ext_same (cbI (termValue_any (.slice va1 vl.length vc1) vl x2 _ (q1.ext _) (by omega) (by rw [HLEN.out.1]; omega)) HA.out)
    | with_reducible exact ext_same (cbI (termValue_any (.slice va1 vl.length vc1) vl x3 _ (q1.ext _) (by omega) (by rw [HLEN.out.1]; omega)) HB.out))))
  refine wpQuiet_nil ?_
  intro w3 hb3
  replace hc0 := cell_keep hb3 hc0; replace hc1 := cell_keep hb3 hc1; replace hd0 := cell_keep hb3 hd0; replace hd1 := cell_keep hb3 hd1; replace hd2 := cell_keep hb3 hd2; replace hb01 := bt hb01 hb3; replace q1 := q1.keep hb3; replace q2 := q2.keep hb3; clear hb3
  replace hz : w.heap.size + 1 < w3.heap.size := World.block_lt_of_cell? w3 _ hd0
  replace hy : w.heap.size < w3.heap.size := World.block_lt_of_cell? w3 _ hc0
  by_cases hk : x1 = 2
  · have hkb : (x1 == 2) = true := by simp [hk]
    have HR := Lib.hid (show cellsB vl hs (x1, x2, x3) = wayB hs A B ∧ cellsL vl hs (x1, x2, x3) = wayL hs A B by simp [cellsB, cellsL, hk, HA.out, HB.out])
    clear hk
    go_wp2_with fail
    refine (walkI_any _ _ vl hs _ _ _ q1 q2 HV.out.1 HT.out.1 HT.out.2).mono ?_
    rintro e w4 ⟨v, rfl, hown, hb⟩
    go_wp2
    refine bodyPost_ret (v := .tuple #[v, .bool (wayB hs A B)]) (by simp [results, Try.results213, go_sem]) rfl ?_
    exact ⟨_, by rw [HR.out.1], by rw [HR.out.2]; exact own_mono hown hb01.size, bt hb01 hb⟩
  · have hkb : (x1 == 2) = false := by simp [hk]
    obtain ⟨E, hE⟩ : ∃ E, ct hs A = E := ⟨_, rfl⟩
    have HE := Lib.hid hE
    clear hE
    have HK := Lib.hid hk
    clear hk
    by_cases hq : E = B
    · have hqb : (E != B) = false := by simp [hq]
      have HR := Lib.hid (show cellsB vl hs (x1, x2, x3) = true ∧ cellsL vl hs (x1, x2, x3) = [A] by simp [cellsB, cellsL, HK.out, HA.out, HB.out, HE.out, hq])
      clear hq
      go_wp2_with fail
      refine (cbI (content_any _ _ hs A _ q2 (by rw [HLEN.out.2]; omega)) HE.out).mono ?_
      rintro e w4 ⟨rfl, hb⟩
      go_wp2
      refine bodyPost_ret (v := .tuple #[.slice (some ⟨w4.heap.size, 0, none⟩) 1 1, .bool true]) (by simp [results, Try.results213, go_sem]) rfl ?_
      exact ⟨_, by rw [HR.out.1], by rw [HR.out.2]; exact own_one _ _ _ (bt hb01 hb).size, bt (bt hb01 hb) (below_alloc _ _)⟩
    · have hqb : (E != B) = true := by simp [hq]
      have HR := Lib.hid (show cellsB vl hs (x1, x2, x3) = false ∧ cellsL vl hs (x1, x2, x3) = [] by simp [cellsB, cellsL, HK.out, HA.out, HB.out, HE.out, hq])
      clear hq
      go_wp2_with fail
      refine (cbI (content_any _ _ hs A _ q2 (by rw [HLEN.out.2]; omega)) HE.out).mono ?_
      rintro e w4 ⟨rfl, hb⟩
      go_wp2
      refine bodyPost_ret (v := .tuple #[.slice none 0 0, .bool false]) (by simp [results, Try.results213, go_sem]) rfl ?_
      exact ⟨_, by rw [HR.out.1], by rw [HR.out.2]; exact World.ownsRow_nil _ _ _ _, bt hb01 hb⟩
end Go.Proofs.Ytapoillhgimdiaa
