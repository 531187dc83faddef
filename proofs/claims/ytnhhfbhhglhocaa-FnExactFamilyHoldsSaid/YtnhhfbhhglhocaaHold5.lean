/- Walks: the cells that an atom describes: the reference. -/
import Derived.Test.YtnhhfbhhglhocaaHold4
namespace Go.Proofs.Ytnhhfbhhglhocaa
open Go.RowKit

set_option maxRecDepth 100000 in
set_option maxHeartbeats 3200000 in
theorem l4Cells_any (vs hv : Value) (vl hs : List Int) (x : Atom) (w : World) (h1 : RInts w vs vl) (h2 : RInts w hv hs) (hvd : validB vl hs = true) (hx : atomB x = true) :
    Calls Try.prog 167 #[.agg #[vs, hv], .agg #[.int .i64 x.1, .int .i64 x.2.1, .int .i64 x.2.2]] w fun e w' => ∃ v, e = .returned (.tuple #[v, .bool (cellsB vl hs x)]) ∧ w'.ownsRow w.heap.size 3 1 v (cellsL vl hs x).length (ints (cellsL vl hs x)) ∧ Below w.heap.size w w' := by
  obtain ⟨va1, vc1, rfl⟩ := h1.form
  obtain ⟨va2, vc2, rfl⟩ := h2.form
  obtain ⟨x1, x2, x3⟩ := x
  simp only at *
  have hlen := valid_len hvd
  obtain ⟨t1, t2, t3, t4⟩ := atomB_le hx
  simp only at t1 t2 t3 t4
  obtain ⟨A, hA⟩ : ∃ A, tv vl x2 = A := ⟨_, rfl⟩
  obtain ⟨B, hB⟩ : ∃ B, tv vl x3 = B := ⟨_, rfl⟩
  have ht1 : isTermB A = true := by rw [← hA]; exact tv_term hvd t1 t2
  have ht2 : isTermB B = true := by rw [← hB]; exact tv_term hvd t3 t4
  have HLEN := Lib.hid hlen
  have HV := Lib.hid hvd
  have HA := Lib.hid hA
  have HB := Lib.hid hB
  have HT := Lib.hid (And.intro ht1 ht2)
  clear hlen hvd hx hA hB ht1 ht2
  have q1 := (h1.alloc (.cells #[.slice va1 vl.length vc1, .slice va2 hs.length vc2] 34)).alloc (.cells #[.int .i64 x1, .int .i64 x2, .int .i64 x3] 134)
  have q2 := (h2.alloc (.cells #[.slice va1 vl.length vc1, .slice va2 hs.length vc2] 34)).alloc (.cells #[.int .i64 x1, .int .i64 x2, .int .i64 x3] 134)
  have hb0 : Below w.heap.size w ((w.alloc (.cells #[.slice va1 vl.length vc1, .slice va2 hs.length vc2] 34)).alloc (.cells #[.int .i64 x1, .int .i64 x2, .int .i64 x3] 134)) := ba (below_alloc w _) _
  by_cases hk : x1 = 2
  · have hkb : (x1 == 2) = true := by simp [hk]
    have HR := Lib.hid (show cellsB vl hs (x1, x2, x3) = wayB hs A B ∧ cellsL vl hs (x1, x2, x3) = wayL hs A B by simp [cellsB, cellsL, hk, HA.out, HB.out])
    clear hk
    go_enter Try.func167, Try.ntmps167
    go_wp2_with (go_at_call 171; first
      | (with_reducible refine (cbI (l1Value_any _ vl x2 _ q1 (by omega) (by rw [HLEN.out.1]; omega)) HA.out).mono ?_; rintro e w' ⟨rfl, rfl⟩)
      | (with_reducible refine (cbI (l1Value_any _ vl x3 _ q1 (by omega) (by rw [HLEN.out.1]; omega)) HB.out).mono ?_; rintro e w' ⟨rfl, rfl⟩))
    refine (walkS_any _ _ vl hs _ _ _ q2 HV.out).mono ?_
    rintro e w4 ⟨v, rfl, hown, hb⟩
    go_wp2
    refine bodyPost_ret (v := .tuple #[v, .bool (wayB hs A B)]) (by simp [results, Try.results167, go_sem]) rfl ?_
    exact ⟨_, by rw [HR.out.1], by rw [HR.out.2]; exact own_mono hown hb0.size, bt hb0 hb⟩
  · have hkb : (x1 == 2) = false := by simp [hk]
    have HK := Lib.hid hk
    clear hk
    cases ha : alB hs A
    · have hne : ¬ ct hs A = B := fun h => by
        have h1 := ha
        simp only [alB, decide_eq_false_iff_not] at h1
        have := isTermB_iff.1 HT.out.2
        omega
      have HR := Lib.hid (show cellsB vl hs (x1, x2, x3) = false ∧ cellsL vl hs (x1, x2, x3) = [] by simp [cellsB, cellsL, HK.out, HA.out, HB.out, hne])
      have HAL := Lib.hid ha
      clear ha hne
      go_enter Try.func167, Try.ntmps167
      go_wp2_with (go_at_call 171; first
        | (with_reducible refine (cbI (l1Value_any _ vl x2 _ q1 (by omega) (by rw [HLEN.out.1]; omega)) HA.out).mono ?_; rintro e w' ⟨rfl, rfl⟩)
        | (with_reducible refine (cbI (l1Value_any _ vl x3 _ q1 (by omega) (by rw [HLEN.out.1]; omega)) HB.out).mono ?_; rintro e w' ⟨rfl, rfl⟩))
      refine (cb (l2Has_any _ _ hs A _ q2 (by rw [HLEN.out.2]; omega)) HAL.out).mono ?_
      rintro e w4 ⟨rfl, hb⟩
      go_wp2
      refine bodyPost_ret (v := .tuple #[.slice (some ⟨w4.heap.size, 0, none⟩) 0 0, .bool false]) (by simp [results, Try.results167, go_sem]) rfl ?_
      exact ⟨_, by rw [HR.out.1], by rw [HR.out.2]; exact own_empty _ _ _ (bt hb0 hb).size, bt (bt hb0 hb) (below_alloc _ _)⟩
    · obtain ⟨n, hn⟩ : ∃ n : Nat, A = (n : Int) + 1 := ⟨(A - 1).toNat, by have := al_addr ha; omega⟩
      have hn8 : n < 8 := by have := al_addr ha; omega
      subst hn
      obtain ⟨E, hE⟩ : ∃ E, gi hs n = E := ⟨_, rfl⟩
      have hct := ct_at (hs := hs) hn8
      have HE := Lib.hid (And.intro hE (hct.trans hE))
      have HAL := Lib.hid ha
      have hki : (n : Int) < (hs.length : Int) := by rw [HLEN.out.2]; omega
      have hwr : IntKind.i64.wrap (n : Int) = (n : Int) := IntWalk.i64_in _ (by omega)
      clear ha hE hct
      obtain ⟨vb, vo, vcap, hfe, _, _, hcell⟩ := q2.ne (by rw [HLEN.out.2]; omega)
      simp only [Value.slice.injEq] at hfe
      obtain ⟨rfl, hh, rfl⟩ := hfe
      clear hh
      have hck := hcell n (by rw [HLEN.out.2]; omega)
      rw [HE.out.1] at hck
      clear hcell
      by_cases hq : E = B
      all_goals
        first
          | (have hqb : (E != B) = false := by simp [hq]
             have HR := Lib.hid (show cellsB vl hs (x1, x2, x3) = true ∧ cellsL vl hs (x1, x2, x3) = [(n : Int) + 1] by simp [cellsB, cellsL, HK.out, HA.out, HB.out, HE.out.2, hq]))
          | (have hqb : (E != B) = true := by simp [hq]
             have HR := Lib.hid (show cellsB vl hs (x1, x2, x3) = false ∧ cellsL vl hs (x1, x2, x3) = [] by simp [cellsB, cellsL, HK.out, HA.out, HB.out, HE.out.2, hq]))
        clear hq
        go_enter Try.func167, Try.ntmps167
        go_wp2_with (go_at_call 171; first
          | (with_reducible refine (cbI (l1Value_any _ vl x2 _ q1 (by omega) (by rw [HLEN.out.1]; omega)) HA.out).mono ?_; rintro e w' ⟨rfl, rfl⟩)
          | (with_reducible refine (cbI (l1Value_any _ vl x3 _ q1 (by omega) (by rw [HLEN.out.1]; omega)) HB.out).mono ?_; rintro e w' ⟨rfl, rfl⟩))
        refine (cb (l2Has_any _ _ hs _ _ q2 (by rw [HLEN.out.2]; omega)) HAL.out).mono ?_
        rintro e w4 ⟨rfl, hb⟩
        have hc0 := cell_keep hb (p := ⟨w.heap.size, 0, none⟩) (v := .slice va1 vl.length vc1) (by simp [go_sem])
        have hc1 := cell_keep hb (p := ⟨w.heap.size, 1, none⟩) (v := .slice (some ⟨vb, vo, none⟩) hs.length vc2) (by simp [go_sem])
        replace hck := cell_keep hb hck
        go_wp2
        first
          | (refine bodyPost_ret (v := .tuple #[.slice (some ⟨w4.heap.size, 0, none⟩) 1 1, .bool true]) (by simp [results, Try.results167, go_sem]) rfl ?_
             exact ⟨_, by rw [HR.out.1], by rw [HR.out.2]; exact own_one _ _ _ (bt hb0 hb).size, bt (bt hb0 hb) (below_alloc _ _)⟩)
          | (refine bodyPost_ret (v := .tuple #[.slice (some ⟨w4.heap.size, 0, none⟩) 0 0, .bool false]) (by simp [results, Try.results167, go_sem]) rfl ?_
             exact ⟨_, by rw [HR.out.1], by rw [HR.out.2]; exact own_empty _ _ _ (bt hb0 hb).size, bt (bt hb0 hb) (below_alloc _ _)⟩)
end Go.Proofs.Ytnhhfbhhglhocaa
