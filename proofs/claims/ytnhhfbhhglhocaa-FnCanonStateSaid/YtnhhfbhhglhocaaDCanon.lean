/- The walk of the law FnCanonState. -/
import Derived.Test.YtnhhfbhhglhocaaCan4
import Derived.Test.YtnhhfbhhglhocaaSh2
import Derived.Test.YtnhhfbhhglhocaaDr7
import Derived.Test.YtnhhfbhhglhocaaCan3
import Derived.Deep.RegionHeld3
import Derived.Test.YtnhhfbhhglhocaaPerm3
import Derived.Test.YtnhhfbhhglhocaaSame
import Derived.Test.YtnhhfbhhglhocaaW9
namespace Go.Proofs.Ytnhhfbhhglhocaa
open Go.RowKit

theorem stateSame_eqC (v1 v2 u1 u2 : Value) (l1 l2 m1 m2 : List Int) (b : Bool) (w : World) (h1 : RInts w v1 l1) (h2 : RInts w v2 l2) (k1 : RInts w u1 m1) (k2 : RInts w u2 m2) (hb : (decide (l1 = m1) && decide (l2 = m2)) = b) :
    Calls Try.prog 26 #[.agg #[v1, v2], .agg #[u1, u2]] w fun e w' => e = .returned (.bool b) ∧ Below w.heap.size w w' := by
  rw [← hb]; exact stateSame_any v1 v2 u1 u2 l1 l2 m1 m2 w h1 h2 k1 k2

set_option maxHeartbeats 3200000 in
theorem fnCanonState_walk (v : Value) (n : Nat) (w : World) (h : RBytes w v n) :
    Calls Try.prog 5 #[v] w fun e w' => e = .returned (.bool true) ∧ Below w.heap.size w w' := by
  obtain ⟨a, cap, rfl⟩ := bytes_form h
  by_cases hn : n ≤ 1048576
  rotate_left
  · go_enter Try.func5, Try.ntmps5
    go_wp2
    go_ret
    exact ⟨rfl, Below.refl _ _⟩
  go_enter Try.func5, Try.ntmps5
  go_wp2_with fail
  refine (specDrawCanonState_any _ n _ h).mono ?_
  rintro e w1 ⟨u1, u2, l1, l2, rfl, hl1, hl2, hst, hW⟩
  obtain ⟨a1, c1, rfl, _⟩ := own_form hst.one
  obtain ⟨a2, c2, rfl, _⟩ := own_form hst.two
  have r1 := (own_ints hst.one).1
  have r2 := (own_ints hst.two).1
  clear hst
  obtain ⟨ok, hok⟩ : ∃ ok, ok = validB l1 l2 := ⟨_, rfl⟩
  obtain ⟨X1, hX1⟩ : ∃ X, X = canV l1 l2 := ⟨_, rfl⟩
  obtain ⟨X2, hX2⟩ : ∃ X, X = canH l1 l2 := ⟨_, rfl⟩
  have HX := Lib.hid (And.intro hok (And.intro hX1 hX2))
  have hbn : (ok != ok) = false := by cases ok <;> rfl
  have hbe : (ok == ok) = true := by cases ok <;> rfl
  clear hok hX1 hX2
  go_wp2_with fail
  refine (canonStateI_any _ _ l1 l2 _ (r1.alloc _) (r2.alloc _)).mono ?_
  rintro e w2 ⟨x1, x2, rfl, hx, hb⟩
  rw [← HX.out.2.1, ← HX.out.2.2] at hx
  rw [← HX.out.1]
  obtain ⟨xa1, xc1, rfl, _⟩ := own_form hx.one
  obtain ⟨xa2, xc2, rfl, _⟩ := own_form hx.two
  have hc0 := cell_keep hb (p := ⟨w1.heap.size, 0, none⟩) (v := .slice a1 l1.length c1) (by simp)
  have hc1 := cell_keep hb (p := ⟨w1.heap.size, 1, none⟩) (v := .slice a2 l2.length c2) (by simp)
  have q1 := (own_ints hx.one).1
  have q2 := (own_ints hx.two).1
  replace hb := bt (below_alloc w1 _) hb
  replace hW := bt hW hb; replace r1 := r1.keep hb; replace r2 := r2.keep hb; clear hb
  clear hx
  have hz2 : w1.heap.size < w2.heap.size := World.block_lt_of_cell? w2 _ hc0
  go_wp2_with fail
  refine (canonStateS_any _ _ l1 l2 _ (r1.alloc _) (r2.alloc _)).mono ?_
  rintro e w3 ⟨y1, y2, rfl, hy, hb⟩
  rw [← HX.out.2.1, ← HX.out.2.2] at hy
  rw [← HX.out.1]
  obtain ⟨ya1, yc1, rfl, _⟩ := own_form hy.one
  obtain ⟨ya2, yc2, rfl, _⟩ := own_form hy.two
  have hx0 := cell_keep hb (p := ⟨w2.heap.size, 0, none⟩) (v := .slice xa1 X1.length xc1) (by simp)
  have hx1 := cell_keep hb (p := ⟨w2.heap.size, 1, none⟩) (v := .slice xa2 X2.length xc2) (by simp)
  have p1 := (own_ints hy.one).1
  have p2 := (own_ints hy.two).1
  replace hb := bt (below_alloc w2 _) hb
  replace hc0 := cell_keep hb hc0; replace hc1 := cell_keep hb hc1; replace hW := bt hW hb; replace r1 := r1.keep hb; replace r2 := r2.keep hb; replace q1 := q1.keep hb; replace q2 := q2.keep hb; clear hb
  clear hy
  have hz3 : w1.heap.size < w3.heap.size := World.block_lt_of_cell? w3 _ hc0
  have hz4 : w2.heap.size < w3.heap.size := World.block_lt_of_cell? w3 _ hx0
  go_wp2_with fail
  refine (stateSame_eqC _ _ _ _ X1 X2 X1 X2 true _ (q1.alloc _) (q2.alloc _) (p1.alloc _) (p2.alloc _) (by simp)).mono ?_
  rintro e w4 ⟨rfl, hb⟩
  have hy0 := cell_keep hb (p := ⟨w3.heap.size, 0, none⟩) (v := .slice ya1 X1.length yc1) (by simp)
  have hy1 := cell_keep hb (p := ⟨w3.heap.size, 1, none⟩) (v := .slice ya2 X2.length yc2) (by simp)
  replace hb := bt (below_alloc w3 _) hb
  replace hc0 := cell_keep hb hc0; replace hc1 := cell_keep hb hc1; replace hx0 := cell_keep hb hx0; replace hx1 := cell_keep hb hx1; replace hW := bt hW hb; replace r1 := r1.keep hb; replace r2 := r2.keep hb; replace q1 := q1.keep hb; replace q2 := q2.keep hb; replace p1 := p1.keep hb; replace p2 := p2.keep hb; clear hb
  by_cases hokt : ok = true
  rotate_left
  · obtain rfl : ok = false := by simpa using hokt
    clear hokt
    go_wp2_with fail
    refine (stateSame_eqC _ _ _ _ X1 X2 X1 X2 true _ q1 q2 p1 p2 (by simp)).mono ?_
    rintro e w5 ⟨rfl, hb⟩
    go_wp2
    go_ret
    exact ⟨rfl, bt hW hb⟩
  subst hokt
  have hv : validB l1 l2 = true := HX.out.1.symm
  have hcv := can_valid hv
  have hcc := can_can hv
  have hsc := shape_can hv
  rw [← HX.out.2.1, ← HX.out.2.2] at hcv hcc hsc
  have HC := Lib.hid (And.intro hcv (And.intro hcc.1 (And.intro hcc.2 hsc)))
  clear hv hcv hcc hsc p1 p2 hy0 hy1
  have hz5 : w1.heap.size < w4.heap.size := World.block_lt_of_cell? w4 _ hc0
  have hz6 : w2.heap.size < w4.heap.size := World.block_lt_of_cell? w4 _ hx0
  go_wp2_with fail
  refine (canonStateI_any _ _ X1 X2 _ q1 q2).mono ?_
  rintro e w5 ⟨t1, t2, rfl, ht, hb⟩
  rw [HC.out.2.1, HC.out.2.2.1] at ht
  rw [HC.out.1]
  obtain ⟨ta1, tc1, rfl, _⟩ := own_form ht.one
  obtain ⟨ta2, tc2, rfl, _⟩ := own_form ht.two
  have t1 := (own_ints ht.one).1
  have t2 := (own_ints ht.two).1
  replace hc0 := cell_keep hb hc0; replace hc1 := cell_keep hb hc1; replace hx0 := cell_keep hb hx0; replace hx1 := cell_keep hb hx1; replace hW := bt hW hb; replace r1 := r1.keep hb; replace r2 := r2.keep hb; replace q1 := q1.keep hb; replace q2 := q2.keep hb; clear hb
  clear ht
  have hz7 : w1.heap.size < w5.heap.size := World.block_lt_of_cell? w5 _ hc0
  have hz8 : w2.heap.size < w5.heap.size := World.block_lt_of_cell? w5 _ hx0
  go_wp2_with fail
  refine (stateValid_any _ _ X1 X2 _ (q1.alloc _) (q2.alloc _)).mono ?_
  rw [HC.out.1]
  rintro e w6 ⟨rfl, hb⟩
  have ht0 := cell_keep hb (p := ⟨w5.heap.size, 0, none⟩) (v := .slice ta1 X1.length tc1) (by simp)
  have ht1 := cell_keep hb (p := ⟨w5.heap.size, 1, none⟩) (v := .slice ta2 X2.length tc2) (by simp)
  replace hb := bt (below_alloc w5 _) hb
  replace hc0 := cell_keep hb hc0; replace hc1 := cell_keep hb hc1; replace hx0 := cell_keep hb hx0; replace hx1 := cell_keep hb hx1; replace hW := bt hW hb; replace r1 := r1.keep hb; replace r2 := r2.keep hb; replace q1 := q1.keep hb; replace q2 := q2.keep hb; replace t1 := t1.keep hb; replace t2 := t2.keep hb; clear hb
  go_wp2_with fail
  refine (sameShapeI_any _ _ _ _ l1 l2 X1 X2 _ r1 r2 q1 q2).mono ?_
  rw [HC.out.2.2.2]
  rintro e w7 ⟨rfl, hb⟩
  replace hx0 := cell_keep hb hx0; replace hx1 := cell_keep hb hx1; replace ht0 := cell_keep hb ht0; replace ht1 := cell_keep hb ht1; replace hW := bt hW hb; replace q1 := q1.keep hb; replace q2 := q2.keep hb; replace t1 := t1.keep hb; replace t2 := t2.keep hb; clear hb
  go_wp2_with fail
  refine (stateSame_eqC _ _ _ _ X1 X2 X1 X2 true _ t1 t2 q1 q2 (by simp)).mono ?_
  rintro e w8 ⟨rfl, hb⟩
  go_wp2
  go_ret
  exact ⟨rfl, bt hW hb⟩
end Go.Proofs.Ytnhhfbhhglhocaa
