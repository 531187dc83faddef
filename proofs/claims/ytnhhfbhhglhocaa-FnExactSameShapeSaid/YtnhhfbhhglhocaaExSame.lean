/- The walk of the law FnExactSameShape. -/
import Derived.Test.YtnhhfbhhglhocaaL3
import Derived.Test.YtnhhfbhhglhocaaSh5
import Derived.Deep.RegionHeld3
namespace Go.Proofs.Ytnhhfbhhglhocaa
open Go.RowKit

set_option maxHeartbeats 3200000 in
theorem fnExactSameShape_walk (v1 v2 u1 u2 : Value) (l1 l2 m1 m2 : List Int) (w : World) (h1 : RInts w v1 l1) (h2 : RInts w v2 l2) (k1 : RInts w u1 m1) (k2 : RInts w u2 m2) :
    Calls Try.prog 4 #[.agg #[v1, v2], .agg #[u1, u2]] w fun e w' => e = .returned (.bool true) ∧ Below w.heap.size w w' := by
  obtain ⟨a1, c1, rfl⟩ := h1.form
  obtain ⟨a2, c2, rfl⟩ := h2.form
  obtain ⟨a3, c3, rfl⟩ := k1.form
  obtain ⟨a4, c4, rfl⟩ := k2.form
  have hm1 := h1.len
  have hm2 := h2.len
  have hm3 := k1.len
  have hm4 := k2.len
  by_cases hsz : (l1.length : Int) + l2.length ≤ 1048576
  rotate_left
  · go_enter Try.func4, Try.ntmps4
    go_wp2_with fail
    refine (szState_big _ _ _ _ _ _ _ _ (by omega) (by omega) (by omega) hm1 hm2).mono ?_
    rintro e w1 ⟨rfl, hW⟩
    go_wp2
    go_ret
    exact ⟨rfl, bt (ba (below_alloc _ _) _) hW⟩
  have hl1 : l1.length ≤ 1048576 := by omega
  have hl2 : l2.length ≤ 1048576 := by omega
  by_cases hsy : (m1.length : Int) + m2.length ≤ 1048576 - l1.length - l2.length
  rotate_left
  · go_enter Try.func4, Try.ntmps4
    go_wp2_with fail
    refine (szState_fit _ _ _ _ _ _ _ _ (by omega) hsz).mono ?_
    rintro e w1 ⟨rfl, hW⟩
    have hd0 := cell_keep hW (p := ⟨w.heap.size + 1, 0, none⟩) (v := .slice a3 m1.length c3) (by simp)
    have hd1 := cell_keep hW (p := ⟨w.heap.size + 1, 1, none⟩) (v := .slice a4 m2.length c4) (by simp)
    go_wp2_with fail
    refine (szState_big _ _ _ _ _ _ _ _ (by omega) (by omega) (by omega) hm3 hm4).mono ?_
    rintro e w2 ⟨rfl, hb⟩
    go_wp2
    go_ret
    exact ⟨rfl, bt (bt (ba (below_alloc _ _) _) hW) hb⟩
  have hl3 : m1.length ≤ 1048576 := by omega
  have hl4 : m2.length ≤ 1048576 := by omega
  obtain ⟨sb, hsb⟩ : ∃ sb, sb = shapeB l1 l2 m1 m2 := ⟨_, rfl⟩
  have HS := Lib.hid hsb
  have hbne : (sb != sb) = false := by cases sb <;> rfl
  clear hsb
  go_enter Try.func4, Try.ntmps4
  go_wp2_with fail
  refine (szState_fit _ _ _ _ _ _ _ _ (by omega) hsz).mono ?_
  rintro e w1 ⟨rfl, hb⟩
  have hc0 := cell_keep hb (p := ⟨w.heap.size, 0, none⟩) (v := .slice a1 l1.length c1) (by simp)
  have hc1 := cell_keep hb (p := ⟨w.heap.size, 1, none⟩) (v := .slice a2 l2.length c2) (by simp)
  have hd0 := cell_keep hb (p := ⟨w.heap.size + 1, 0, none⟩) (v := .slice a3 m1.length c3) (by simp)
  have hd1 := cell_keep hb (p := ⟨w.heap.size + 1, 1, none⟩) (v := .slice a4 m2.length c4) (by simp)
  have hW := bt (ba (below_alloc w _) _) hb
  clear hb
  go_wp2_with fail
  refine (szState_fit _ _ _ _ _ _ _ _ (by omega) hsy).mono ?_
  rintro e w2 ⟨rfl, hb⟩
  replace hc0 := cell_keep hb hc0; replace hc1 := cell_keep hb hc1; replace hd0 := cell_keep hb hd0; replace hd1 := cell_keep hb hd1; replace hW := bt hW hb; clear hb
  go_wp2_with fail
  go_region_held3 (fun w' => (w'.cell? ⟨w.heap.size, 0, none⟩ = some (.slice a1 l1.length c1) ∧ w'.cell? ⟨w.heap.size, 1, none⟩ = some (.slice a2 l2.length c2)) ∧ (w'.cell? ⟨w.heap.size + 1, 0, none⟩ = some (.slice a3 m1.length c3) ∧ w'.cell? ⟨w.heap.size + 1, 1, none⟩ = some (.slice a4 m2.length c4)))
    (exact ⟨⟨cell_keep (by repeat (first | exact Below.refl _ _ | with_reducible assumption | exact below_alloc _ _ | (refine Below.setCell ?_ (by first | (simp; done) | (simp; omega) | omega) _) | apply bd | apply ba | apply be)) hc0, cell_keep (by repeat (first | exact Below.refl _ _ | with_reducible assumption | exact below_alloc _ _ | (refine Below.setCell ?_ (by first | (simp; done) | (simp; omega) | omega) _) | apply bd | apply ba | apply be)) hc1⟩, ⟨cell_keep (by repeat (first | exact Below.refl _ _ | with_reducible assumption | exact below_alloc _ _ | (refine Below.setCell ?_ (by first | (simp; done) | (simp; omega) | omega) _) | apply bd | apply ba | apply be)) hd0, cell_keep (by repeat (first | exact Below.refl _ _ | with_reducible assumption | exact below_alloc _ _ | (refine Below.setCell ?_ (by first | (simp; done) | (simp; omega) | omega) _) | apply bd | apply ba | apply be)) hd1⟩⟩)
    (first
      | (go_at_call 20; (with_reducible refine (toState_any (.slice a1 l1.length c1) (.slice a2 l2.length c2) l1 l2 _ (h1.keep (bt hW (by repeat (first | exact Below.refl _ _ | with_reducible assumption | exact below_alloc _ _ | (refine Below.setCell ?_ (by first | (simp; done) | (simp; omega) | omega) _) | apply bd | apply ba | apply be)))) (h2.keep (bt hW (by repeat (first | exact Below.refl _ _ | with_reducible assumption | exact below_alloc _ _ | (refine Below.setCell ?_ (by first | (simp; done) | (simp; omega) | omega) _) | apply bd | apply ba | apply be)))) hl1 hl2).mono ?_); rintro e w8 ⟨s1, s2, rfl, os1, os2, _, hb8'⟩; have hb8 : Below w2.heap.size w2 w8 := bt (by repeat (first | exact Below.refl _ _ | with_reducible assumption | exact below_alloc _ _ | (refine Below.setCell ?_ (by first | (simp; done) | (simp; omega) | omega) _) | apply bd | apply ba | apply be)) hb8')
      | (go_at_call 20; go_must (refine (toState_any (.slice a3 m1.length c3) (.slice a4 m2.length c4) m1 m2 _ (k1.keep (bt hW (by repeat (first | exact Below.refl _ _ | with_reducible assumption | exact below_alloc _ _ | (refine Below.setCell ?_ (by first | (simp; done) | (simp; omega) | omega) _) | apply bd | apply ba | apply be)))) (k2.keep (bt hW (by repeat (first | exact Below.refl _ _ | with_reducible assumption | exact below_alloc _ _ | (refine Below.setCell ?_ (by first | (simp; done) | (simp; omega) | omega) _) | apply bd | apply ba | apply be)))) hl3 hl4).mono ?_; rintro e w9 ⟨t1, t2, rfl, ot1, ot2, _, hb9'⟩; have hb9 : Below w2.heap.size w2 w9 := bt (by repeat (first | exact Below.refl _ _ | with_reducible assumption | exact below_alloc _ _ | (refine Below.setCell ?_ (by first | (simp; done) | (simp; omega) | omega) _) | apply bd | apply ba | apply be)) hb9'; have hb89 : Below w8.heap.size w8 w9 := (by first | exact hb9' | exact bt (below_drew _) hb9')))
      | (go_at_call 19; go_must (refine (sameShapeS_any _ _ _ _ l1 l2 m1 m2 _ ((own_ints os1).1.keep (by first | exact hb89 | exact bd hb89)) ((own_ints os2).1.keep (by first | exact hb89 | exact bd hb89)) ((own_ints ot1).1.keep (by first | exact Below.refl _ _ | exact below_drew _)) ((own_ints ot2).1.keep (by first | exact Below.refl _ _ | exact below_drew _))).mono ?_; rw [spec_shape, ← HS.out]; rintro e wq ⟨rfl, hbq'⟩; have hb : Below w2.heap.size w2 wq := bt (by repeat (first | exact Below.refl _ _ | with_reducible assumption | exact below_alloc _ _ | (refine Below.setCell ?_ (by first | (simp; done) | (simp; omega) | omega) _) | apply bd | apply ba | apply be)) hbq')))
  all_goals
    clear hb8 hb8' hb9 hb9' hb89 hbq' os1 os2 ot1 ot2
    replace hc0 := cell_keep hb hc0; replace hc1 := cell_keep hb hc1; replace hd0 := cell_keep hb hd0; replace hd1 := cell_keep hb hd1; replace hW := bt hW hb; clear hb
    go_wp2_with fail
    refine (toState_any _ _ l1 l2 _ (h1.keep hW) (h2.keep hW) hl1 hl2).mono ?_
    rintro e w3 ⟨x1, x2, rfl, ox1, ox2, _, hb⟩
    replace hc0 := cell_keep hb hc0; replace hc1 := cell_keep hb hc1; replace hd0 := cell_keep hb hd0; replace hd1 := cell_keep hb hd1; replace hW := bt hW hb; clear hb
    obtain ⟨xa1, xc1, rfl, _⟩ := own_form ox1
    obtain ⟨xa2, xc2, rfl, _⟩ := own_form ox2
    have hzA : w.heap.size < w3.heap.size := World.block_lt_of_cell? w3 _ hc0
    have hzB : w.heap.size + 1 < w3.heap.size := World.block_lt_of_cell? w3 _ hd0
    go_wp2_with fail
    refine (toState_any _ _ m1 m2 _ (by exact k1.keep (ba hW _)) (by exact k2.keep (ba hW _)) hl3 hl4).mono ?_
    rintro e w4 ⟨y1, y2, rfl, oy1, oy2, _, hb⟩
    obtain ⟨ya1, yc1, rfl, _⟩ := own_form oy1
    obtain ⟨ya2, yc2, rfl, _⟩ := own_form oy2
    have hx0 := cell_keep hb (p := ⟨w3.heap.size, 0, none⟩) (v := .slice xa1 l1.length xc1) (by simp)
    have hx1 := cell_keep hb (p := ⟨w3.heap.size, 1, none⟩) (v := .slice xa2 l2.length xc2) (by simp)
    replace hb := bt (below_alloc w3 _) hb
    have rx1 := (own_ints ox1).1
    have rx2 := (own_ints ox2).1
    have ry1 := (own_ints oy1).1
    have ry2 := (own_ints oy2).1
    clear ox1 ox2 oy1 oy2
    replace hc0 := cell_keep hb hc0; replace hc1 := cell_keep hb hc1; replace hd0 := cell_keep hb hd0; replace hd1 := cell_keep hb hd1; replace hW := bt hW hb; replace rx1 := rx1.keep hb; replace rx2 := rx2.keep hb; clear hb
    have hzC : w.heap.size < w4.heap.size := World.block_lt_of_cell? w4 _ hc0
    have hzD : w.heap.size + 1 < w4.heap.size := World.block_lt_of_cell? w4 _ hd0
    have hzE : w3.heap.size < w4.heap.size := World.block_lt_of_cell? w4 _ hx0
    go_wp2_with fail
    refine (sameShapeI_any _ _ _ _ l1 l2 m1 m2 _ (by exact rx1.alloc _) (by exact rx2.alloc _) (by exact ry1.alloc _) (by exact ry2.alloc _)).mono ?_
    rw [← HS.out]
    rintro e w5 ⟨rfl, hb⟩
    have hy0 := cell_keep hb (p := ⟨w4.heap.size, 0, none⟩) (v := .slice ya1 m1.length yc1) (by simp)
    have hy1 := cell_keep hb (p := ⟨w4.heap.size, 1, none⟩) (v := .slice ya2 m2.length yc2) (by simp)
    replace hb := bt (below_alloc w4 _) hb
    replace hc0 := cell_keep hb hc0; replace hc1 := cell_keep hb hc1; replace hd0 := cell_keep hb hd0; replace hd1 := cell_keep hb hd1; replace hx0 := cell_keep hb hx0; replace hx1 := cell_keep hb hx1; replace hW := bt hW hb; replace rx1 := rx1.keep hb; replace rx2 := rx2.keep hb; replace ry1 := ry1.keep hb; replace ry2 := ry2.keep hb; clear hb
    go_wp2
    go_region_held3 (fun w' => (w'.cell? ⟨w.heap.size, 0, none⟩ = some (.slice a1 l1.length c1) ∧ w'.cell? ⟨w.heap.size, 1, none⟩ = some (.slice a2 l2.length c2)) ∧ (w'.cell? ⟨w3.heap.size, 0, none⟩ = some (.slice xa1 l1.length xc1) ∧ w'.cell? ⟨w3.heap.size, 1, none⟩ = some (.slice xa2 l2.length xc2)))
      (exact ⟨⟨cell_keep (by repeat (first | exact Below.refl _ _ | with_reducible assumption | exact below_alloc _ _ | (refine Below.setCell ?_ (by first | (simp; done) | (simp; omega) | omega) _) | apply bd | apply ba | apply be)) hc0, cell_keep (by repeat (first | exact Below.refl _ _ | with_reducible assumption | exact below_alloc _ _ | (refine Below.setCell ?_ (by first | (simp; done) | (simp; omega) | omega) _) | apply bd | apply ba | apply be)) hc1⟩, ⟨cell_keep (by repeat (first | exact Below.refl _ _ | with_reducible assumption | exact below_alloc _ _ | (refine Below.setCell ?_ (by first | (simp; done) | (simp; omega) | omega) _) | apply bd | apply ba | apply be)) hx0, cell_keep (by repeat (first | exact Below.refl _ _ | with_reducible assumption | exact below_alloc _ _ | (refine Below.setCell ?_ (by first | (simp; done) | (simp; omega) | omega) _) | apply bd | apply ba | apply be)) hx1⟩⟩)
      (first
        | (go_at_call 20; go_must (refine (toState_any _ _ l1 l2 _ (h1.keep (bt hW (by repeat (first | exact Below.refl _ _ | with_reducible assumption | exact below_alloc _ _ | (refine Below.setCell ?_ (by first | (simp; done) | (simp; omega) | omega) _) | apply bd | apply ba | apply be)))) (h2.keep (bt hW (by repeat (first | exact Below.refl _ _ | with_reducible assumption | exact below_alloc _ _ | (refine Below.setCell ?_ (by first | (simp; done) | (simp; omega) | omega) _) | apply bd | apply ba | apply be)))) hl1 hl2).mono ?_; rintro e w9 ⟨p1, p2, rfl, op1, op2, _, hb9'⟩; have hb9 : Below w5.heap.size w5 w9 := bt (by repeat (first | exact Below.refl _ _ | with_reducible assumption | exact below_alloc _ _ | (refine Below.setCell ?_ (by first | (simp; done) | (simp; omega) | omega) _) | apply bd | apply ba | apply be)) hb9'))
        | (go_at_call 22; go_must (refine (eqState_any _ _ _ _ l1 l2 l1 l2 _ (rx1.keep (by repeat (first | exact Below.refl _ _ | with_reducible assumption | exact below_alloc _ _ | (refine Below.setCell ?_ (by first | (simp; done) | (simp; omega) | omega) _) | apply bd | apply ba | apply be))) (rx2.keep (by repeat (first | exact Below.refl _ _ | with_reducible assumption | exact below_alloc _ _ | (refine Below.setCell ?_ (by first | (simp; done) | (simp; omega) | omega) _) | apply bd | apply ba | apply be))) ((own_ints op1).1.keep (by first | exact Below.refl _ _ | exact below_drew _)) ((own_ints op2).1.keep (by first | exact Below.refl _ _ | exact below_drew _))).mono ?_; rintro e w6 ⟨rfl, hbq'⟩; have hb : Below w5.heap.size w5 w6 := bt (by repeat (first | exact Below.refl _ _ | with_reducible assumption | exact below_alloc _ _ | (refine Below.setCell ?_ (by first | (simp; done) | (simp; omega) | omega) _) | apply bd | apply ba | apply be)) hbq')))
    all_goals
      clear hb9 hb9' hbq' op1 op2
      replace hd0 := cell_keep hb hd0; replace hd1 := cell_keep hb hd1; replace hy0 := cell_keep hb hy0; replace hy1 := cell_keep hb hy1; replace hW := bt hW hb; replace ry1 := ry1.keep hb; replace ry2 := ry2.keep hb; clear hb
      try rw [show (decide (l1 = l1) && decide (l2 = l2)) = true from by simp]
      clear hc0 hc1 hx0 hx1
      go_wp2
      go_region_held3 (fun w' => (w'.cell? ⟨w.heap.size + 1, 0, none⟩ = some (.slice a3 m1.length c3) ∧ w'.cell? ⟨w.heap.size + 1, 1, none⟩ = some (.slice a4 m2.length c4)) ∧ (w'.cell? ⟨w4.heap.size, 0, none⟩ = some (.slice ya1 m1.length yc1) ∧ w'.cell? ⟨w4.heap.size, 1, none⟩ = some (.slice ya2 m2.length yc2)))
        (exact ⟨⟨cell_keep (by repeat (first | exact Below.refl _ _ | with_reducible assumption | exact below_alloc _ _ | (refine Below.setCell ?_ (by first | (simp; done) | (simp; omega) | omega) _) | apply bd | apply ba | apply be)) hd0, cell_keep (by repeat (first | exact Below.refl _ _ | with_reducible assumption | exact below_alloc _ _ | (refine Below.setCell ?_ (by first | (simp; done) | (simp; omega) | omega) _) | apply bd | apply ba | apply be)) hd1⟩, ⟨cell_keep (by repeat (first | exact Below.refl _ _ | with_reducible assumption | exact below_alloc _ _ | (refine Below.setCell ?_ (by first | (simp; done) | (simp; omega) | omega) _) | apply bd | apply ba | apply be)) hy0, cell_keep (by repeat (first | exact Below.refl _ _ | with_reducible assumption | exact below_alloc _ _ | (refine Below.setCell ?_ (by first | (simp; done) | (simp; omega) | omega) _) | apply bd | apply ba | apply be)) hy1⟩⟩)
        (first
          | (go_at_call 20; go_must (refine (toState_any _ _ m1 m2 _ (k1.keep (bt hW (by repeat (first | exact Below.refl _ _ | with_reducible assumption | exact below_alloc _ _ | (refine Below.setCell ?_ (by first | (simp; done) | (simp; omega) | omega) _) | apply bd | apply ba | apply be)))) (k2.keep (bt hW (by repeat (first | exact Below.refl _ _ | with_reducible assumption | exact below_alloc _ _ | (refine Below.setCell ?_ (by first | (simp; done) | (simp; omega) | omega) _) | apply bd | apply ba | apply be)))) hl3 hl4).mono ?_; rintro e w9 ⟨p1, p2, rfl, op1, op2, _, hb9'⟩; have hb9 : Below w6.heap.size w6 w9 := bt (by repeat (first | exact Below.refl _ _ | with_reducible assumption | exact below_alloc _ _ | (refine Below.setCell ?_ (by first | (simp; done) | (simp; omega) | omega) _) | apply bd | apply ba | apply be)) hb9'))
          | (go_at_call 22; go_must (refine (eqState_any _ _ _ _ m1 m2 m1 m2 _ (ry1.keep (by repeat (first | exact Below.refl _ _ | with_reducible assumption | exact below_alloc _ _ | (refine Below.setCell ?_ (by first | (simp; done) | (simp; omega) | omega) _) | apply bd | apply ba | apply be))) (ry2.keep (by repeat (first | exact Below.refl _ _ | with_reducible assumption | exact below_alloc _ _ | (refine Below.setCell ?_ (by first | (simp; done) | (simp; omega) | omega) _) | apply bd | apply ba | apply be))) ((own_ints op1).1.keep (by first | exact Below.refl _ _ | exact below_drew _)) ((own_ints op2).1.keep (by first | exact Below.refl _ _ | exact below_drew _))).mono ?_; rintro e w7 ⟨rfl, hbq'⟩; have hb : Below w6.heap.size w6 w7 := bt (by repeat (first | exact Below.refl _ _ | with_reducible assumption | exact below_alloc _ _ | (refine Below.setCell ?_ (by first | (simp; done) | (simp; omega) | omega) _) | apply bd | apply ba | apply be)) hbq')))
      all_goals
        try rw [show (decide (m1 = m1) && decide (m2 = m2)) = true from by simp]
        have hbb := bt hW hb
        go_wp2
        go_ret
        exact ⟨rfl, hbb⟩
end Go.Proofs.Ytnhhfbhhglhocaa
