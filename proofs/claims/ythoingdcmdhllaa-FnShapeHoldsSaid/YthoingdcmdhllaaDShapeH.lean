/- The walk of the law FnShapeHolds. -/
import Derived.Test.YthoingdcmdhllaaDHolds5
import Derived.Test.YthoingdcmdhllaaDShape
import Derived.Test.YthoingdcmdhllaaHold8
import Derived.Test.YthoingdcmdhllaaHRen
namespace Go.Proofs.Ythoingdcmdhllaa
open Go.RowKit

/-- States of the same shape: the same holds. -/
theorem shape_holds {l1 l2 m1 m2 : List Int} (h : shapeB l1 l2 m1 m2 = true) (a : Asn) : holdsB l1 l2 a = holdsB m1 m2 a := by
  obtain ⟨hv, _, p, _, hg, rfl, rfl⟩ := shape_iff.1 h
  exact (holds_ren hv hg a).symm
set_option maxRecDepth 100000 in
set_option maxHeartbeats 6400000 in
theorem fnShapeHolds_walk (v u : Value) (n m : Nat) (w : World) (h : RBytes w v n) (h' : RBytes w u m) :
    Calls Try.prog 7 #[v, u] w fun e w' => e = .returned (.bool true) ∧ Below w.heap.size w w' := by
  obtain ⟨a, cap, rfl⟩ := bytes_form h
  obtain ⟨a', cap', rfl⟩ := bytes_form h'
  by_cases hn : n ≤ 1048576
  rotate_left
  · go_enter Try.func7, Try.ntmps7
    go_wp2
    go_ret
    exact ⟨rfl, Below.refl _ _⟩
  by_cases hm : m ≤ 1048576
  rotate_left
  · go_enter Try.func7, Try.ntmps7
    go_wp2
    go_ret
    exact ⟨rfl, Below.refl _ _⟩
  go_enter Try.func7, Try.ntmps7
  go_wp2_with fail
  refine (specDrawSameShape_any _ n _ h).mono ?_
  rintro e w1 ⟨u1, u2, l1, l2, y1, y2, m1, m2, rfl, _, _, _, _, r1, r2, s1, s2, hW⟩
  obtain ⟨a1, c1, rfl⟩ := r1.form
  obtain ⟨a2, c2, rfl⟩ := r2.form
  obtain ⟨b1, d1, rfl⟩ := s1.form
  obtain ⟨b2, d2, rfl⟩ := s2.form
  go_wp2_with fail
  refine (specDrawHolds_any _ m _ (h'.keep (bt hW (by repeat (first | exact Below.refl _ _ | with_reducible assumption | exact below_alloc _ _ | (refine Below.setCell ?_ (by first | (simp; done) | (simp; omega) | omega) _) | apply bd | apply ba | apply be))))).mono ?_
  rintro e w2 ⟨z1, z2, x1, x2, k1, k2, A, rfl, _, _, ⟨i1, i2⟩, ⟨q1, q2⟩, hb⟩
  have hc0 := cell_keep hb (p := ⟨w1.heap.size, 0, none⟩) (v := .slice a1 l1.length c1) (by simp)
  have hc1 := cell_keep hb (p := ⟨w1.heap.size, 1, none⟩) (v := .slice a2 l2.length c2) (by simp)
  have hd0 := cell_keep hb (p := ⟨w1.heap.size + 1, 0, none⟩) (v := .slice b1 m1.length d1) (by simp)
  have hd1 := cell_keep hb (p := ⟨w1.heap.size + 1, 1, none⟩) (v := .slice b2 m2.length d2) (by simp)
  replace hb : Below w1.heap.size w1 w2 := bt (by repeat (first | exact Below.refl _ _ | with_reducible assumption | exact below_alloc _ _ | (refine Below.setCell ?_ (by first | (simp; done) | (simp; omega) | omega) _) | apply bd | apply ba | apply be)) hb
  replace hW := bt hW hb; replace r1 := r1.keep hb; replace r2 := r2.keep hb; replace s1 := s1.keep hb; replace s2 := s2.keep hb; clear hb
  obtain ⟨f1, g1, rfl⟩ := i1.form
  obtain ⟨f2, g2, rfl⟩ := i2.form
  obtain ⟨f3, g3, rfl⟩ := q1.form
  obtain ⟨f4, g4, rfl⟩ := q2.form
  have hz1 : w1.heap.size + 1 < w2.heap.size := World.block_lt_of_cell? w2 _ hd0
  obtain ⟨W, hWe⟩ : ∃ W, W = (w2.alloc (.cells #[.slice f1 k1.length g1, .slice f2 k2.length g2] 25)).alloc (.cells #[.slice f3 A.1.length g3, .slice f4 A.2.length g4] 34) := ⟨_, rfl⟩
  have hbW : Below w2.heap.size w2 W := by rw [hWe]; exact (by repeat (first | exact Below.refl _ _ | with_reducible assumption | exact below_alloc _ _ | (refine Below.setCell ?_ (by first | (simp; done) | (simp; omega) | omega) _) | apply bd | apply ba | apply be))
  have hx0 : W.cell? ⟨w2.heap.size + 1, 0, none⟩ = some (.slice f3 A.1.length g3) := by rw [hWe]; simp
  have hx1 : W.cell? ⟨w2.heap.size + 1, 1, none⟩ = some (.slice f4 A.2.length g4) := by rw [hWe]; simp
  have HWE := Lib.hid hWe
  have HKW := Lib.hid (And.intro (And.intro (And.intro (cell_keep hbW hc0) (cell_keep hbW hc1)) (And.intro (cell_keep hbW hd0) (cell_keep hbW hd1))) (And.intro (bt hW hbW) (And.intro (And.intro (r1.keep hbW) (r2.keep hbW)) (And.intro (And.intro (s1.keep hbW) (s2.keep hbW)) (And.intro (q1.keep hbW) (q2.keep hbW))))))
  clear hW r1 r2 s1 s2 q1 q2 hbW
  have hz2 : w2.heap.size + 1 < W.heap.size := World.block_lt_of_cell? W _ hx0
  clear hWe i1 i2
  obtain ⟨same, hsm⟩ : ∃ b, shapeB l1 l2 m1 m2 = b := ⟨_, rfl⟩
  have HS := Lib.hid (And.intro hsm (show specShape l1 l2 m1 m2 = same by rw [spec_shape]; exact hsm))
  have hne : (same != same) = false := by cases same <;> rfl
  have heq : (same == same) = true := by cases same <;> rfl
  clear hsm
  go_upto_region 5 with fail
  rw [← HWE.out]
  obtain ⟨⟨⟨hc0, hc1⟩, ⟨hd0, hd1⟩⟩, hW, ⟨r1, r2⟩, ⟨s1, s2⟩, ⟨q1, q2⟩⟩ := HKW.out
  go_wp2_with fail
  refine (cb (sameShapeI_any _ _ _ _ l1 l2 m1 m2 _ r1 r2 s1 s2) HS.out.1).mono ?_
  rintro e w3 ⟨rfl, hb⟩
  replace hc0 := cell_keep hb hc0; replace hc1 := cell_keep hb hc1; replace hd0 := cell_keep hb hd0; replace hd1 := cell_keep hb hd1; replace hx0 := cell_keep hb hx0; replace hx1 := cell_keep hb hx1; replace hW := bt hW hb; replace r1 := r1.keep hb; replace r2 := r2.keep hb; replace s1 := s1.keep hb; replace s2 := s2.keep hb; replace q1 := q1.keep hb; replace q2 := q2.keep hb; clear hb
  go_wp2_with fail
  refine (cb (sameShapeS_any _ _ _ _ l1 l2 m1 m2 _ r1 r2 s1 s2) HS.out.2).mono ?_
  rintro e w4 ⟨rfl, hb⟩
  replace hc0 := cell_keep hb hc0; replace hc1 := cell_keep hb hc1; replace hd0 := cell_keep hb hd0; replace hd1 := cell_keep hb hd1; replace hx0 := cell_keep hb hx0; replace hx1 := cell_keep hb hx1; replace hW := bt hW hb; replace r1 := r1.keep hb; replace r2 := r2.keep hb; replace s1 := s1.keep hb; replace s2 := s2.keep hb; replace q1 := q1.keep hb; replace q2 := q2.keep hb; clear hb
  cases same with
  | false =>
    go_wp2_with fail
    refine (cb (sameShapeS_any _ _ _ _ l1 l2 m1 m2 _ r1 r2 s1 s2) HS.out.2).mono ?_
    rintro e w5 ⟨rfl, hb⟩
    go_wp2
    go_ret
    exact ⟨rfl, bt hW hb⟩
  | true =>
    obtain ⟨t, ht⟩ : ∃ t, holdsB l1 l2 A = t := ⟨_, rfl⟩
    have HT := Lib.hid (And.intro ht ((shape_holds HS.out.1 A).symm.trans ht))
    have htt : (t == t) = true := by cases t <;> rfl
    clear ht
    have z1 : w1.heap.size < w4.heap.size := World.block_lt_of_cell? w4 _ hc0
    have z2 : w1.heap.size + 1 < w4.heap.size := World.block_lt_of_cell? w4 _ hd0
    have z3 : w2.heap.size + 1 < w4.heap.size := World.block_lt_of_cell? w4 _ hx0
    go_wp2
    refine wp_region_ext (by kernel_rfl) (by kernel_rfl) ?_
    repeat (go_big_quiet_step ((go_at_call 22; first
      | exact ext_c (cb (holdsI_any _ _ _ _ l1 l2 A _ (r1.keep (by repeat (first | exact Below.refl _ _ | with_reducible assumption | exact below_alloc _ _ | (refine Below.setCell ?_ (by first | (simp; done) | (simp; omega) | omega) _) | apply bd | apply ba | apply be))) (r2.keep (by repeat (first | exact Below.refl _ _ | with_reducible assumption | exact below_alloc _ _ | (refine Below.setCell ?_ (by first | (simp; done) | (simp; omega) | omega) _) | apply bd | apply ba | apply be))) (q1.keep (by repeat (first | exact Below.refl _ _ | with_reducible assumption | exact below_alloc _ _ | (refine Below.setCell ?_ (by first | (simp; done) | (simp; omega) | omega) _) | apply bd | apply ba | apply be))) (q2.keep (by repeat (first | exact Below.refl _ _ | with_reducible assumption | exact below_alloc _ _ | (refine Below.setCell ?_ (by first | (simp; done) | (simp; omega) | omega) _) | apply bd | apply ba | apply be)))) HT.out.1)
      | exact ext_c (cb (holdsI_any _ _ _ _ m1 m2 A _ (s1.keep (by repeat (first | exact Below.refl _ _ | with_reducible assumption | exact below_alloc _ _ | (refine Below.setCell ?_ (by first | (simp; done) | (simp; omega) | omega) _) | apply bd | apply ba | apply be))) (s2.keep (by repeat (first | exact Below.refl _ _ | with_reducible assumption | exact below_alloc _ _ | (refine Below.setCell ?_ (by first | (simp; done) | (simp; omega) | omega) _) | apply bd | apply ba | apply be))) (q1.keep (by repeat (first | exact Below.refl _ _ | with_reducible assumption | exact below_alloc _ _ | (refine Below.setCell ?_ (by first | (simp; done) | (simp; omega) | omega) _) | apply bd | apply ba | apply be))) (q2.keep (by repeat (first | exact Below.refl _ _ | with_reducible assumption | exact below_alloc _ _ | (refine Below.setCell ?_ (by first | (simp; done) | (simp; omega) | omega) _) | apply bd | apply ba | apply be)))) HT.out.2))))
    refine wpQuiet_nil ?_
    intro w6 hb6
    go_wp2
    go_ret
    exact ⟨rfl, bt hW (bt (by repeat (first | exact Below.refl _ _ | with_reducible assumption | exact below_alloc _ _ | (refine Below.setCell ?_ (by first | (simp; done) | (simp; omega) | omega) _) | apply bd | apply ba | apply be)) hb6)⟩
end Go.Proofs.Ythoingdcmdhllaa
