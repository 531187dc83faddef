/- The walk of the law FnRenameHolds. -/
import Derived.Test.YthoingdcmdhllaaDHolds5
import Derived.Test.YthoingdcmdhllaaDRen1
import Derived.Test.YthoingdcmdhllaaRens2
import Derived.Test.YthoingdcmdhllaaShs1
import Derived.Test.YthoingdcmdhllaaHold8
import Derived.Test.YthoingdcmdhllaaHRen
namespace Go.Proofs.Ythoingdcmdhllaa
open Go.RowKit

theorem stateSame_eqH (v1 v2 u1 u2 : Value) (l1 l2 m1 m2 : List Int) (b : Bool) (w : World) (h1 : RInts w v1 l1) (h2 : RInts w v2 l2) (k1 : RInts w u1 m1) (k2 : RInts w u2 m2) (hb : (decide (l1 = m1) && decide (l2 = m2)) = b) :
    Calls Try.prog 18 #[.agg #[v1, v2], .agg #[u1, u2]] w fun e w' => e = .returned (.bool b) ∧ Below w.heap.size w w' := by
  rw [← hb]; exact stateSame_any v1 v2 u1 u2 l1 l2 m1 m2 w h1 h2 k1 k2
theorem ren_holds {l1 l2 l : List Int} (h : renOk l1 l2 l = true) (a : Asn) : holdsB (renSV l1 l2 l) (renSH l1 l2 l) a = holdsB l1 l2 a := by
  have hh : validB l1 l2 = true ∧ namesB l = true := by simpa [renOk] using h
  rw [renSV, renSH, if_pos h, if_pos h]
  exact holds_ren hh.1 (names_len hh.2).2 a
theorem ren_shape {l1 l2 l : List Int} (h : renOk l1 l2 l = true) : validB (renSV l1 l2 l) (renSH l1 l2 l) = true ∧ shapeB l1 l2 (renSV l1 l2 l) (renSH l1 l2 l) = true := by
  have hh : validB l1 l2 = true ∧ namesB l = true := by simpa [renOk] using h
  have hn := names_len hh.2
  rw [renSV, renSH, if_pos h, if_pos h]
  have hv := ren_valid hn.2 hh.1
  exact ⟨hv, shape_iff.2 ⟨hh.1, hv, l, hn.1, hn.2, rfl, rfl⟩⟩
set_option maxRecDepth 100000 in
set_option maxHeartbeats 6400000 in
theorem fnRenameHolds_walk (v u : Value) (n m : Nat) (w : World) (h : RBytes w v n) (h' : RBytes w u m) :
    Calls Try.prog 3 #[v, u] w fun e w' => e = .returned (.bool true) ∧ Below w.heap.size w w' := by
  obtain ⟨a, cap, rfl⟩ := bytes_form h
  obtain ⟨a', cap', rfl⟩ := bytes_form h'
  by_cases hn : n ≤ 1048576
  rotate_left
  · go_enter Try.func3, Try.ntmps3
    go_wp2
    go_ret
    exact ⟨rfl, Below.refl _ _⟩
  by_cases hm : m ≤ 1048576
  rotate_left
  · go_enter Try.func3, Try.ntmps3
    go_wp2
    go_ret
    exact ⟨rfl, Below.refl _ _⟩
  go_enter Try.func3, Try.ntmps3
  go_wp2_with fail
  refine (specDrawRenameState_any _ n _ h).mono ?_
  rintro e w1 ⟨u1, u2, l1, l2, nb, l, rfl, hl1, hl2, hl8, r1, r2, r3, hW⟩
  obtain ⟨a1, c1, rfl⟩ := r1.form
  obtain ⟨a2, c2, rfl⟩ := r2.form
  obtain ⟨ok, hok⟩ : ∃ ok, ok = renOk l1 l2 l := ⟨_, rfl⟩
  obtain ⟨X1, hX1⟩ : ∃ X, X = renSV l1 l2 l := ⟨_, rfl⟩
  obtain ⟨X2, hX2⟩ : ∃ X, X = renSH l1 l2 l := ⟨_, rfl⟩
  have HX := Lib.hid (And.intro hok (And.intro hX1 hX2))
  have hbn : (ok != ok) = false := by cases ok <;> rfl
  have hbe : (ok == ok) = true := by cases ok <;> rfl
  clear hok hX1 hX2 hl8
  go_wp2_with fail
  refine (renameStateI_any _ _ _ l1 l2 l _ (r1.alloc _) (r2.alloc _) (r3.alloc _)).mono ?_
  rintro e w2 ⟨x1, x2, rfl, hx, hb⟩
  rw [← HX.out.2.1, ← HX.out.2.2] at hx
  rw [← HX.out.1]
  obtain ⟨xa1, xc1, rfl, _⟩ := own_form hx.one
  obtain ⟨xa2, xc2, rfl, _⟩ := own_form hx.two
  have hc0 := cell_keep hb (p := ⟨w1.heap.size, 0, none⟩) (v := .slice a1 l1.length c1) (by simp)
  have hc1 := cell_keep hb (p := ⟨w1.heap.size, 1, none⟩) (v := .slice a2 l2.length c2) (by simp)
  have q1 := (own_ints hx.one).1
  have q2 := (own_ints hx.two).1
  replace hb := bt (below_alloc w1 _) hb
  replace hW := bt hW hb; replace r1 := r1.keep hb; replace r2 := r2.keep hb; replace r3 := r3.keep hb; clear hb
  clear hx
  have hz2 : w1.heap.size < w2.heap.size := World.block_lt_of_cell? w2 _ hc0
  go_wp2_with fail
  refine (renameStateS_any _ _ _ l1 l2 l _ (r1.alloc _) (r2.alloc _) (r3.alloc _)).mono ?_
  rintro e w3 ⟨y1, y2, rfl, hy, hb⟩
  rw [← HX.out.2.1, ← HX.out.2.2] at hy
  rw [← HX.out.1]
  obtain ⟨ya1, yc1, rfl, _⟩ := own_form hy.one
  obtain ⟨ya2, yc2, rfl, _⟩ := own_form hy.two
  have hx0 := cell_keep hb (p := ⟨w2.heap.size, 0, none⟩) (v := .slice xa1 X1.length xc1) (by simp)
  have hx1 := cell_keep hb (p := ⟨w2.heap.size, 1, none⟩) (v := .slice xa2 X2.length xc2) (by simp)
  have p1 := (own_ints hy.one).1
  have p2 := (own_ints hy.two).1
  replace hb := bt (below_alloc w2 _) hb
  replace hc0 := cell_keep hb hc0; replace hc1 := cell_keep hb hc1; replace hW := bt hW hb; replace r1 := r1.keep hb; replace r2 := r2.keep hb; replace r3 := r3.keep hb; replace q1 := q1.keep hb; replace q2 := q2.keep hb; clear hb
  clear hy
  have hz3 : w1.heap.size < w3.heap.size := World.block_lt_of_cell? w3 _ hc0
  have hz4 : w2.heap.size < w3.heap.size := World.block_lt_of_cell? w3 _ hx0
  go_wp2_with fail
  refine (stateSame_eqH _ _ _ _ X1 X2 X1 X2 true _ (q1.alloc _) (q2.alloc _) (p1.alloc _) (p2.alloc _) (by simp)).mono ?_
  rintro e w4 ⟨rfl, hb⟩
  have hy0 := cell_keep hb (p := ⟨w3.heap.size, 0, none⟩) (v := .slice ya1 X1.length yc1) (by simp)
  have hy1 := cell_keep hb (p := ⟨w3.heap.size, 1, none⟩) (v := .slice ya2 X2.length yc2) (by simp)
  replace hb := bt (below_alloc w3 _) hb
  replace hc0 := cell_keep hb hc0; replace hc1 := cell_keep hb hc1; replace hx0 := cell_keep hb hx0; replace hx1 := cell_keep hb hx1; replace hW := bt hW hb; replace r1 := r1.keep hb; replace r2 := r2.keep hb; replace r3 := r3.keep hb; replace q1 := q1.keep hb; replace q2 := q2.keep hb; replace p1 := p1.keep hb; replace p2 := p2.keep hb; clear hb
  cases ok with
  | false =>
    go_wp2_with fail
    refine (stateSame_eqH _ _ _ _ X1 X2 X1 X2 true _ q1 q2 p1 p2 (by simp)).mono ?_
    rintro e w5 ⟨rfl, hb⟩
    go_wp2
    go_ret
    exact ⟨rfl, bt hW hb⟩
  | true =>
    have hsh := ren_shape HX.out.1.symm
    rw [← HX.out.2.1, ← HX.out.2.2] at hsh
    have HSH := Lib.hid hsh
    clear hsh p1 p2 hy0 hy1
    go_wp2_with fail
    refine (specDrawHolds_any _ m _ (h'.keep hW)).mono ?_
    rintro e w5 ⟨z1, z2, y1, y2, k1, k2, A, rfl, _, _, ⟨i1, i2⟩, ⟨j1, j2⟩, hb⟩
    replace hc0 := cell_keep hb hc0; replace hc1 := cell_keep hb hc1; replace hx0 := cell_keep hb hx0; replace hx1 := cell_keep hb hx1; replace hW := bt hW hb; replace r1 := r1.keep hb; replace r2 := r2.keep hb; replace r3 := r3.keep hb; replace q1 := q1.keep hb; replace q2 := q2.keep hb; clear hb
    obtain ⟨f1, g1, rfl⟩ := i1.form
    obtain ⟨f2, g2, rfl⟩ := i2.form
    obtain ⟨f3, g3, rfl⟩ := j1.form
    obtain ⟨f4, g4, rfl⟩ := j2.form
    replace i1 := i1.ints
    replace i2 := i2.ints
    replace j1 := j1.any
    replace j2 := j2.any
    have hz5 : w1.heap.size < w5.heap.size := World.block_lt_of_cell? w5 _ hc0
    have hz6 : w2.heap.size < w5.heap.size := World.block_lt_of_cell? w5 _ hx0
    obtain ⟨W, hWe⟩ : ∃ W, W = (w5.alloc (.cells #[.slice f1 k1.length g1, .slice f2 k2.length g2] 25)).alloc (.cells #[.slice f3 A.1.length g3, .slice f4 A.2.length g4] 34) := ⟨_, rfl⟩
    have hbW : Below w5.heap.size w5 W := by rw [hWe]; exact (by repeat (first | exact Below.refl _ _ | with_reducible assumption | exact below_alloc _ _ | (refine Below.setCell ?_ (by first | (simp; done) | (simp; omega) | omega) _) | apply bd | apply ba | apply be))
    have ht0 : W.cell? ⟨w5.heap.size, 0, none⟩ = some (.slice f1 k1.length g1) := by rw [hWe]; simp
    have ht1 : W.cell? ⟨w5.heap.size, 1, none⟩ = some (.slice f2 k2.length g2) := by rw [hWe]; simp
    have hy0 : W.cell? ⟨w5.heap.size + 1, 0, none⟩ = some (.slice f3 A.1.length g3) := by rw [hWe]; simp
    have hy1 : W.cell? ⟨w5.heap.size + 1, 1, none⟩ = some (.slice f4 A.2.length g4) := by rw [hWe]; simp
    have HWE := Lib.hid hWe
    have HKW := Lib.hid (And.intro (And.intro (And.intro (cell_keep hbW hc0) (cell_keep hbW hc1)) (And.intro (cell_keep hbW hx0) (cell_keep hbW hx1))) (And.intro (bt hW hbW) (And.intro (And.intro (r1.keep hbW) (And.intro (r2.keep hbW) (r3.keep hbW))) (And.intro (And.intro (q1.keep hbW) (q2.keep hbW)) (And.intro (And.intro (i1.keep hbW) (i2.keep hbW)) (And.intro (j1.keep hbW) (j2.keep hbW)))))))
    clear hW r1 r2 r3 q1 q2 i1 i2 j1 j2 hbW hc0 hc1 hx0 hx1 hWe
    obtain ⟨fine, hfi⟩ : ∃ ok, ok = renOk k1 k2 l := ⟨_, rfl⟩
    obtain ⟨Y1, hY1⟩ : ∃ X, X = renSV k1 k2 l := ⟨_, rfl⟩
    obtain ⟨Y2, hY2⟩ : ∃ X, X = renSH k1 k2 l := ⟨_, rfl⟩
    have HY := Lib.hid (And.intro hfi (And.intro hY1 hY2))
    clear hfi hY1 hY2
    go_upto_region 9 with fail
    rw [← HWE.out]
    obtain ⟨⟨⟨hc0, hc1⟩, ⟨hx0, hx1⟩⟩, hW, ⟨r1, r2, r3⟩, ⟨q1, q2⟩, ⟨i1, i2⟩, ⟨j1, j2⟩⟩ := HKW.out
    go_wp2_with fail
    refine (renameStateI_any _ _ _ k1 k2 l _ i1 i2 r3).mono ?_
    rintro e w6 ⟨x1, x2, rfl, hx, hb⟩
    rw [← HY.out.2.1, ← HY.out.2.2] at hx
    rw [← HY.out.1]
    obtain ⟨ya1, yc1, rfl, _⟩ := own_form hx.one
    obtain ⟨ya2, yc2, rfl, _⟩ := own_form hx.two
    have s1 := (own_ints hx.one).1
    have s2 := (own_ints hx.two).1
    replace hc0 := cell_keep hb hc0; replace hc1 := cell_keep hb hc1; replace hx0 := cell_keep hb hx0; replace hx1 := cell_keep hb hx1; replace ht0 := cell_keep hb ht0; replace ht1 := cell_keep hb ht1; replace hy0 := cell_keep hb hy0; replace hy1 := cell_keep hb hy1; replace hW := bt hW hb; replace r1 := r1.keep hb; replace r2 := r2.keep hb; replace q1 := q1.keep hb; replace q2 := q2.keep hb; replace i1 := i1.keep hb; replace i2 := i2.keep hb; replace j1 := j1.keep hb; replace j2 := j2.keep hb; clear hb
    clear hx
    obtain ⟨W7, hWe⟩ : ∃ W, W = w6.alloc (.cells #[.slice ya1 Y1.length yc1, .slice ya2 Y2.length yc2] 25) := ⟨_, rfl⟩
    have hbW : Below w6.heap.size w6 W7 := by rw [hWe]; exact below_alloc _ _
    have hs0 : W7.cell? ⟨w6.heap.size, 0, none⟩ = some (.slice ya1 Y1.length yc1) := by rw [hWe]; simp
    have hs1 : W7.cell? ⟨w6.heap.size, 1, none⟩ = some (.slice ya2 Y2.length yc2) := by rw [hWe]; simp
    replace hc0 := cell_keep hbW hc0; replace hc1 := cell_keep hbW hc1; replace hx0 := cell_keep hbW hx0; replace hx1 := cell_keep hbW hx1; replace ht0 := cell_keep hbW ht0; replace ht1 := cell_keep hbW ht1; replace hy0 := cell_keep hbW hy0; replace hy1 := cell_keep hbW hy1; replace hW := bt hW hbW; replace r1 := r1.keep hbW; replace r2 := r2.keep hbW; replace q1 := q1.keep hbW; replace q2 := q2.keep hbW; replace i1 := i1.keep hbW; replace i2 := i2.keep hbW; replace j1 := j1.keep hbW; replace j2 := j2.keep hbW; replace s1 := s1.keep hbW; replace s2 := s2.keep hbW; clear hbW
    have HWE7 := Lib.hid hWe
    clear hWe
    have z1 : w1.heap.size < W7.heap.size := World.block_lt_of_cell? W7 _ hc0
    have z2 : w2.heap.size < W7.heap.size := World.block_lt_of_cell? W7 _ hx0
    have z3 : w5.heap.size < W7.heap.size := World.block_lt_of_cell? W7 _ ht0
    have z4 : w5.heap.size + 1 < W7.heap.size := World.block_lt_of_cell? W7 _ hy0
    have z5 : w6.heap.size < W7.heap.size := World.block_lt_of_cell? W7 _ hs0
    obtain ⟨t, ht⟩ : ∃ t, holdsB l1 l2 A = t := ⟨_, rfl⟩
    have htx : holdsB X1 X2 A = t := by rw [HX.out.2.1, HX.out.2.2, ren_holds HX.out.1.symm]; exact ht
    have htt : (t == t) = true := by cases t <;> rfl
    have HT := Lib.hid (And.intro ht htx)
    clear ht htx
    cases fine with
    | false =>
      go_upto_region 10 with fail
      rw [← HWE7.out]
      refine wp_region_ext (by kernel_rfl) (by kernel_rfl) ?_
      repeat (go_big_quiet_step ((first
        | (go_at_call 20; exact ext_c (cb (stateValid_any _ _ X1 X2 _ (q1.keep (by repeat (first | exact Below.refl _ _ | with_reducible assumption | exact below_alloc _ _ | (refine Below.setCell ?_ (by first | (simp; done) | (simp; omega) | omega) _) | apply bd | apply ba | apply be))) (q2.keep (by repeat (first | exact Below.refl _ _ | with_reducible assumption | exact below_alloc _ _ | (refine Below.setCell ?_ (by first | (simp; done) | (simp; omega) | omega) _) | apply bd | apply ba | apply be)))) HSH.out.1))
        | (go_at_call 21; exact ext_c (cb (sameShapeI_any _ _ _ _ l1 l2 X1 X2 _ (r1.keep (by repeat (first | exact Below.refl _ _ | with_reducible assumption | exact below_alloc _ _ | (refine Below.setCell ?_ (by first | (simp; done) | (simp; omega) | omega) _) | apply bd | apply ba | apply be))) (r2.keep (by repeat (first | exact Below.refl _ _ | with_reducible assumption | exact below_alloc _ _ | (refine Below.setCell ?_ (by first | (simp; done) | (simp; omega) | omega) _) | apply bd | apply ba | apply be))) (q1.keep (by repeat (first | exact Below.refl _ _ | with_reducible assumption | exact below_alloc _ _ | (refine Below.setCell ?_ (by first | (simp; done) | (simp; omega) | omega) _) | apply bd | apply ba | apply be))) (q2.keep (by repeat (first | exact Below.refl _ _ | with_reducible assumption | exact below_alloc _ _ | (refine Below.setCell ?_ (by first | (simp; done) | (simp; omega) | omega) _) | apply bd | apply ba | apply be)))) HSH.out.2))
        | (go_at_call 22; exact ext_c (cb (holdsI_any _ _ _ _ X1 X2 A _ (q1.keep (by repeat (first | exact Below.refl _ _ | with_reducible assumption | exact below_alloc _ _ | (refine Below.setCell ?_ (by first | (simp; done) | (simp; omega) | omega) _) | apply bd | apply ba | apply be))) (q2.keep (by repeat (first | exact Below.refl _ _ | with_reducible assumption | exact below_alloc _ _ | (refine Below.setCell ?_ (by first | (simp; done) | (simp; omega) | omega) _) | apply bd | apply ba | apply be))) (j1.keep (by repeat (first | exact Below.refl _ _ | with_reducible assumption | exact below_alloc _ _ | (refine Below.setCell ?_ (by first | (simp; done) | (simp; omega) | omega) _) | apply bd | apply ba | apply be))) (j2.keep (by repeat (first | exact Below.refl _ _ | with_reducible assumption | exact below_alloc _ _ | (refine Below.setCell ?_ (by first | (simp; done) | (simp; omega) | omega) _) | apply bd | apply ba | apply be)))) HT.out.2))
        | (go_at_call 22; exact ext_c (cb (holdsI_any _ _ _ _ l1 l2 A _ (r1.keep (by repeat (first | exact Below.refl _ _ | with_reducible assumption | exact below_alloc _ _ | (refine Below.setCell ?_ (by first | (simp; done) | (simp; omega) | omega) _) | apply bd | apply ba | apply be))) (r2.keep (by repeat (first | exact Below.refl _ _ | with_reducible assumption | exact below_alloc _ _ | (refine Below.setCell ?_ (by first | (simp; done) | (simp; omega) | omega) _) | apply bd | apply ba | apply be))) (j1.keep (by repeat (first | exact Below.refl _ _ | with_reducible assumption | exact below_alloc _ _ | (refine Below.setCell ?_ (by first | (simp; done) | (simp; omega) | omega) _) | apply bd | apply ba | apply be))) (j2.keep (by repeat (first | exact Below.refl _ _ | with_reducible assumption | exact below_alloc _ _ | (refine Below.setCell ?_ (by first | (simp; done) | (simp; omega) | omega) _) | apply bd | apply ba | apply be)))) HT.out.1)))))
      refine wpQuiet_nil ?_
      intro w8 hb8
      go_wp2
      go_ret
      exact ⟨rfl, bt hW (bt (by repeat (first | exact Below.refl _ _ | with_reducible assumption | exact below_alloc _ _ | (refine Below.setCell ?_ (by first | (simp; done) | (simp; omega) | omega) _) | apply bd | apply ba | apply be)) hb8)⟩
    | true =>
      obtain ⟨s, hs⟩ : ∃ t, holdsB k1 k2 A = t := ⟨_, rfl⟩
      have hsx : holdsB Y1 Y2 A = s := by rw [HY.out.2.1, HY.out.2.2, ren_holds HY.out.1.symm]; exact hs
      have hss : (s == s) = true := by cases s <;> rfl
      have HS := Lib.hid (And.intro hs hsx)
      clear hs hsx
      go_upto_region 10 with fail
      rw [← HWE7.out]
      refine wp_region_ext (by kernel_rfl) (by kernel_rfl) ?_
      repeat (go_big_quiet_step ((first
        | (go_at_call 20; exact ext_c (cb (stateValid_any _ _ X1 X2 _ (q1.keep (by repeat (first | exact Below.refl _ _ | with_reducible assumption | exact below_alloc _ _ | (refine Below.setCell ?_ (by first | (simp; done) | (simp; omega) | omega) _) | apply bd | apply ba | apply be))) (q2.keep (by repeat (first | exact Below.refl _ _ | with_reducible assumption | exact below_alloc _ _ | (refine Below.setCell ?_ (by first | (simp; done) | (simp; omega) | omega) _) | apply bd | apply ba | apply be)))) HSH.out.1))
        | (go_at_call 21; exact ext_c (cb (sameShapeI_any _ _ _ _ l1 l2 X1 X2 _ (r1.keep (by repeat (first | exact Below.refl _ _ | with_reducible assumption | exact below_alloc _ _ | (refine Below.setCell ?_ (by first | (simp; done) | (simp; omega) | omega) _) | apply bd | apply ba | apply be))) (r2.keep (by repeat (first | exact Below.refl _ _ | with_reducible assumption | exact below_alloc _ _ | (refine Below.setCell ?_ (by first | (simp; done) | (simp; omega) | omega) _) | apply bd | apply ba | apply be))) (q1.keep (by repeat (first | exact Below.refl _ _ | with_reducible assumption | exact below_alloc _ _ | (refine Below.setCell ?_ (by first | (simp; done) | (simp; omega) | omega) _) | apply bd | apply ba | apply be))) (q2.keep (by repeat (first | exact Below.refl _ _ | with_reducible assumption | exact below_alloc _ _ | (refine Below.setCell ?_ (by first | (simp; done) | (simp; omega) | omega) _) | apply bd | apply ba | apply be)))) HSH.out.2))
        | (go_at_call 22; exact ext_c (cb (holdsI_any _ _ _ _ X1 X2 A _ (q1.keep (by repeat (first | exact Below.refl _ _ | with_reducible assumption | exact below_alloc _ _ | (refine Below.setCell ?_ (by first | (simp; done) | (simp; omega) | omega) _) | apply bd | apply ba | apply be))) (q2.keep (by repeat (first | exact Below.refl _ _ | with_reducible assumption | exact below_alloc _ _ | (refine Below.setCell ?_ (by first | (simp; done) | (simp; omega) | omega) _) | apply bd | apply ba | apply be))) (j1.keep (by repeat (first | exact Below.refl _ _ | with_reducible assumption | exact below_alloc _ _ | (refine Below.setCell ?_ (by first | (simp; done) | (simp; omega) | omega) _) | apply bd | apply ba | apply be))) (j2.keep (by repeat (first | exact Below.refl _ _ | with_reducible assumption | exact below_alloc _ _ | (refine Below.setCell ?_ (by first | (simp; done) | (simp; omega) | omega) _) | apply bd | apply ba | apply be)))) HT.out.2))
        | (go_at_call 22; exact ext_c (cb (holdsI_any _ _ _ _ l1 l2 A _ (r1.keep (by repeat (first | exact Below.refl _ _ | with_reducible assumption | exact below_alloc _ _ | (refine Below.setCell ?_ (by first | (simp; done) | (simp; omega) | omega) _) | apply bd | apply ba | apply be))) (r2.keep (by repeat (first | exact Below.refl _ _ | with_reducible assumption | exact below_alloc _ _ | (refine Below.setCell ?_ (by first | (simp; done) | (simp; omega) | omega) _) | apply bd | apply ba | apply be))) (j1.keep (by repeat (first | exact Below.refl _ _ | with_reducible assumption | exact below_alloc _ _ | (refine Below.setCell ?_ (by first | (simp; done) | (simp; omega) | omega) _) | apply bd | apply ba | apply be))) (j2.keep (by repeat (first | exact Below.refl _ _ | with_reducible assumption | exact below_alloc _ _ | (refine Below.setCell ?_ (by first | (simp; done) | (simp; omega) | omega) _) | apply bd | apply ba | apply be)))) HT.out.1))
        | (go_at_call 22; exact ext_c (cb (holdsI_any _ _ _ _ Y1 Y2 A _ (s1.keep (by repeat (first | exact Below.refl _ _ | with_reducible assumption | exact below_alloc _ _ | (refine Below.setCell ?_ (by first | (simp; done) | (simp; omega) | omega) _) | apply bd | apply ba | apply be))) (s2.keep (by repeat (first | exact Below.refl _ _ | with_reducible assumption | exact below_alloc _ _ | (refine Below.setCell ?_ (by first | (simp; done) | (simp; omega) | omega) _) | apply bd | apply ba | apply be))) (j1.keep (by repeat (first | exact Below.refl _ _ | with_reducible assumption | exact below_alloc _ _ | (refine Below.setCell ?_ (by first | (simp; done) | (simp; omega) | omega) _) | apply bd | apply ba | apply be))) (j2.keep (by repeat (first | exact Below.refl _ _ | with_reducible assumption | exact below_alloc _ _ | (refine Below.setCell ?_ (by first | (simp; done) | (simp; omega) | omega) _) | apply bd | apply ba | apply be)))) HS.out.2))
        | (go_at_call 22; exact ext_c (cb (holdsI_any _ _ _ _ k1 k2 A _ (i1.keep (by repeat (first | exact Below.refl _ _ | with_reducible assumption | exact below_alloc _ _ | (refine Below.setCell ?_ (by first | (simp; done) | (simp; omega) | omega) _) | apply bd | apply ba | apply be))) (i2.keep (by repeat (first | exact Below.refl _ _ | with_reducible assumption | exact below_alloc _ _ | (refine Below.setCell ?_ (by first | (simp; done) | (simp; omega) | omega) _) | apply bd | apply ba | apply be))) (j1.keep (by repeat (first | exact Below.refl _ _ | with_reducible assumption | exact below_alloc _ _ | (refine Below.setCell ?_ (by first | (simp; done) | (simp; omega) | omega) _) | apply bd | apply ba | apply be))) (j2.keep (by repeat (first | exact Below.refl _ _ | with_reducible assumption | exact below_alloc _ _ | (refine Below.setCell ?_ (by first | (simp; done) | (simp; omega) | omega) _) | apply bd | apply ba | apply be)))) HS.out.1)))))
      refine wpQuiet_nil ?_
      intro w8 hb8
      go_wp2
      go_ret
      exact ⟨rfl, bt hW (bt (by repeat (first | exact Below.refl _ _ | with_reducible assumption | exact below_alloc _ _ | (refine Below.setCell ?_ (by first | (simp; done) | (simp; omega) | omega) _) | apply bd | apply ba | apply be)) hb8)⟩
end Go.Proofs.Ythoingdcmdhllaa
