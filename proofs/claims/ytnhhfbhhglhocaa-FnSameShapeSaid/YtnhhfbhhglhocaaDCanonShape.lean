/- The walk of the law FnCanonShape. -/
import Derived.Test.YtnhhfbhhglhocaaDShape
import Derived.Test.YtnhhfbhhglhocaaCan4
import Derived.Test.YtnhhfbhhglhocaaCans
import Derived.Test.YtnhhfbhhglhocaaCpy
namespace Go.Proofs.Ytnhhfbhhglhocaa
open Go.RowKit

theorem cbS {P : Program} {f : FuncId} {args : Array Value} {w : World} {T b : Bool} {R : World → Prop} (h : Calls P f args w fun e w' => e = .returned (.bool T) ∧ R w') (e : T = b) :
    Calls P f args w fun e w' => e = .returned (.bool b) ∧ R w' := by subst e; exact h

set_option maxRecDepth 100000 in
set_option maxHeartbeats 6400000 in
theorem fnCanonShape_walk (v : Value) (n : Nat) (w : World) (h : RBytes w v n) :
    Calls Try.prog 8 #[v] w fun e w' => e = .returned (.bool true) ∧ Below w.heap.size w w' := by
  obtain ⟨a, cap, rfl⟩ := bytes_form h
  by_cases hn : n ≤ 1048576
  rotate_left
  · go_enter Try.func8, Try.ntmps8
    go_wp2
    go_ret
    exact ⟨rfl, Below.refl _ _⟩
  go_enter Try.func8, Try.ntmps8
  go_wp2_with fail
  refine (specDrawSameShape_any _ n _ h).mono ?_
  rintro e w1 ⟨u1, u2, l1, l2, y1, y2, m1, m2, rfl, hl1, hl2, hm1, hm2, r1, r2, s1, s2, hW⟩
  obtain ⟨a1, c1, rfl⟩ := r1.form
  obtain ⟨a2, c2, rfl⟩ := r2.form
  obtain ⟨a3, c3, rfl⟩ := s1.form
  obtain ⟨a4, c4, rfl⟩ := s2.form
  obtain ⟨sb, hsb⟩ : ∃ sb, shapeB l1 l2 m1 m2 = sb := ⟨_, rfl⟩
  have hss : specShape l1 l2 m1 m2 = sb := by rw [spec_shape]; exact hsb
  have HS := Lib.hid (And.intro hsb hss)
  have hbn : (sb != sb) = false := by cases sb <;> rfl
  have hbe : (sb == sb) = true := by cases sb <;> rfl
  clear hsb hss
  go_wp2_with fail
  have hc0 : ((w1.alloc (.cells #[.slice a1 l1.length c1, .slice a2 l2.length c2] 34)).alloc (.cells #[.slice a3 m1.length c3, .slice a4 m2.length c4] 34)).cell? ⟨w1.heap.size, 0, none⟩ = some (.slice a1 l1.length c1) := by simp [go_sem]
  have hc1 : ((w1.alloc (.cells #[.slice a1 l1.length c1, .slice a2 l2.length c2] 34)).alloc (.cells #[.slice a3 m1.length c3, .slice a4 m2.length c4] 34)).cell? ⟨w1.heap.size, 1, none⟩ = some (.slice a2 l2.length c2) := by simp [go_sem]
  have hd0 : ((w1.alloc (.cells #[.slice a1 l1.length c1, .slice a2 l2.length c2] 34)).alloc (.cells #[.slice a3 m1.length c3, .slice a4 m2.length c4] 34)).cell? ⟨w1.heap.size + 1, 0, none⟩ = some (.slice a3 m1.length c3) := by simp [go_sem]
  have hd1 : ((w1.alloc (.cells #[.slice a1 l1.length c1, .slice a2 l2.length c2] 34)).alloc (.cells #[.slice a3 m1.length c3, .slice a4 m2.length c4] 34)).cell? ⟨w1.heap.size + 1, 1, none⟩ = some (.slice a4 m2.length c4) := by simp [go_sem]
  refine (cbS (sameShapeI_any _ _ _ _ l1 l2 m1 m2 _ ((r1.alloc _).alloc _) ((r2.alloc _).alloc _) ((s1.alloc _).alloc _) ((s2.alloc _).alloc _)) HS.out.1).mono ?_
  rintro e w2 ⟨rfl, hb⟩
  replace hc0 := cell_keep hb hc0
  replace hc1 := cell_keep hb hc1
  replace hd0 := cell_keep hb hd0
  replace hd1 := cell_keep hb hd1
  replace hb := bt (ba (below_alloc w1 _) _) hb
  replace hW := bt hW hb; replace r1 := r1.keep hb; replace r2 := r2.keep hb; replace s1 := s1.keep hb; replace s2 := s2.keep hb; clear hb
  have hz1 : w1.heap.size < w2.heap.size := World.block_lt_of_cell? w2 _ hc0
  have hz2 : w1.heap.size + 1 < w2.heap.size := World.block_lt_of_cell? w2 _ hd0
  go_wp2_with fail
  refine (cbS (sameShapeS_any _ _ _ _ l1 l2 m1 m2 _ r1 r2 s1 s2) HS.out.2).mono ?_
  rintro e w3 ⟨rfl, hb⟩
  replace hc0 := cell_keep hb hc0; replace hc1 := cell_keep hb hc1; replace hd0 := cell_keep hb hd0; replace hd1 := cell_keep hb hd1; replace hW := bt hW hb; replace r1 := r1.keep hb; replace r2 := r2.keep hb; replace s1 := s1.keep hb; replace s2 := s2.keep hb; clear hb
  replace hz1 : w1.heap.size < w3.heap.size := World.block_lt_of_cell? w3 _ hc0
  replace hz2 : w1.heap.size + 1 < w3.heap.size := World.block_lt_of_cell? w3 _ hd0
  cases va : validB l1 l2
  · have VA := Lib.hid va
    clear va
    go_wp2_with fail
    refine (cbS (stateValid_any _ _ l1 l2 _ r1 r2) VA.out).mono ?_
    rintro e w4 ⟨rfl, hb⟩
    replace hc0 := cell_keep hb hc0; replace hc1 := cell_keep hb hc1; replace hd0 := cell_keep hb hd0; replace hd1 := cell_keep hb hd1; replace hW := bt hW hb; replace r1 := r1.keep hb; replace r2 := r2.keep hb; replace s1 := s1.keep hb; replace s2 := s2.keep hb; clear hb
    go_wp2_with fail
    refine (cbS (sameShapeS_any _ _ _ _ l1 l2 m1 m2 _ r1 r2 s1 s2) HS.out.2).mono ?_
    rintro e w5 ⟨rfl, hb⟩
    go_wp2
    go_ret
    exact ⟨rfl, bt hW hb⟩
  cases vb : validB m1 m2
  · have VA := Lib.hid (And.intro va vb)
    clear va vb
    go_wp2_with fail
    refine (cbS (stateValid_any _ _ l1 l2 _ r1 r2) VA.out.1).mono ?_
    rintro e w4 ⟨rfl, hb⟩
    replace hc0 := cell_keep hb hc0; replace hc1 := cell_keep hb hc1; replace hd0 := cell_keep hb hd0; replace hd1 := cell_keep hb hd1; replace hW := bt hW hb; replace r1 := r1.keep hb; replace r2 := r2.keep hb; replace s1 := s1.keep hb; replace s2 := s2.keep hb; clear hb
    go_wp2_with fail
    refine (cbS (stateValid_any _ _ m1 m2 _ s1 s2) VA.out.2).mono ?_
    rintro e w5 ⟨rfl, hb⟩
    replace hc0 := cell_keep hb hc0; replace hc1 := cell_keep hb hc1; replace hd0 := cell_keep hb hd0; replace hd1 := cell_keep hb hd1; replace hW := bt hW hb; replace r1 := r1.keep hb; replace r2 := r2.keep hb; replace s1 := s1.keep hb; replace s2 := s2.keep hb; clear hb
    go_wp2_with fail
    refine (cbS (sameShapeS_any _ _ _ _ l1 l2 m1 m2 _ r1 r2 s1 s2) HS.out.2).mono ?_
    rintro e w6 ⟨rfl, hb⟩
    go_wp2
    go_ret
    exact ⟨rfl, bt hW hb⟩
  have VA := Lib.hid (And.intro va vb)
  obtain ⟨X1, hX1⟩ : ∃ X, X = canV l1 l2 := ⟨_, rfl⟩
  obtain ⟨X2, hX2⟩ : ∃ X, X = canH l1 l2 := ⟨_, rfl⟩
  obtain ⟨Y1, hY1⟩ : ∃ X, X = canV m1 m2 := ⟨_, rfl⟩
  obtain ⟨Y2, hY2⟩ : ∃ X, X = canH m1 m2 := ⟨_, rfl⟩
  obtain ⟨ss, hss⟩ : ∃ ss, (decide (X1 = Y1) && decide (X2 = Y2)) = ss := ⟨_, rfl⟩
  have hor : (!ss || sb) = true := by
    cases hq : ss
    · rfl
    · rw [hq] at hss
      simp only [Bool.and_eq_true, decide_eq_true_eq] at hss
      have := can_shape va vb (by rw [← hX1, ← hY1]; exact hss.1) (by rw [← hX2, ← hY2]; exact hss.2)
      rw [← HS.out.1, this]; rfl
  have HX := Lib.hid (And.intro (And.intro hX1 hX2) (And.intro (And.intro hY1 hY2) hss))
  have HOR := Lib.hid hor
  clear va vb hX1 hX2 hY1 hY2 hss hor
  go_wp2_with fail
  refine (cbS (stateValid_any _ _ l1 l2 _ r1 r2) VA.out.1).mono ?_
  rintro e w4 ⟨rfl, hb⟩
  replace hc0 := cell_keep hb hc0; replace hc1 := cell_keep hb hc1; replace hd0 := cell_keep hb hd0; replace hd1 := cell_keep hb hd1; replace hW := bt hW hb; replace r1 := r1.keep hb; replace r2 := r2.keep hb; replace s1 := s1.keep hb; replace s2 := s2.keep hb; clear hb
  go_wp2_with fail
  refine (cbS (stateValid_any _ _ m1 m2 _ s1 s2) VA.out.2).mono ?_
  rintro e w5 ⟨rfl, hb⟩
  replace hc0 := cell_keep hb hc0; replace hc1 := cell_keep hb hc1; replace hd0 := cell_keep hb hd0; replace hd1 := cell_keep hb hd1; replace hW := bt hW hb; replace r1 := r1.keep hb; replace r2 := r2.keep hb; replace s1 := s1.keep hb; replace s2 := s2.keep hb; clear hb
  go_wp2_with fail
  refine (canonStateI_any _ _ l1 l2 _ r1 r2).mono ?_
  rw [VA.out.1]
  rintro e w6 ⟨x1, x2, rfl, hx, hb⟩
  rw [← HX.out.1.1, ← HX.out.1.2] at hx
  obtain ⟨xa1, xc1, rfl, _⟩ := own_form hx.one
  obtain ⟨xa2, xc2, rfl, _⟩ := own_form hx.two
  have q1 := (own_ints hx.one).1
  have q2 := (own_ints hx.two).1
  replace hc0 := cell_keep hb hc0; replace hc1 := cell_keep hb hc1; replace hd0 := cell_keep hb hd0; replace hd1 := cell_keep hb hd1; replace hW := bt hW hb; replace r1 := r1.keep hb; replace r2 := r2.keep hb; replace s1 := s1.keep hb; replace s2 := s2.keep hb; clear hb
  replace hz2 : w1.heap.size + 1 < w6.heap.size := World.block_lt_of_cell? w6 _ hd0
  clear hx
  go_wp2_with fail
  refine (canonStateI_any _ _ m1 m2 _ (s1.alloc _) (s2.alloc _)).mono ?_
  rw [VA.out.2]
  rintro e w7 ⟨y1, y2, rfl, hy, hb⟩
  rw [← HX.out.2.1.1, ← HX.out.2.1.2] at hy
  obtain ⟨ya1, yc1, rfl, _⟩ := own_form hy.one
  obtain ⟨ya2, yc2, rfl, _⟩ := own_form hy.two
  have p1 := (own_ints hy.one).1
  have p2 := (own_ints hy.two).1
  have hx0 := cell_keep hb (p := ⟨w6.heap.size, 0, none⟩) (v := .slice xa1 X1.length xc1) (by simp)
  have hx1 := cell_keep hb (p := ⟨w6.heap.size, 1, none⟩) (v := .slice xa2 X2.length xc2) (by simp)
  replace hb := bt (below_alloc w6 _) hb
  replace hW := bt hW hb; replace q1 := q1.keep hb; replace q2 := q2.keep hb; clear hb
  clear hy
  have hz3 : w6.heap.size < w7.heap.size := World.block_lt_of_cell? w7 _ hx0
  go_wp2_with fail
  refine (cbS (stateSame_any _ _ _ _ X1 X2 Y1 Y2 _ (q1.alloc _) (q2.alloc _) (p1.alloc _) (p2.alloc _)) HX.out.2.2).mono ?_
  rintro e w8 ⟨rfl, hb⟩
  replace hb := bt (below_alloc w7 _) hb
  have hbb := bt hW hb
  have HOR2 := HOR.out
  cases ss
  · go_wp2
    go_ret
    exact ⟨rfl, hbb⟩
  · have hsbt : sb = true := by simpa using HOR2
    subst hsbt
    go_wp2
    go_ret
    exact ⟨rfl, hbb⟩
end Go.Proofs.Ytnhhfbhhglhocaa
