/- The walk of the law FnSameShape. -/
import Derived.Test.YtnhhfbhhglhocaaDCanonShape
import Derived.Test.YtnhhfbhhglhocaaInv
import Derived.Deep.DeepMust
namespace Go.Proofs.Ytnhhfbhhglhocaa
open Go.RowKit

theorem len_of {P : Program} {f : FuncId} {args : Array Value} {w : World} {T : TypeId} {L : List Int} {n : Nat} (h : Calls P f args w fun e w' => ∃ v, e = .returned v ∧ w'.ownsRow w.heap.size T 1 v L.length (ints L) ∧ Below w.heap.size w w') (e : L.length = n) :
    Calls P f args w fun e w' => ∃ a c, e = .returned (.slice a n c) ∧ Below w.heap.size w w' := by
  refine h.mono ?_
  rintro e' w' ⟨v, rfl, ho, hb⟩
  obtain ⟨a, c, rfl, _⟩ := own_form ho
  exact ⟨a, c, by rw [e], hb⟩

set_option maxRecDepth 100000 in
set_option maxHeartbeats 6400000 in
theorem fnSameShape_walk (v : Value) (n : Nat) (w : World) (h : RBytes w v n) :
    Calls Try.prog 9 #[v] w fun e w' => e = .returned (.bool true) ∧ Below w.heap.size w w' := by
  obtain ⟨a, cap, rfl⟩ := bytes_form h
  by_cases hn : n ≤ 1048576
  rotate_left
  · go_enter Try.func9, Try.ntmps9
    go_wp2
    go_ret
    exact ⟨rfl, Below.refl _ _⟩
  go_enter Try.func9, Try.ntmps9
  go_wp2_with fail
  refine (specDrawSameShape_any _ n _ h).mono ?_
  rintro e w1 ⟨u1, u2, l1, l2, y1, y2, m1, m2, rfl, hl1, hl2, hm1, hm2, r1, r2, s1, s2, hW⟩
  obtain ⟨a1, c1, rfl⟩ := r1.form
  obtain ⟨a2, c2, rfl⟩ := r2.form
  obtain ⟨a3, c3, rfl⟩ := s1.form
  obtain ⟨a4, c4, rfl⟩ := s2.form
  obtain ⟨sb, hsb⟩ : ∃ sb, shapeB l1 l2 m1 m2 = sb := ⟨_, rfl⟩
  obtain ⟨vv, hvv⟩ : ∃ vv, validB l1 l2 = vv := ⟨_, rfl⟩
  have hss : specShape l1 l2 m1 m2 = sb := by rw [spec_shape]; exact hsb
  have hsy : shapeB m1 m2 l1 l2 = sb := by rw [shape_symm]; exact hsb
  have hsr : shapeB l1 l2 l1 l2 = vv := by rw [shape_refl]; exact hvv
  have HS := Lib.hid (And.intro hsb (And.intro hss hsy))
  have HV := Lib.hid (And.intro hsr hvv)
  clear hsb hss hsy hsr hvv
  go_wp2_with fail
  have hc0 : ((w1.alloc (.cells #[.slice a1 l1.length c1, .slice a2 l2.length c2] 34)).alloc (.cells #[.slice a3 m1.length c3, .slice a4 m2.length c4] 34)).cell? ⟨w1.heap.size, 0, none⟩ = some (.slice a1 l1.length c1) := by simp [go_sem]
  have hc1 : ((w1.alloc (.cells #[.slice a1 l1.length c1, .slice a2 l2.length c2] 34)).alloc (.cells #[.slice a3 m1.length c3, .slice a4 m2.length c4] 34)).cell? ⟨w1.heap.size, 1, none⟩ = some (.slice a2 l2.length c2) := by simp [go_sem]
  have hd0 : ((w1.alloc (.cells #[.slice a1 l1.length c1, .slice a2 l2.length c2] 34)).alloc (.cells #[.slice a3 m1.length c3, .slice a4 m2.length c4] 34)).cell? ⟨w1.heap.size + 1, 0, none⟩ = some (.slice a3 m1.length c3) := by simp [go_sem]
  have hd1 : ((w1.alloc (.cells #[.slice a1 l1.length c1, .slice a2 l2.length c2] 34)).alloc (.cells #[.slice a3 m1.length c3, .slice a4 m2.length c4] 34)).cell? ⟨w1.heap.size + 1, 1, none⟩ = some (.slice a4 m2.length c4) := by simp [go_sem]
  refine (cbS (sameShapeI_any _ _ _ _ l1 l2 m1 m2 _ ((r1.alloc _).alloc _) ((r2.alloc _).alloc _) ((s1.alloc _).alloc _) ((s2.alloc _).alloc _)) HS.out.1).mono ?_
  rintro e w2 ⟨rfl, hb⟩
  replace hc0 := cell_keep hb hc0
  replace hc1 := cell_keep hb hc1
  replace hd0 := cell_keep hb hd0
  replace hd1 := cell_keep hb hd1
  replace hb := bt (ba (below_alloc w1 _) _) hb
  replace hW := bt hW hb; replace r1 := r1.keep hb; replace r2 := r2.keep hb; replace s1 := s1.keep hb; replace s2 := s2.keep hb; clear hb
  have hz1 : w1.heap.size < w2.heap.size := World.block_lt_of_cell? w2 _ hc0
  have hz2 : w1.heap.size + 1 < w2.heap.size := World.block_lt_of_cell? w2 _ hd0
  cases sb with
  | false =>
    cases vv
    all_goals
      go_wp2
      refine wp_region_ext (by kernel_rfl) (by kernel_rfl) ?_
      repeat (go_big_quiet_step ((first
                | (go_at_call 19; exact ext_c (cbS (sameShapeS_any _ _ _ _ l1 l2 m1 m2 _ (r1.ext _) (r2.ext _) (s1.ext _) (s2.ext _)) HS.out.2.1))
                | (go_at_call 21; exact ext_c (cbS (sameShapeI_any _ _ _ _ m1 m2 l1 l2 _ (s1.ext _) (s2.ext _) (r1.ext _) (r2.ext _)) HS.out.2.2))
                | (go_at_call 21; exact ext_c (cbS (sameShapeI_any _ _ _ _ l1 l2 l1 l2 _ (r1.ext _) (r2.ext _) (r1.ext _) (r2.ext _)) HV.out.1))
                | (go_at_call 27; exact ext_c (cbS (stateValid_any _ _ l1 l2 _ (r1.ext _) (r2.ext _)) HV.out.2)))))
      refine wpQuiet_nil ?_
      intro w3 hb
      replace hc0 := cell_keep hb hc0
      replace hc1 := cell_keep hb hc1
      replace hd0 := cell_keep hb hd0
      replace hd1 := cell_keep hb hd1
      replace hW := bt hW hb; replace r1 := r1.keep hb; replace r2 := r2.keep hb; replace s1 := s1.keep hb; replace s2 := s2.keep hb; clear hb
      replace hz1 : w1.heap.size < w3.heap.size := World.block_lt_of_cell? w3 _ hc0
      replace hz2 : w1.heap.size + 1 < w3.heap.size := World.block_lt_of_cell? w3 _ hd0
      go_wp2
      refine wp_region_ext (by kernel_rfl) (by kernel_rfl) ?_
      repeat (go_big_quiet_step ((first
                | (go_at_call 19; exact ext_c (cbS (sameShapeS_any _ _ _ _ l1 l2 m1 m2 _ (r1.ext _) (r2.ext _) (s1.ext _) (s2.ext _)) HS.out.2.1))
                | (go_at_call 21; exact ext_c (cbS (sameShapeI_any _ _ _ _ m1 m2 l1 l2 _ (s1.ext _) (s2.ext _) (r1.ext _) (r2.ext _)) HS.out.2.2))
                | (go_at_call 21; exact ext_c (cbS (sameShapeI_any _ _ _ _ l1 l2 l1 l2 _ (r1.ext _) (r2.ext _) (r1.ext _) (r2.ext _)) HV.out.1))
                | (go_at_call 27; exact ext_c (cbS (stateValid_any _ _ l1 l2 _ (r1.ext _) (r2.ext _)) HV.out.2)))))
      refine wpQuiet_nil ?_
      intro w4 hb
      replace hc0 := cell_keep hb hc0
      replace hc1 := cell_keep hb hc1
      replace hd0 := cell_keep hb hd0
      replace hd1 := cell_keep hb hd1
      replace hW := bt hW hb; replace r1 := r1.keep hb; replace r2 := r2.keep hb; replace s1 := s1.keep hb; replace s2 := s2.keep hb; clear hb
      replace hz1 : w1.heap.size < w4.heap.size := World.block_lt_of_cell? w4 _ hc0
      replace hz2 : w1.heap.size + 1 < w4.heap.size := World.block_lt_of_cell? w4 _ hd0
      go_wp2
      go_ret
      exact ⟨rfl, hW⟩
  | true =>
    obtain rfl : vv = true := by rw [← HV.out.2]; exact (shape_iff.1 HS.out.1).1
    have hi := shape_inv HS.out.1
    obtain ⟨n1, hn1⟩ : ∃ k, k = (usedL m1 m2).length := ⟨_, rfl⟩
    obtain ⟨n2, hn2⟩ : ∃ k, k = (garbageL m1 m2).length := ⟨_, rfl⟩
    obtain ⟨n3, hn3⟩ : ∃ k, k = (cycleL m1 m2).length := ⟨_, rfl⟩
    have HN := Lib.hid (And.intro (And.intro (hi.2.1.trans hn1.symm) hn1.symm) (And.intro (And.intro (hi.2.2.1.trans hn2.symm) hn2.symm) (And.intro (hi.2.2.2.trans hn3.symm) hn3.symm)))
    have HA := Lib.hid hi.1
    clear hi hn1 hn2 hn3
    go_wp2
    refine wp_region_ext (by kernel_rfl) (by kernel_rfl) ?_
    repeat (go_big_quiet_step ((first
              | (go_at_call 19; exact ext_c (cbS (sameShapeS_any _ _ _ _ l1 l2 m1 m2 _ (r1.ext _) (r2.ext _) (s1.ext _) (s2.ext _)) HS.out.2.1))
              | (go_at_call 21; exact ext_c (cbS (sameShapeI_any _ _ _ _ m1 m2 l1 l2 _ (s1.ext _) (s2.ext _) (r1.ext _) (r2.ext _)) HS.out.2.2))
              | (go_at_call 21; exact ext_c (cbS (sameShapeI_any _ _ _ _ l1 l2 l1 l2 _ (r1.ext _) (r2.ext _) (r1.ext _) (r2.ext _)) HV.out.1))
              | (go_at_call 27; exact ext_c (cbS (stateValid_any _ _ l1 l2 _ (r1.ext _) (r2.ext _)) HV.out.2)))))
    refine wpQuiet_nil ?_
    intro w3 hb
    replace hc0 := cell_keep hb hc0
    replace hc1 := cell_keep hb hc1
    replace hd0 := cell_keep hb hd0
    replace hd1 := cell_keep hb hd1
    replace hW := bt hW hb; replace r1 := r1.keep hb; replace r2 := r2.keep hb; replace s1 := s1.keep hb; replace s2 := s2.keep hb; clear hb
    replace hz1 : w1.heap.size < w3.heap.size := World.block_lt_of_cell? w3 _ hc0
    replace hz2 : w1.heap.size + 1 < w3.heap.size := World.block_lt_of_cell? w3 _ hd0

    go_wp2
    go_loopg [6] 9 (fun k i wr => ∃ j : Nat, j + k = 9 ∧ i = .int .i64 j ∧ Below w3.heap.size w3 wr)
    case atStart => exact ⟨0, by omega, rfl, Below.refl _ _⟩
    case round =>
      obtain ⟨j, hk, rfl, hb⟩ := hrel
      have HK := Lib.hid hk
      clear hk
      replace hc0 := cell_keep hb hc0
      replace hc1 := cell_keep hb hc1
      replace hd0 := cell_keep hb hd0
      replace hd1 := cell_keep hb hd1
      have q1 := r1.keep hb
      have q2 := r2.keep hb
      have p1 := s1.keep hb
      have p2 := s2.keep hb
      have hz1r : w1.heap.size < wr.heap.size := World.block_lt_of_cell? wr _ hc0
      have hz2r : w1.heap.size + 1 < wr.heap.size := World.block_lt_of_cell? wr _ hd0
      by_cases hj9 : j < 9
      · have hs := HA.out (j : Int)
        obtain ⟨L, hL⟩ : ∃ L, L = aliasL m1 m2 (j : Int) := ⟨_, rfl⟩
        rw [← hL] at hs
        have HL := Lib.hid (And.intro hs hL)
        clear hs hL
        go_wp2
        go_region_held3 (fun w' => (w'.cell? ⟨w1.heap.size, 0, none⟩ = some (.slice a1 l1.length c1) ∧ w'.cell? ⟨w1.heap.size, 1, none⟩ = some (.slice a2 l2.length c2)) ∧ (w'.cell? ⟨w1.heap.size + 1, 0, none⟩ = some (.slice a3 m1.length c3) ∧ w'.cell? ⟨w1.heap.size + 1, 1, none⟩ = some (.slice a4 m2.length c4)))
          (first
            | (have _h := gb0; exact ⟨⟨(by repeat (first | with_reducible exact gb0 | (with_reducible refine (fr_set _ _ _).cell (by first | (simp; done) | (simp; omega) | omega) ?_) | exact cell_keep (by repeat (first | exact Below.refl _ _ | with_reducible assumption | exact below_alloc _ _ | (refine Below.setCell ?_ (by first | (simp; done) | (simp; omega) | omega) _) | apply bd | apply ba | apply be)) gb0)), (by repeat (first | with_reducible exact gb1 | (with_reducible refine (fr_set _ _ _).cell (by first | (simp; done) | (simp; omega) | omega) ?_) | exact cell_keep (by repeat (first | exact Below.refl _ _ | with_reducible assumption | exact below_alloc _ _ | (refine Below.setCell ?_ (by first | (simp; done) | (simp; omega) | omega) _) | apply bd | apply ba | apply be)) gb1))⟩, ⟨(by repeat (first | with_reducible exact gb2 | (with_reducible refine (fr_set _ _ _).cell (by first | (simp; done) | (simp; omega) | omega) ?_) | exact cell_keep (by repeat (first | exact Below.refl _ _ | with_reducible assumption | exact below_alloc _ _ | (refine Below.setCell ?_ (by first | (simp; done) | (simp; omega) | omega) _) | apply bd | apply ba | apply be)) gb2)), (by repeat (first | with_reducible exact gb3 | (with_reducible refine (fr_set _ _ _).cell (by first | (simp; done) | (simp; omega) | omega) ?_) | exact cell_keep (by repeat (first | exact Below.refl _ _ | with_reducible assumption | exact below_alloc _ _ | (refine Below.setCell ?_ (by first | (simp; done) | (simp; omega) | omega) _) | apply bd | apply ba | apply be)) gb3))⟩⟩)
            | (have _h := ga0; exact ⟨⟨(by repeat (first | with_reducible exact ga0 | (with_reducible refine (fr_set _ _ _).cell (by first | (simp; done) | (simp; omega) | omega) ?_) | exact cell_keep (by repeat (first | exact Below.refl _ _ | with_reducible assumption | exact below_alloc _ _ | (refine Below.setCell ?_ (by first | (simp; done) | (simp; omega) | omega) _) | apply bd | apply ba | apply be)) ga0)), (by repeat (first | with_reducible exact ga1 | (with_reducible refine (fr_set _ _ _).cell (by first | (simp; done) | (simp; omega) | omega) ?_) | exact cell_keep (by repeat (first | exact Below.refl _ _ | with_reducible assumption | exact below_alloc _ _ | (refine Below.setCell ?_ (by first | (simp; done) | (simp; omega) | omega) _) | apply bd | apply ba | apply be)) ga1))⟩, ⟨(by repeat (first | with_reducible exact ga2 | (with_reducible refine (fr_set _ _ _).cell (by first | (simp; done) | (simp; omega) | omega) ?_) | exact cell_keep (by repeat (first | exact Below.refl _ _ | with_reducible assumption | exact below_alloc _ _ | (refine Below.setCell ?_ (by first | (simp; done) | (simp; omega) | omega) _) | apply bd | apply ba | apply be)) ga2)), (by repeat (first | with_reducible exact ga3 | (with_reducible refine (fr_set _ _ _).cell (by first | (simp; done) | (simp; omega) | omega) ?_) | exact cell_keep (by repeat (first | exact Below.refl _ _ | with_reducible assumption | exact below_alloc _ _ | (refine Below.setCell ?_ (by first | (simp; done) | (simp; omega) | omega) _) | apply bd | apply ba | apply be)) ga3))⟩⟩)
            | exact ⟨⟨(by repeat (first | with_reducible exact hc0 | (with_reducible refine (fr_set _ _ _).cell (by first | (simp; done) | (simp; omega) | omega) ?_) | exact cell_keep (by repeat (first | exact Below.refl _ _ | with_reducible assumption | exact below_alloc _ _ | (refine Below.setCell ?_ (by first | (simp; done) | (simp; omega) | omega) _) | apply bd | apply ba | apply be)) hc0)), (by repeat (first | with_reducible exact hc1 | (with_reducible refine (fr_set _ _ _).cell (by first | (simp; done) | (simp; omega) | omega) ?_) | exact cell_keep (by repeat (first | exact Below.refl _ _ | with_reducible assumption | exact below_alloc _ _ | (refine Below.setCell ?_ (by first | (simp; done) | (simp; omega) | omega) _) | apply bd | apply ba | apply be)) hc1))⟩, ⟨(by repeat (first | with_reducible exact hd0 | (with_reducible refine (fr_set _ _ _).cell (by first | (simp; done) | (simp; omega) | omega) ?_) | exact cell_keep (by repeat (first | exact Below.refl _ _ | with_reducible assumption | exact below_alloc _ _ | (refine Below.setCell ?_ (by first | (simp; done) | (simp; omega) | omega) _) | apply bd | apply ba | apply be)) hd0)), (by repeat (first | with_reducible exact hd1 | (with_reducible refine (fr_set _ _ _).cell (by first | (simp; done) | (simp; omega) | omega) ?_) | exact cell_keep (by repeat (first | exact Below.refl _ _ | with_reducible assumption | exact below_alloc _ _ | (refine Below.setCell ?_ (by first | (simp; done) | (simp; omega) | omega) _) | apply bd | apply ba | apply be)) hd1))⟩⟩)
          (first
            | (go_at_call 35; go_must (refine (slInts_any _ _ L L _ (ra.keep (by repeat (first | exact Below.refl _ _ | with_reducible assumption | exact below_alloc _ _ | (refine Below.setCell ?_ (by first | (simp; done) | (simp; omega) | omega) _) | apply bd | apply ba | apply be))) (rb.keep (by repeat (first | exact Below.refl _ _ | with_reducible assumption | exact below_alloc _ _ | (refine Below.setCell ?_ (by first | (simp; done) | (simp; omega) | omega) _) | apply bd | apply ba | apply be)))).mono ?_; rintro e x3 ⟨rfl, hq3⟩; have hp3 : Below wr.heap.size wr x3 := bt (bt hp2 (by repeat (first | exact Below.refl _ _ | with_reducible assumption | exact below_alloc _ _ | (refine Below.setCell ?_ (by first | (simp; done) | (simp; omega) | omega) _) | apply bd | apply ba | apply be))) hq3; rw [show decide (L = L) = true from by simp]))
            | (go_at_call 36; have _h := ga0; clear _h; go_must (refine (aliasTerms_any _ _ m1 m2 _ _ (p1.keep (bt hp1 (by repeat (first | exact Below.refl _ _ | with_reducible assumption | exact below_alloc _ _ | (refine Below.setCell ?_ (by first | (simp; done) | (simp; omega) | omega) _) | apply bd | apply ba | apply be)))) (p2.keep (bt hp1 (by repeat (first | exact Below.refl _ _ | with_reducible assumption | exact below_alloc _ _ | (refine Below.setCell ?_ (by first | (simp; done) | (simp; omega) | omega) _) | apply bd | apply ba | apply be))))).mono ?_; rintro e x2 ⟨y, rfl, hy, hq2⟩; rw [← HL.out.2] at hy; have rb := (own_ints hy).1; have hq2' := bt (by repeat (first | exact Below.refl _ _ | with_reducible assumption | exact below_alloc _ _ | (refine Below.setCell ?_ (by first | (simp; done) | (simp; omega) | omega) _) | apply bd | apply ba | apply be)) hq2; replace ra := ra.keep hq2'; have hp2 := bt hp1 hq2'; have gb0 := cell_keep hp2 hc0; have gb1 := cell_keep hp2 hc1; have gb2 := cell_keep hp2 hd0; have gb3 := cell_keep hp2 hd1))
            | (go_at_call 36; go_must (refine (aliasTerms_any _ _ l1 l2 _ _ (q1.keep (by repeat (first | exact Below.refl _ _ | with_reducible assumption | exact below_alloc _ _ | (refine Below.setCell ?_ (by first | (simp; done) | (simp; omega) | omega) _) | apply bd | apply ba | apply be))) (q2.keep (by repeat (first | exact Below.refl _ _ | with_reducible assumption | exact below_alloc _ _ | (refine Below.setCell ?_ (by first | (simp; done) | (simp; omega) | omega) _) | apply bd | apply ba | apply be)))).mono ?_; rintro e x1 ⟨y, rfl, hy, hq1⟩; rw [HL.out.1] at hy; have ra := (own_ints hy).1; have hp1 : Below wr.heap.size wr x1 := bt (by repeat (first | exact Below.refl _ _ | with_reducible assumption | exact below_alloc _ _ | (refine Below.setCell ?_ (by first | (simp; done) | (simp; omega) | omega) _) | apply bd | apply ba | apply be)) hq1; have ga0 := cell_keep hp1 hc0; have ga1 := cell_keep hp1 hc1; have ga2 := cell_keep hp1 hd0; have ga3 := cell_keep hp1 hd1)))
        all_goals
          go_wp2
          go_roundg (gk - 1)
          case rel => exact ⟨j + 1, by have := HK.out; omega, by go_num, bt hb hp3⟩
          case measure => have := HK.out; omega
      · have hW' := bt hW hb
        clear hW r1 r2 s1 s2 hz1 hz2
        have hW := hW'
        have r1 := q1
        have r2 := q2
        have s1 := p1
        have s2 := p2
        clear hW' q1 q2 p1 p2 hb
        go_wp2
        go_region_held3 (fun w' => (w'.cell? ⟨w1.heap.size, 0, none⟩ = some (.slice a1 l1.length c1) ∧ w'.cell? ⟨w1.heap.size, 1, none⟩ = some (.slice a2 l2.length c2)) ∧ (w'.cell? ⟨w1.heap.size + 1, 0, none⟩ = some (.slice a3 m1.length c3) ∧ w'.cell? ⟨w1.heap.size + 1, 1, none⟩ = some (.slice a4 m2.length c4)))
          (first
            | (have _h := g6c0; exact ⟨⟨(by repeat (first | with_reducible exact g6c0 | (with_reducible refine (fr_set _ _ _).cell (by first | (simp; done) | (simp; omega) | omega) ?_) | exact cell_keep (by repeat (first | exact Below.refl _ _ | with_reducible assumption | exact below_alloc _ _ | (refine Below.setCell ?_ (by first | (simp; done) | (simp; omega) | omega) _) | apply bd | apply ba | apply be)) g6c0)), (by repeat (first | with_reducible exact g6c1 | (with_reducible refine (fr_set _ _ _).cell (by first | (simp; done) | (simp; omega) | omega) ?_) | exact cell_keep (by repeat (first | exact Below.refl _ _ | with_reducible assumption | exact below_alloc _ _ | (refine Below.setCell ?_ (by first | (simp; done) | (simp; omega) | omega) _) | apply bd | apply ba | apply be)) g6c1))⟩, ⟨(by repeat (first | with_reducible exact g6d0 | (with_reducible refine (fr_set _ _ _).cell (by first | (simp; done) | (simp; omega) | omega) ?_) | exact cell_keep (by repeat (first | exact Below.refl _ _ | with_reducible assumption | exact below_alloc _ _ | (refine Below.setCell ?_ (by first | (simp; done) | (simp; omega) | omega) _) | apply bd | apply ba | apply be)) g6d0)), (by repeat (first | with_reducible exact g6d1 | (with_reducible refine (fr_set _ _ _).cell (by first | (simp; done) | (simp; omega) | omega) ?_) | exact cell_keep (by repeat (first | exact Below.refl _ _ | with_reducible assumption | exact below_alloc _ _ | (refine Below.setCell ?_ (by first | (simp; done) | (simp; omega) | omega) _) | apply bd | apply ba | apply be)) g6d1))⟩⟩)
            | (have _h := g5c0; exact ⟨⟨(by repeat (first | with_reducible exact g5c0 | (with_reducible refine (fr_set _ _ _).cell (by first | (simp; done) | (simp; omega) | omega) ?_) | exact cell_keep (by repeat (first | exact Below.refl _ _ | with_reducible assumption | exact below_alloc _ _ | (refine Below.setCell ?_ (by first | (simp; done) | (simp; omega) | omega) _) | apply bd | apply ba | apply be)) g5c0)), (by repeat (first | with_reducible exact g5c1 | (with_reducible refine (fr_set _ _ _).cell (by first | (simp; done) | (simp; omega) | omega) ?_) | exact cell_keep (by repeat (first | exact Below.refl _ _ | with_reducible assumption | exact below_alloc _ _ | (refine Below.setCell ?_ (by first | (simp; done) | (simp; omega) | omega) _) | apply bd | apply ba | apply be)) g5c1))⟩, ⟨(by repeat (first | with_reducible exact g5d0 | (with_reducible refine (fr_set _ _ _).cell (by first | (simp; done) | (simp; omega) | omega) ?_) | exact cell_keep (by repeat (first | exact Below.refl _ _ | with_reducible assumption | exact below_alloc _ _ | (refine Below.setCell ?_ (by first | (simp; done) | (simp; omega) | omega) _) | apply bd | apply ba | apply be)) g5d0)), (by repeat (first | with_reducible exact g5d1 | (with_reducible refine (fr_set _ _ _).cell (by first | (simp; done) | (simp; omega) | omega) ?_) | exact cell_keep (by repeat (first | exact Below.refl _ _ | with_reducible assumption | exact below_alloc _ _ | (refine Below.setCell ?_ (by first | (simp; done) | (simp; omega) | omega) _) | apply bd | apply ba | apply be)) g5d1))⟩⟩)
            | (have _h := g4c0; exact ⟨⟨(by repeat (first | with_reducible exact g4c0 | (with_reducible refine (fr_set _ _ _).cell (by first | (simp; done) | (simp; omega) | omega) ?_) | exact cell_keep (by repeat (first | exact Below.refl _ _ | with_reducible assumption | exact below_alloc _ _ | (refine Below.setCell ?_ (by first | (simp; done) | (simp; omega) | omega) _) | apply bd | apply ba | apply be)) g4c0)), (by repeat (first | with_reducible exact g4c1 | (with_reducible refine (fr_set _ _ _).cell (by first | (simp; done) | (simp; omega) | omega) ?_) | exact cell_keep (by repeat (first | exact Below.refl _ _ | with_reducible assumption | exact below_alloc _ _ | (refine Below.setCell ?_ (by first | (simp; done) | (simp; omega) | omega) _) | apply bd | apply ba | apply be)) g4c1))⟩, ⟨(by repeat (first | with_reducible exact g4d0 | (with_reducible refine (fr_set _ _ _).cell (by first | (simp; done) | (simp; omega) | omega) ?_) | exact cell_keep (by repeat (first | exact Below.refl _ _ | with_reducible assumption | exact below_alloc _ _ | (refine Below.setCell ?_ (by first | (simp; done) | (simp; omega) | omega) _) | apply bd | apply ba | apply be)) g4d0)), (by repeat (first | with_reducible exact g4d1 | (with_reducible refine (fr_set _ _ _).cell (by first | (simp; done) | (simp; omega) | omega) ?_) | exact cell_keep (by repeat (first | exact Below.refl _ _ | with_reducible assumption | exact below_alloc _ _ | (refine Below.setCell ?_ (by first | (simp; done) | (simp; omega) | omega) _) | apply bd | apply ba | apply be)) g4d1))⟩⟩)
            | (have _h := g3c0; exact ⟨⟨(by repeat (first | with_reducible exact g3c0 | (with_reducible refine (fr_set _ _ _).cell (by first | (simp; done) | (simp; omega) | omega) ?_) | exact cell_keep (by repeat (first | exact Below.refl _ _ | with_reducible assumption | exact below_alloc _ _ | (refine Below.setCell ?_ (by first | (simp; done) | (simp; omega) | omega) _) | apply bd | apply ba | apply be)) g3c0)), (by repeat (first | with_reducible exact g3c1 | (with_reducible refine (fr_set _ _ _).cell (by first | (simp; done) | (simp; omega) | omega) ?_) | exact cell_keep (by repeat (first | exact Below.refl _ _ | with_reducible assumption | exact below_alloc _ _ | (refine Below.setCell ?_ (by first | (simp; done) | (simp; omega) | omega) _) | apply bd | apply ba | apply be)) g3c1))⟩, ⟨(by repeat (first | with_reducible exact g3d0 | (with_reducible refine (fr_set _ _ _).cell (by first | (simp; done) | (simp; omega) | omega) ?_) | exact cell_keep (by repeat (first | exact Below.refl _ _ | with_reducible assumption | exact below_alloc _ _ | (refine Below.setCell ?_ (by first | (simp; done) | (simp; omega) | omega) _) | apply bd | apply ba | apply be)) g3d0)), (by repeat (first | with_reducible exact g3d1 | (with_reducible refine (fr_set _ _ _).cell (by first | (simp; done) | (simp; omega) | omega) ?_) | exact cell_keep (by repeat (first | exact Below.refl _ _ | with_reducible assumption | exact below_alloc _ _ | (refine Below.setCell ?_ (by first | (simp; done) | (simp; omega) | omega) _) | apply bd | apply ba | apply be)) g3d1))⟩⟩)
            | (have _h := g2c0; exact ⟨⟨(by repeat (first | with_reducible exact g2c0 | (with_reducible refine (fr_set _ _ _).cell (by first | (simp; done) | (simp; omega) | omega) ?_) | exact cell_keep (by repeat (first | exact Below.refl _ _ | with_reducible assumption | exact below_alloc _ _ | (refine Below.setCell ?_ (by first | (simp; done) | (simp; omega) | omega) _) | apply bd | apply ba | apply be)) g2c0)), (by repeat (first | with_reducible exact g2c1 | (with_reducible refine (fr_set _ _ _).cell (by first | (simp; done) | (simp; omega) | omega) ?_) | exact cell_keep (by repeat (first | exact Below.refl _ _ | with_reducible assumption | exact below_alloc _ _ | (refine Below.setCell ?_ (by first | (simp; done) | (simp; omega) | omega) _) | apply bd | apply ba | apply be)) g2c1))⟩, ⟨(by repeat (first | with_reducible exact g2d0 | (with_reducible refine (fr_set _ _ _).cell (by first | (simp; done) | (simp; omega) | omega) ?_) | exact cell_keep (by repeat (first | exact Below.refl _ _ | with_reducible assumption | exact below_alloc _ _ | (refine Below.setCell ?_ (by first | (simp; done) | (simp; omega) | omega) _) | apply bd | apply ba | apply be)) g2d0)), (by repeat (first | with_reducible exact g2d1 | (with_reducible refine (fr_set _ _ _).cell (by first | (simp; done) | (simp; omega) | omega) ?_) | exact cell_keep (by repeat (first | exact Below.refl _ _ | with_reducible assumption | exact below_alloc _ _ | (refine Below.setCell ?_ (by first | (simp; done) | (simp; omega) | omega) _) | apply bd | apply ba | apply be)) g2d1))⟩⟩)
            | (have _h := g1c0; exact ⟨⟨(by repeat (first | with_reducible exact g1c0 | (with_reducible refine (fr_set _ _ _).cell (by first | (simp; done) | (simp; omega) | omega) ?_) | exact cell_keep (by repeat (first | exact Below.refl _ _ | with_reducible assumption | exact below_alloc _ _ | (refine Below.setCell ?_ (by first | (simp; done) | (simp; omega) | omega) _) | apply bd | apply ba | apply be)) g1c0)), (by repeat (first | with_reducible exact g1c1 | (with_reducible refine (fr_set _ _ _).cell (by first | (simp; done) | (simp; omega) | omega) ?_) | exact cell_keep (by repeat (first | exact Below.refl _ _ | with_reducible assumption | exact below_alloc _ _ | (refine Below.setCell ?_ (by first | (simp; done) | (simp; omega) | omega) _) | apply bd | apply ba | apply be)) g1c1))⟩, ⟨(by repeat (first | with_reducible exact g1d0 | (with_reducible refine (fr_set _ _ _).cell (by first | (simp; done) | (simp; omega) | omega) ?_) | exact cell_keep (by repeat (first | exact Below.refl _ _ | with_reducible assumption | exact below_alloc _ _ | (refine Below.setCell ?_ (by first | (simp; done) | (simp; omega) | omega) _) | apply bd | apply ba | apply be)) g1d0)), (by repeat (first | with_reducible exact g1d1 | (with_reducible refine (fr_set _ _ _).cell (by first | (simp; done) | (simp; omega) | omega) ?_) | exact cell_keep (by repeat (first | exact Below.refl _ _ | with_reducible assumption | exact below_alloc _ _ | (refine Below.setCell ?_ (by first | (simp; done) | (simp; omega) | omega) _) | apply bd | apply ba | apply be)) g1d1))⟩⟩)
            | exact ⟨⟨(by repeat (first | with_reducible exact hc0 | (with_reducible refine (fr_set _ _ _).cell (by first | (simp; done) | (simp; omega) | omega) ?_) | exact cell_keep (by repeat (first | exact Below.refl _ _ | with_reducible assumption | exact below_alloc _ _ | (refine Below.setCell ?_ (by first | (simp; done) | (simp; omega) | omega) _) | apply bd | apply ba | apply be)) hc0)), (by repeat (first | with_reducible exact hc1 | (with_reducible refine (fr_set _ _ _).cell (by first | (simp; done) | (simp; omega) | omega) ?_) | exact cell_keep (by repeat (first | exact Below.refl _ _ | with_reducible assumption | exact below_alloc _ _ | (refine Below.setCell ?_ (by first | (simp; done) | (simp; omega) | omega) _) | apply bd | apply ba | apply be)) hc1))⟩, ⟨(by repeat (first | with_reducible exact hd0 | (with_reducible refine (fr_set _ _ _).cell (by first | (simp; done) | (simp; omega) | omega) ?_) | exact cell_keep (by repeat (first | exact Below.refl _ _ | with_reducible assumption | exact below_alloc _ _ | (refine Below.setCell ?_ (by first | (simp; done) | (simp; omega) | omega) _) | apply bd | apply ba | apply be)) hd0)), (by repeat (first | with_reducible exact hd1 | (with_reducible refine (fr_set _ _ _).cell (by first | (simp; done) | (simp; omega) | omega) ?_) | exact cell_keep (by repeat (first | exact Below.refl _ _ | with_reducible assumption | exact below_alloc _ _ | (refine Below.setCell ?_ (by first | (simp; done) | (simp; omega) | omega) _) | apply bd | apply ba | apply be)) hd1))⟩⟩)
          (first
            | (go_at_call 39; have _h := g5c0; clear _h; go_must (refine (len_of (cycleCells_any _ _ m1 m2 _ (s1.keep (by repeat (first | exact Below.refl _ _ | with_reducible assumption | exact below_alloc _ _ | (refine Below.setCell ?_ (by first | (simp; done) | (simp; omega) | omega) _) | apply bd | apply ba | apply be))) (s2.keep (by repeat (first | exact Below.refl _ _ | with_reducible assumption | exact below_alloc _ _ | (refine Below.setCell ?_ (by first | (simp; done) | (simp; omega) | omega) _) | apply bd | apply ba | apply be)))) HN.out.2.2.2).mono ?_; rintro e x6 ⟨ya6, yc6, rfl, hq6⟩; have hp6 : Below wr.heap.size wr x6 := bt (by repeat (first | exact Below.refl _ _ | with_reducible assumption | exact below_alloc _ _ | (refine Below.setCell ?_ (by first | (simp; done) | (simp; omega) | omega) _) | apply bd | apply ba | apply be)) hq6; have g6c0 := cell_keep hp6 hc0; have g6c1 := cell_keep hp6 hc1; have g6d0 := cell_keep hp6 hd0; have g6d1 := cell_keep hp6 hd1))
            | (go_at_call 39; have _h := g4c0; clear _h; go_must (refine (len_of (cycleCells_any _ _ l1 l2 _ (r1.keep (by repeat (first | exact Below.refl _ _ | with_reducible assumption | exact below_alloc _ _ | (refine Below.setCell ?_ (by first | (simp; done) | (simp; omega) | omega) _) | apply bd | apply ba | apply be))) (r2.keep (by repeat (first | exact Below.refl _ _ | with_reducible assumption | exact below_alloc _ _ | (refine Below.setCell ?_ (by first | (simp; done) | (simp; omega) | omega) _) | apply bd | apply ba | apply be)))) HN.out.2.2.1).mono ?_; rintro e x5 ⟨ya5, yc5, rfl, hq5⟩; have hp5 : Below wr.heap.size wr x5 := bt (by repeat (first | exact Below.refl _ _ | with_reducible assumption | exact below_alloc _ _ | (refine Below.setCell ?_ (by first | (simp; done) | (simp; omega) | omega) _) | apply bd | apply ba | apply be)) hq5; have g5c0 := cell_keep hp5 hc0; have g5c1 := cell_keep hp5 hc1; have g5d0 := cell_keep hp5 hd0; have g5d1 := cell_keep hp5 hd1))
            | (go_at_call 38; have _h := g3c0; clear _h; go_must (refine (len_of (garbageCells_any _ _ m1 m2 _ (s1.keep (by repeat (first | exact Below.refl _ _ | with_reducible assumption | exact below_alloc _ _ | (refine Below.setCell ?_ (by first | (simp; done) | (simp; omega) | omega) _) | apply bd | apply ba | apply be))) (s2.keep (by repeat (first | exact Below.refl _ _ | with_reducible assumption | exact below_alloc _ _ | (refine Below.setCell ?_ (by first | (simp; done) | (simp; omega) | omega) _) | apply bd | apply ba | apply be)))) HN.out.2.1.2).mono ?_; rintro e x4 ⟨ya4, yc4, rfl, hq4⟩; have hp4 : Below wr.heap.size wr x4 := bt (by repeat (first | exact Below.refl _ _ | with_reducible assumption | exact below_alloc _ _ | (refine Below.setCell ?_ (by first | (simp; done) | (simp; omega) | omega) _) | apply bd | apply ba | apply be)) hq4; have g4c0 := cell_keep hp4 hc0; have g4c1 := cell_keep hp4 hc1; have g4d0 := cell_keep hp4 hd0; have g4d1 := cell_keep hp4 hd1))
            | (go_at_call 38; have _h := g2c0; clear _h; go_must (refine (len_of (garbageCells_any _ _ l1 l2 _ (r1.keep (by repeat (first | exact Below.refl _ _ | with_reducible assumption | exact below_alloc _ _ | (refine Below.setCell ?_ (by first | (simp; done) | (simp; omega) | omega) _) | apply bd | apply ba | apply be))) (r2.keep (by repeat (first | exact Below.refl _ _ | with_reducible assumption | exact below_alloc _ _ | (refine Below.setCell ?_ (by first | (simp; done) | (simp; omega) | omega) _) | apply bd | apply ba | apply be)))) HN.out.2.1.1).mono ?_; rintro e x3 ⟨ya3, yc3, rfl, hq3⟩; have hp3 : Below wr.heap.size wr x3 := bt (by repeat (first | exact Below.refl _ _ | with_reducible assumption | exact below_alloc _ _ | (refine Below.setCell ?_ (by first | (simp; done) | (simp; omega) | omega) _) | apply bd | apply ba | apply be)) hq3; have g3c0 := cell_keep hp3 hc0; have g3c1 := cell_keep hp3 hc1; have g3d0 := cell_keep hp3 hd0; have g3d1 := cell_keep hp3 hd1))
            | (go_at_call 37; have _h := g1c0; clear _h; go_must (refine (len_of (usedCells_any _ _ m1 m2 _ (s1.keep (by repeat (first | exact Below.refl _ _ | with_reducible assumption | exact below_alloc _ _ | (refine Below.setCell ?_ (by first | (simp; done) | (simp; omega) | omega) _) | apply bd | apply ba | apply be))) (s2.keep (by repeat (first | exact Below.refl _ _ | with_reducible assumption | exact below_alloc _ _ | (refine Below.setCell ?_ (by first | (simp; done) | (simp; omega) | omega) _) | apply bd | apply ba | apply be)))) HN.out.1.2).mono ?_; rintro e x2 ⟨ya2, yc2, rfl, hq2⟩; have hp2 : Below wr.heap.size wr x2 := bt (by repeat (first | exact Below.refl _ _ | with_reducible assumption | exact below_alloc _ _ | (refine Below.setCell ?_ (by first | (simp; done) | (simp; omega) | omega) _) | apply bd | apply ba | apply be)) hq2; have g2c0 := cell_keep hp2 hc0; have g2c1 := cell_keep hp2 hc1; have g2d0 := cell_keep hp2 hd0; have g2d1 := cell_keep hp2 hd1))
            | (go_at_call 37; go_must (refine (len_of (usedCells_any _ _ l1 l2 _ (r1.keep (by repeat (first | exact Below.refl _ _ | with_reducible assumption | exact below_alloc _ _ | (refine Below.setCell ?_ (by first | (simp; done) | (simp; omega) | omega) _) | apply bd | apply ba | apply be))) (r2.keep (by repeat (first | exact Below.refl _ _ | with_reducible assumption | exact below_alloc _ _ | (refine Below.setCell ?_ (by first | (simp; done) | (simp; omega) | omega) _) | apply bd | apply ba | apply be)))) HN.out.1.1).mono ?_; rintro e x1 ⟨ya1, yc1, rfl, hq1⟩; have hp1 : Below wr.heap.size wr x1 := bt (by repeat (first | exact Below.refl _ _ | with_reducible assumption | exact below_alloc _ _ | (refine Below.setCell ?_ (by first | (simp; done) | (simp; omega) | omega) _) | apply bd | apply ba | apply be)) hq1; have g1c0 := cell_keep hp1 hc0; have g1c1 := cell_keep hp1 hc1; have g1d0 := cell_keep hp1 hd0; have g1d1 := cell_keep hp1 hd1)))
        all_goals
          go_wp2
          go_ret
          exact ⟨by simp, bt hW hp6⟩
end Go.Proofs.Ytnhhfbhhglhocaa
