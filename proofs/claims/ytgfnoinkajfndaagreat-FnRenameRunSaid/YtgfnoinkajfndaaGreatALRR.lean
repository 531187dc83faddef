/- The walk of the law FnRenameRun. -/
import Derived.Test.YtgfnoinkajfndaaGreatADRun
import Derived.Test.YtgfnoinkajfndaaGreatAMacU
import Derived.Test.YtgfnoinkajfndaaGreatANews
import Derived.Test.YtgfnoinkajfndaaGreatAHRen
import Derived.Handy
import Derived.Deep.DeepMust
set_option linter.unusedVariables false
set_option linter.unusedSimpArgs false
namespace Go.Proofs.YtgfnoinkajfndaaGreat
open Go.RowKit

/-- Running commutes with renaming. -/
theorem runP_ren {ns : List Int} {d : Nat} {s : St} {l : List (Cm d)} {f : Int} (hs : okSt s) (hg : goodTo ns 8 = true) (hn : newsB d l = false) : runP (renSt ns s) l f = ((runP s l f).1, renSt ns (runP s l f).2) := by
  have hv : validB s.1 s.2 = true := hs
  have hv2 : validB (renSt ns s).1 (renSt ns s).2 = true := ren_valid hg hs
  have e : fitsB (renSt ns s) l f = fitsB s l f := by rw [fitsB, fitsB, hv, hv2]
  rw [runP, runP, e]
  by_cases hf : fitsB s l f = true
  · rw [if_pos hf, if_pos hf]
    simp only [fitsB, Bool.and_eq_true] at hf
    rw [run_ren hg d l 4 s f.toNat (progOk_iff hf.2.1).1 hn hs]
  · rw [if_neg hf, if_neg hf]
theorem runP_ok {d : Nat} {s : St} {l : List (Cm d)} {f : Int} (h : (runP s l f).1 = 0) : okSt (runP s l f).2 := by
  rw [runP] at h ⊢
  split at h
  · rename_i hf
    rw [if_pos hf]
    simp only [fitsB, Bool.and_eq_true] at hf
    exact run_ok d l 4 s f.toNat (progOk_iff hf.2.1).1 hf.1
  · exact absurd h (show ¬ (4 : Int) = 0 by decide)
theorem stSame_eq (v1 v2 u1 u2 : Value) (l1 l2 m1 m2 : List Int) (b : Bool) (w : World) (h1 : RInts w v1 l1) (h2 : RInts w v2 l2) (k1 : RInts w u1 m1) (k2 : RInts w u2 m2) (hb : (decide (l1 = m1) && decide (l2 = m2)) = b) :
    Calls Tryz.prog 10 #[.agg #[v1, v2], .agg #[u1, u2]] w fun e w' => e = .returned (.bool b) ∧ Below w.heap.size w w' := by
  rw [← hb]; exact stateSame_any v1 v2 u1 u2 l1 l2 m1 m2 w h1 h2 k1 k2
set_option maxRecDepth 100000 in
set_option maxHeartbeats 12800000 in
theorem fnRenameRun_walk (v v' : Value) (n n' : Nat) (w : World) (h : RBytes w v n) (h' : RBytes w v' n') :
    Calls Tryz.prog 3 #[v, v'] w fun e w' => e = .returned (.bool true) ∧ Below w.heap.size w w' := by
  obtain ⟨a, cap, rfl⟩ := bytes_form h
  obtain ⟨a', cap', rfl⟩ := bytes_form h'
  by_cases hn : n ≤ 1048576
  rotate_left
  · go_enter Tryz.func3, Tryz.ntmps3
    go_wp2
    go_ret
    exact ⟨rfl, Below.refl _ _⟩
  by_cases hn' : n' ≤ 1048576
  rotate_left
  · go_enter Tryz.func3, Tryz.ntmps3
    go_wp2
    go_ret
    exact ⟨rfl, Below.refl _ _⟩
  go_enter Tryz.func3, Tryz.ntmps3
  go_wp2_with fail
  refine (specDrawRun_any _ n _ h).mono ?_
  rintro e w1 ⟨u1, u2, l1, l2, d, vp, p, f, rfl, hll, ⟨r1, r2⟩, ⟨hd, hp, hsz⟩, hf, hW⟩
  obtain ⟨a1, c1, rfl⟩ := r1.form
  obtain ⟨a2, c2, rfl⟩ := r2.form
  obtain ⟨pa, pc, rfl⟩ := hp.form
  have hbS := below_alloc w1 (.cells #[.slice a1 l1.length c1, .slice a2 l2.length c2] 25)
  have HS := Lib.hid (And.intro (And.intro (r1.keep hbS) (r2.keep hbS)) (And.intro (hp.keep hbS) (And.intro (bt hW hbS) (And.intro hd hsz))))
  have hS := heap_alloc_new w1 (.cells #[.slice a1 l1.length c1, .slice a2 l2.length c2] 25)
  have HBS := Lib.hid hS
  have hzS : (w1.alloc (.cells #[.slice a1 l1.length c1, .slice a2 l2.length c2] 25)).heap.size = w1.heap.size + 1 := by simp
  have h'2 := h'.keep (bt hW hbS)
  clear hll r1 r2 hd hp hsz hf hbS hS hW h h'
  go_wp2_with fail
  refine (specDrawRenameState_any _ n' _ h'2).mono ?_
  rintro e w2 ⟨t1, t2, m1, m2, nb, nl, rfl, hm1, hm2, hl8, q1, q2, q3, hb2⟩
  obtain ⟨e1, e2, rfl⟩ := q1.form
  obtain ⟨e3, e4, rfl⟩ := q2.form
  have hbT := below_alloc w2 (.cells #[.slice e1 m1.length e2, .slice e3 m2.length e4] 25)
  have hb2' := bt hb2 hbT
  have hz2 := hb2.size
  rw [hzS] at hz2
  have H2 := Lib.hid (And.intro (And.intro (HS.out.1.1.keep hb2') (HS.out.1.2.keep hb2')) (And.intro (HS.out.2.1.keep hb2') (And.intro (bt HS.out.2.2.1 hb2') (And.intro (q3.keep hbT) (box_keep HBS.out hb2')))))
  have p0 := box0 H2.out.2.2.2.2
  have p1 := box1 H2.out.2.2.2.2
  have hzT : (w2.alloc (.cells #[.slice e1 m1.length e2, .slice e3 m2.length e4] 25)).heap.size = w2.heap.size + 1 := by simp
  have hz2b : w1.heap.size < w2.heap.size := by omega
  have c0 := box0 (box_keep HBS.out hb2)
  have c1' := box1 (box_keep HBS.out hb2)
  clear hm1 hm2 hl8 q1 q2 q3 hb2 hbT hb2' h'2
  obtain ⟨rr, hrr⟩ : ∃ rr, runP (l1, l2) p f = rr := ⟨_, rfl⟩
  have HRR := Lib.hid hrr
  obtain ⟨K, s2⟩ := rr
  clear hrr
  have kk : (K == K) = true := by simp
  go_wp2_with fail
  refine (runI_any d _ _ _ p (l1, l2) f _ H2.out.2.1 H2.out.1.1 H2.out.1.2 (by have := HS.out.2.2.2.1; omega)).mono ?_
  rw [HRR.out]
  rintro e w3 ⟨x1, x2, rfl, ⟨hx1, hx2⟩, hb3⟩
  obtain ⟨xa1, xc1, rfl⟩ := hx1.form
  obtain ⟨xa2, xc2, rfl⟩ := hx2.form
  have hz3 := hb3.size
  rw [hzT] at hz3
  have hbN3 := below_alloc w3 (.cells #[.slice xa1 (oS (K, s2)).1.length xc1, .slice xa2 (oS (K, s2)).2.length xc2] 25)
  have hbM3 := bt hb3 hbN3
  have hN3 := heap_alloc_new w3 (.cells #[.slice xa1 (oS (K, s2)).1.length xc1, .slice xa2 (oS (K, s2)).2.length xc2] 25)
  have H3 := Lib.hid (And.intro (And.intro (H2.out.1.1.keep hbM3) (H2.out.1.2.keep hbM3)) (And.intro (H2.out.2.1.keep hbM3) (And.intro (bt H2.out.2.2.1 hbM3) (And.intro (H2.out.2.2.2.1.keep hbM3) (box_keep H2.out.2.2.2.2 hbM3)))))
  have HX3 := Lib.hid (And.intro hN3 (And.intro (hx1.keep hbN3) (hx2.keep hbN3)))
  replace c0 := box0 (box_keep H2.out.2.2.2.2 hb3)
  replace c1' := box1 (box_keep H2.out.2.2.2.2 hb3)
  replace p0 := box0 H3.out.2.2.2.2
  replace p1 := box1 H3.out.2.2.2.2
  have hz3b : w1.heap.size < w3.heap.size := by omega
  have hzN3 : (w3.alloc (.cells #[.slice xa1 (oS (K, s2)).1.length xc1, .slice xa2 (oS (K, s2)).2.length xc2] 25)).heap.size = w3.heap.size + 1 := by simp
  clear hx1 hx2 hb3 hbN3 hbM3 hN3
  go_wp2_with fail
  refine (specRun_any d _ _ _ p (l1, l2) f _ H3.out.2.1 H3.out.1.1 H3.out.1.2 HS.out.2.2.2.2 (by have := HS.out.2.2.2.1; omega)).mono ?_
  rw [HRR.out]
  rintro e w4 ⟨y1, y2, rfl, ⟨hy1, hy2⟩, hb4⟩
  obtain ⟨ya1, yc1, rfl⟩ := hy1.form
  obtain ⟨ya2, yc2, rfl⟩ := hy2.form
  have hz4 := hb4.size
  rw [hzN3] at hz4
  have hbN4 := below_alloc w4 (.cells #[.slice ya1 (oS (K, s2)).1.length yc1, .slice ya2 (oS (K, s2)).2.length yc2] 25)
  have hbM4 := bt hb4 hbN4
  have hN4 := heap_alloc_new w4 (.cells #[.slice ya1 (oS (K, s2)).1.length yc1, .slice ya2 (oS (K, s2)).2.length yc2] 25)
  have H4 := Lib.hid (And.intro (And.intro (H3.out.1.1.keep hbM4) (H3.out.1.2.keep hbM4)) (And.intro (H3.out.2.1.keep hbM4) (And.intro (bt H3.out.2.2.1 hbM4) (And.intro (H3.out.2.2.2.1.keep hbM4) (box_keep H3.out.2.2.2.2 hbM4)))))
  have HX4 := Lib.hid (And.intro (box_keep HX3.out.1 hbM4) (And.intro (HX3.out.2.1.keep hbM4) (HX3.out.2.2.keep hbM4)))
  have HY4 := Lib.hid (And.intro hN4 (And.intro (hy1.keep hbN4) (hy2.keep hbN4)))
  replace c0 := box0 (box_keep H3.out.2.2.2.2 hb4)
  replace c1' := box1 (box_keep H3.out.2.2.2.2 hb4)
  replace p0 := box0 H4.out.2.2.2.2
  replace p1 := box1 H4.out.2.2.2.2
  have hz4b : w1.heap.size < w4.heap.size := by omega
  have hz4c : w3.heap.size < w4.heap.size := by omega
  have hzN4 : (w4.alloc (.cells #[.slice ya1 (oS (K, s2)).1.length yc1, .slice ya2 (oS (K, s2)).2.length yc2] 25)).heap.size = w4.heap.size + 1 := by simp
  clear hy1 hy2 hb4 hbN4 hbM4 hN4
  go_wp2_with fail
  refine (renameStateI_any _ _ _ l1 l2 nl _ H4.out.1.1 H4.out.1.2 H4.out.2.2.2.1).mono ?_
  rintro e w5 ⟨v1, v2, rfl, hst, hb5⟩
  obtain ⟨ok, hok⟩ : ∃ ok, renOk l1 l2 nl = ok := ⟨_, rfl⟩
  obtain ⟨V1, hV1⟩ : ∃ X, renSV l1 l2 nl = X := ⟨_, rfl⟩
  obtain ⟨V2, hV2⟩ : ∃ X, renSH l1 l2 nl = X := ⟨_, rfl⟩
  rw [hV1, hV2] at hst
  rw [hok]
  have HV := Lib.hid (And.intro hok (And.intro hV1 hV2))
  obtain ⟨va1, vc1, rfl⟩ := (own_ints hst.one).1.form
  obtain ⟨va2, vc2, rfl⟩ := (own_ints hst.two).1.form
  have hz5 := hb5.size
  rw [hzN4] at hz5
  have hbN5 := below_alloc w5 (.cells #[.slice va1 V1.length vc1, .slice va2 V2.length vc2] 25)
  have hbM5 := bt hb5 hbN5
  have hN5 := heap_alloc_new w5 (.cells #[.slice va1 V1.length vc1, .slice va2 V2.length vc2] 25)
  have H5 := Lib.hid (And.intro (H4.out.2.1.keep hbM5) (And.intro (bt H4.out.2.2.1 hbM5) (H4.out.2.2.2.1.keep hbM5)))
  have HX5 := Lib.hid (And.intro (box_keep HX4.out.1 hbM5) (And.intro (HX4.out.2.1.keep hbM5) (HX4.out.2.2.keep hbM5)))
  have HY5 := Lib.hid (And.intro (box_keep HY4.out.1 hbM5) (And.intro (HY4.out.2.1.keep hbM5) (HY4.out.2.2.keep hbM5)))
  have HV5 := Lib.hid (And.intro hN5 (And.intro ((own_ints hst.one).1.keep hbN5) ((own_ints hst.two).1.keep hbN5)))
  replace c0 := box0 (box_keep HX4.out.1 hb5)
  replace c1' := box1 (box_keep HX4.out.1 hb5)
  have d0 := box0 (box_keep HY4.out.1 hb5)
  have d1 := box1 (box_keep HY4.out.1 hb5)
  replace p0 := box0 HX5.out.1
  replace p1 := box1 HX5.out.1
  have s0 := box0 HY5.out.1
  have s1 := box1 HY5.out.1
  have hz5b : w3.heap.size < w5.heap.size := by omega
  have hz5c : w4.heap.size < w5.heap.size := by omega
  have hzN5 : (w5.alloc (.cells #[.slice va1 V1.length vc1, .slice va2 V2.length vc2] 25)).heap.size = w5.heap.size + 1 := by simp
  clear hst hb5 hbN5 hbM5 hN5 hok hV1 hV2
  go_wp2_with fail
  refine (stSame_eq _ _ _ _ _ _ _ _ true _ HX5.out.2.1 HX5.out.2.2 HY5.out.2.1 HY5.out.2.2 (by simp)).mono ?_
  rintro e w6 ⟨rfl, hb6⟩
  have hz6 := hb6.size
  rw [hzN5] at hz6
  have H6 := Lib.hid (And.intro (H5.out.1.keep hb6) (And.intro (bt H5.out.2.1 hb6) (H5.out.2.2.keep hb6)))
  have HX6 := Lib.hid (And.intro (box_keep HX5.out.1 hb6) (And.intro (HX5.out.2.1.keep hb6) (HX5.out.2.2.keep hb6)))
  have HY6 := Lib.hid (And.intro (box_keep HY5.out.1 hb6) (And.intro (HY5.out.2.1.keep hb6) (HY5.out.2.2.keep hb6)))
  have HV6 := Lib.hid (And.intro (box_keep HV5.out.1 hb6) (And.intro (HV5.out.2.1.keep hb6) (HV5.out.2.2.keep hb6)))
  replace c0 := box0 HX6.out.1
  replace c1' := box1 HX6.out.1
  replace d0 := box0 HY6.out.1
  replace d1 := box1 HY6.out.1
  clear hb6 p0 p1 s0 s1
  -- the end where nothing more is asked
  have END := fun (W : World) (hb : Below w6.heap.size w6 W) => And.intro (stSame_eq _ _ _ _ _ _ _ _ true W (HX6.out.2.1.keep hb) (HX6.out.2.2.keep hb) (HY6.out.2.1.keep hb) (HY6.out.2.2.keep hb) (by simp)) (And.intro (box_keep HX6.out.1 hb) (box_keep HY6.out.1 hb))
  have HEND := Lib.hid END
  clear END
  cases ok with
  | false =>
    go_wp2_with fail
    refine (HEND.out _ (Below.refl _ _)).1.mono ?_
    rintro e w7 ⟨rfl, hb7⟩
    have HB7 := Lib.hid (bt H6.out.2.1 hb7)
    go_wp2
    go_ret
    exact ⟨rfl, HB7.out⟩
  | true =>
    go_wp2_with fail
    refine (slNews_any d _ p _ H6.out.1).mono ?_
    rintro e w7 ⟨rfl, hb7⟩
    have hz7 := hb7.size
    obtain ⟨hE, hEx, hEy⟩ := HEND.out _ hb7
    have HE := Lib.hid (And.intro hE (bt H6.out.2.1 hb7))
    replace c0 := box0 hEx
    replace c1' := box1 hEx
    replace d0 := box0 hEy
    replace d1 := box1 hEy
    clear hE
    cases en : newsB d p with
    | true =>
      clear en
      go_wp2_with fail
      refine HE.out.1.mono ?_
      rintro e w8 ⟨rfl, hb8⟩
      have HB8 := Lib.hid (bt HE.out.2 hb8)
      go_wp2
      go_ret
      exact ⟨rfl, HB8.out⟩
    | false =>
      have hv : validB l1 l2 = true ∧ namesB nl = true := by
        have h := HV.out.1
        simpa only [renOk, Bool.and_eq_true] using h
      have hg := (names_len hv.2).2
      have hren : V1 = renV nl l1 ∧ V2 = renH nl l2 := by
        have h1 := HV.out.2.1
        have h2 := HV.out.2.2
        rw [renSV, if_pos HV.out.1] at h1
        rw [renSH, if_pos HV.out.1] at h2
        exact ⟨h1.symm, h2.symm⟩
      have hrun : runP (V1, V2) p f = (K, renSt nl s2) := by
        have h := runP_ren (s := (l1, l2)) (l := p) (f := f) hv.1 hg en
        rw [HRR.out] at h
        rw [hren.1, hren.2]; exact h
      have hs2 : K = 0 → okSt s2 := fun hk => by
        have h := runP_ok (s := (l1, l2)) (l := p) (f := f) (by rw [HRR.out]; exact hk)
        rwa [HRR.out] at h
      have HL := Lib.hid (And.intro hrun (And.intro hs2 (And.intro hg hv.2)))
      have H7 := Lib.hid (And.intro (H6.out.1.keep hb7) (And.intro (bt H6.out.2.1 hb7) (H6.out.2.2.keep hb7)))
      have HX7 := Lib.hid (And.intro hEx (And.intro (HX6.out.2.1.keep hb7) (HX6.out.2.2.keep hb7)))
      have HV7 := Lib.hid (And.intro (box_keep HV6.out.1 hb7) (And.intro (HV6.out.2.1.keep hb7) (HV6.out.2.2.keep hb7)))
      have v0 := box0 HV7.out.1
      have v1 := box1 HV7.out.1
      clear hv hg hren hrun hs2 en hb7 hEx hEy d0 d1
      go_wp2_with fail
      refine (runI_any d _ _ _ p (V1, V2) f _ H7.out.1 HV7.out.2.1 HV7.out.2.2 (by have := HS.out.2.2.2.1; omega)).mono ?_
      rw [HL.out.1]
      rintro e w8 ⟨g1, g2, rfl, ⟨hg1, hg2⟩, hb8⟩
      obtain ⟨ga1, gc1, rfl⟩ := hg1.form
      obtain ⟨ga2, gc2, rfl⟩ := hg2.form
      obtain ⟨Z1, hZ1⟩ : ∃ X, (oS (K, renSt nl s2)).1 = X := ⟨_, rfl⟩
      obtain ⟨Z2, hZ2⟩ : ∃ X, (oS (K, renSt nl s2)).2 = X := ⟨_, rfl⟩
      obtain ⟨X1, hX1⟩ : ∃ X, (oS (K, s2)).1 = X := ⟨_, rfl⟩
      obtain ⟨X2, hX2⟩ : ∃ X, (oS (K, s2)).2 = X := ⟨_, rfl⟩
      rw [hZ1] at hg1
      rw [hZ2] at hg2
      rw [hX1, hX2] at HX7
      rw [hX1] at c0
      rw [hX2] at c1'
      rw [hZ1, hZ2]
      have HO := Lib.hid (And.intro (And.intro hZ1 hZ2) (And.intro hX1 hX2))
      have hz8 := hb8.size
      have hbN8 := below_alloc w8 (.cells #[.slice ga1 Z1.length gc1, .slice ga2 Z2.length gc2] 25)
      have hbM8 := bt hb8 hbN8
      have hN8 := heap_alloc_new w8 (.cells #[.slice ga1 Z1.length gc1, .slice ga2 Z2.length gc2] 25)
      have H8 := Lib.hid (And.intro (bt H7.out.2.1 hbM8) (H7.out.2.2.keep hbM8))
      have HX8 := Lib.hid (And.intro (box_keep HX7.out.1 hbM8) (And.intro (HX7.out.2.1.keep hbM8) (HX7.out.2.2.keep hbM8)))
      have HZ8 := Lib.hid (And.intro hN8 (And.intro (hg1.keep hbN8) (hg2.keep hbN8)))
      replace c0 := box0 (box_keep HX7.out.1 hb8)
      replace c1' := box1 (box_keep HX7.out.1 hb8)
      have p0 := box0 HX8.out.1
      have p1 := box1 HX8.out.1
      have hz8b : w3.heap.size < w8.heap.size := by omega
      have hzN8 : (w8.alloc (.cells #[.slice ga1 Z1.length gc1, .slice ga2 Z2.length gc2] 25)).heap.size = w8.heap.size + 1 := by simp
      clear hg1 hg2 hb8 hbN8 hbM8 hN8 hZ1 hZ2 hX1 hX2 v0 v1
      go_wp2_with fail
      refine (renameStateI_any _ _ _ X1 X2 nl _ HX8.out.2.1 HX8.out.2.2 H8.out.2).mono ?_
      rintro e w9 ⟨k1, k2, rfl, hst9, hb9⟩
      obtain ⟨fi, hfi⟩ : ∃ b, renOk X1 X2 nl = b := ⟨_, rfl⟩
      obtain ⟨Y1, hY1⟩ : ∃ X, renSV X1 X2 nl = X := ⟨_, rfl⟩
      obtain ⟨Y2, hY2⟩ : ∃ X, renSH X1 X2 nl = X := ⟨_, rfl⟩
      rw [hY1, hY2] at hst9
      rw [hfi]
      obtain ⟨ka1, kc1, rfl⟩ := (own_ints hst9.one).1.form
      obtain ⟨ka2, kc2, rfl⟩ := (own_ints hst9.two).1.form
      have hz9 := hb9.size
      rw [hzN8] at hz9
      have hbN9 := below_alloc w9 (.cells #[.slice ka1 Y1.length kc1, .slice ka2 Y2.length kc2] 25)
      have hN9 := heap_alloc_new w9 (.cells #[.slice ka1 Y1.length kc1, .slice ka2 Y2.length kc2] 25)
      have hbM9 := bt hb9 hbN9
      have HB9 := Lib.hid (bt H8.out.1 hbM9)
      have HZ9 := Lib.hid (And.intro (box_keep HZ8.out.1 hbM9) (And.intro (HZ8.out.2.1.keep hbM9) (HZ8.out.2.2.keep hbM9)))
      have HY9 := Lib.hid (And.intro hN9 (And.intro ((own_ints hst9.one).1.keep hbN9) ((own_ints hst9.two).1.keep hbN9)))
      have z0 := box0 (box_keep HZ8.out.1 hb9)
      have z1 := box1 (box_keep HZ8.out.1 hb9)
      have t0 := box0 HZ9.out.1
      have t1 := box1 HZ9.out.1
      have hz9b : w8.heap.size < w9.heap.size := by omega
      by_cases hK : K = 0
      · have hok := HL.out.2.1 hK
        subst hK
        have eX : X1 = s2.1 ∧ X2 = s2.2 := by
          rw [← HO.out.2.1, ← HO.out.2.2]; exact ⟨by rw [oS_ok], by rw [oS_ok]⟩
        have eZ : Z1 = renV nl s2.1 ∧ Z2 = renH nl s2.2 := by
          rw [← HO.out.1.1, ← HO.out.1.2]; exact ⟨by rw [oS_ok]; rfl, by rw [oS_ok]; rfl⟩
        have hfo : renOk X1 X2 nl = true := by rw [eX.1, eX.2, renOk, show validB s2.1 s2.2 = true from hok, HL.out.2.2.2]; rfl
        have hf2 : fi = true := by rw [← hfi, hfo]
        have hYZ : (decide (Y1 = Z1) && decide (Y2 = Z2)) = true := by
          rw [← hY1, ← hY2, renSV, renSH, if_pos hfo, if_pos hfo, eX.1, eX.2, eZ.1, eZ.2]; simp
        subst hf2
        have HYZ := Lib.hid hYZ
        clear hok eX eZ hfo hYZ hfi hY1 hY2 hst9 hb9 hbN9 hN9 hbM9
        go_wp2_with fail
        refine (stSame_eq _ _ _ _ _ _ _ _ true _ HY9.out.2.1 HY9.out.2.2 HZ9.out.2.1 HZ9.out.2.2 HYZ.out).mono ?_
        rintro e w10 ⟨rfl, hb10⟩
        have HB10 := Lib.hid (bt HB9.out hb10)
        go_wp2
        go_ret
        exact ⟨rfl, HB10.out⟩
      · have yK : (K == 0) = false := beq_eq_false_iff_ne.2 hK
        clear hK hfi hY1 hY2 hst9 hb9 hbN9 hN9 hbM9
        go_wp2
        all_goals first
          | (exact absurd (by assumption : K = 0) (beq_eq_false_iff_ne.1 yK))
          | (go_ret; exact ⟨rfl, HB9.out⟩)
end Go.Proofs.YtgfnoinkajfndaaGreat
