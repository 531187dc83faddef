/- Shs1: texts Sh1, Sh2 in one. -/
import Derived.Test.YthoingdcmdhllaaShapes
import Derived.Test.YthoingdcmdhllaaRens2
import Derived.Test.YthoingdcmdhllaaCpy
import Derived.Test.YthoingdcmdhllaaCans
import Derived.Deep.MidRow
/- Walks: the program's search for names: fits. -/
namespace Go.Proofs.Ythoingdcmdhllaa
open Go.RowKit

/-- The cells of a search. -/
def shBlk (v1 v2 u1 u2 : Value) (tl : List Int) (t : Nat) : Array Value := ([v1, v2, u1, u2] ++ (ints tl ++ [Value.int .u16 (t : Int)])).toArray
section
variable {w : World} {g t : Nat} {T : TypeId} {v1 v2 u1 u2 : Value} {tl : List Int}
theorem sh_0 (h : w.heap[g]? = some (.cells (shBlk v1 v2 u1 u2 tl t) T (0, 0))) : w.cell? ⟨g, 0, none⟩ = some v1 := by rw [cell_of_row w g 0 _ _ _ h]; simp [shBlk]
theorem sh_1 (h : w.heap[g]? = some (.cells (shBlk v1 v2 u1 u2 tl t) T (0, 0))) : w.cell? ⟨g, 1, none⟩ = some v2 := by rw [cell_of_row w g 1 _ _ _ h]; simp [shBlk]
theorem sh_2 (h : w.heap[g]? = some (.cells (shBlk v1 v2 u1 u2 tl t) T (0, 0))) : w.cell? ⟨g, 2, none⟩ = some u1 := by rw [cell_of_row w g 2 _ _ _ h]; simp [shBlk]
theorem sh_3 (h : w.heap[g]? = some (.cells (shBlk v1 v2 u1 u2 tl t) T (0, 0))) : w.cell? ⟨g, 3, none⟩ = some u2 := by rw [cell_of_row w g 3 _ _ _ h]; simp [shBlk]
theorem sh_tab (h : w.heap[g]? = some (.cells (shBlk v1 v2 u1 u2 tl t) T (0, 0))) (i : Nat) (hi : i < tl.length) : w.cell? ⟨g, 4 + i, none⟩ = some (.int .i64 (gi tl i)) := by
  rw [cell_of_row w g (4 + i) _ _ _ h, shBlk, List.getElem?_toArray, List.getElem?_append_right (by simp), List.getElem?_append_left (by simp [ints]; omega)]
  simp [ints, hi, gi_of]
theorem sh_tk (h : w.heap[g]? = some (.cells (shBlk v1 v2 u1 u2 tl t) T (0, 0))) (hl : tl.length = 9) : w.cell? ⟨g, 13, none⟩ = some (.int .u16 t) := by
  rw [cell_of_row w g 13 _ _ _ h, shBlk, List.getElem?_toArray, List.getElem?_append_right (by simp), List.getElem?_append_right (by simp [ints, hl])]
  simp [ints, hl]
theorem sh_free (h : w.heap[g]? = some (.cells (shBlk v1 v2 u1 u2 tl t) T (0, 0))) (i : Nat) : w.frozen? ⟨g, i, none⟩ = false := frozen_of_row w g i _ _ h
theorem sh_setT (h : w.heap[g]? = some (.cells (shBlk v1 v2 u1 u2 tl t) T (0, 0))) (i : Nat) (hi : i < tl.length) (x : Int) : (w.setCell ⟨g, 4 + i, none⟩ (.int .i64 x)).heap[g]? = some (.cells (shBlk v1 v2 u1 u2 (tl.set i x) t) T (0, 0)) := by
  rw [heap_setCell_same w g (4 + i) _ T _ h]
  congr 2
  simp only [shBlk]
  rw [List.setIfInBounds_toArray, List.set_append_right _ _ (by simp), List.set_append_left _ _ (by simp [ints]; omega)]
  simp [ints, List.map_set]
theorem sh_setK (h : w.heap[g]? = some (.cells (shBlk v1 v2 u1 u2 tl t) T (0, 0))) (hl : tl.length = 9) (s : Nat) : (w.setCell ⟨g, 13, none⟩ (.int .u16 s)).heap[g]? = some (.cells (shBlk v1 v2 u1 u2 tl s) T (0, 0)) := by
  rw [heap_setCell_same w g 13 _ T _ h]
  congr 2
  simp only [shBlk]
  rw [List.setIfInBounds_toArray, List.set_append_right _ _ (by simp), List.set_append_right _ _ (by simp [ints, hl])]
  simp [ints, hl]
end

/-- The three parts of fitB. -/
def fitA (vl vm ns : List Int) (n k : Nat) : Bool := (List.range k).all fun i => (gi vl i == (n : Int)) == (gi vm i == gi ns (n - 1))
def fitC (hl hm ns : List Int) (n : Nat) : Bool := !((decide (ct hl n < 1) || decide (ct hm (gi ns (n - 1)) < 1)) && (ct hl n != ct hm (gi ns (n - 1))))
def fitD (hl hm ns : List Int) (n k : Nat) : Bool := (List.range k).all fun k => ((ct hl n == (k : Int) + 1) == (ct hm (gi ns (n - 1)) == gi ns k)) && ((ct hl ((k : Int) + 1) == (n : Int)) == (ct hm (gi ns k) == gi ns (n - 1)))
theorem fit_parts (vl hl vm hm ns : List Int) (n : Nat) : fitB vl hl vm hm ns n = (fitA vl vm ns n 8 && (fitC hl hm ns n && fitD hl hm ns n n)) := rfl
theorem all_range_succ (p : Nat → Bool) (k : Nat) : (List.range (k + 1)).all p = ((List.range k).all p && p k) := by
  rw [List.range_succ, List.all_append]; simp
theorem all_range_false {p : Nat → Bool} {k m : Nat} (hk : k < m) (h : p k = false) : (List.range m).all p = false := by
  rw [List.all_eq_false]
  exact ⟨k, List.mem_range.2 hk, by simp [h]⟩

set_option maxHeartbeats 3200000 in
theorem fits_any (g t n : Nat) (v1 v2 u1 u2 : Value) (vl hl vm hm ns rest : List Int) (w : World) (h1 : RInts w v1 vl) (h2 : RInts w v2 hl) (k1 : RInts w u1 vm) (k2 : RInts w u2 hm)
    (hv : validB vl hl = true) (hw : validB vm hm = true) (hn1 : 1 ≤ n) (hn8 : n ≤ 8) (hnl : ns.length = n) (hrl : rest.length + n = 8) (hadr : ∀ k, k < n → 1 ≤ gi ns k ∧ gi ns k ≤ 8)
    (hb : w.heap[g]? = some (.cells (shBlk v1 v2 u1 u2 (0 :: (ns ++ rest)) t) 115 (0, 0))) :
    Calls Try.prog 158 #[.pointer (some ⟨g, 0, none⟩), .int .i64 n] w fun e w' => e = .returned (.bool (fitB vl hl vm hm ns n)) ∧ Below w.heap.size w w' := by
  have l1 := valid_len hv
  have l2 := valid_len hw
  obtain ⟨b1, o1, c1, rfl, _, _, cellv⟩ := h1.ne (by omega)
  obtain ⟨d1, p1, e1, rfl, _, _, cellu⟩ := k1.ne (by omega)
  rw [l1.1] at cellv hb h1
  rw [l2.1] at cellu hb k1
  have htl : (0 :: (ns ++ rest)).length = 9 := by simp; omega
  have htab : ∀ k, k < n → gi (0 :: (ns ++ rest)) (k + 1) = gi ns k := by
    intro k hk
    have : gi (0 :: (ns ++ rest)) (k + 1) = gi (ns ++ rest) k := by simp [gi]
    rw [this, gi_app, if_pos (by omega)]
  obtain ⟨M, hM⟩ : ∃ M : Nat, gi ns (n - 1) = (M : Int) := ⟨(gi ns (n - 1)).toNat, by have := hadr (n - 1) (by omega); omega⟩
  have hM8 := hadr (n - 1) (by omega)
  rw [hM] at hM8
  have hcm : w.cell? ⟨g, 4 + n, none⟩ = some (.int .i64 (M : Int)) := by
    rw [sh_tab hb n (by rw [htl]; omega), ← hM]
    have := htab (n - 1) (by omega)
    rw [show n - 1 + 1 = n by omega] at this
    rw [this]
  have hc0 := sh_0 hb
  have hc1 := sh_1 hb
  have hc2 := sh_2 hb
  have hc3 := sh_3 hb
  have hgl : g < w.heap.size := box_lt hb
  have hct : ∀ k, k < n → w.cell? ⟨g, 4 + (k + 1), none⟩ = some (.int .i64 (gi ns k)) := fun k hk => by rw [sh_tab hb (k + 1) (by rw [htl]; omega), htab k hk]
  have HCT := Lib.hid hct
  have CV := Lib.hid cellv
  have CU := Lib.hid cellu
  have HM := Lib.hid hM
  have HADR := Lib.hid hadr
  have HP := Lib.hid (fit_parts vl hl vm hm ns n)
  have hni : (n : Int) < 9 := by omega
  have hh1 : 8 ≤ hl.length := by omega
  have hh2 : 8 ≤ hm.length := by omega
  clear cellv cellu hM hadr hct htab htl hb hv hw l1 l2 h1 k1 hnl hrl
  go_enter Try.func158, Try.ntmps158
  go_wp2
  go_loopg [23] 8 (fun q i wr => ∃ k : Nat, k + q = 8 ∧ i = .int .i64 k ∧ fitA vl vm ns n k = true ∧ w = wr)
  case atStart => exact ⟨0, by omega, rfl, rfl, rfl⟩
  case round =>
    obtain ⟨k, hk, rfl, hA, rfl⟩ := hrel
    have HK := Lib.hid hk
    have HA := Lib.hid hA
    clear hk hA
    by_cases hk8 : k < 8
    · have hki : (k : Int) < 8 := by omega
      have hcv := CV.out k hk8
      have hcu := CU.out k hk8
      have hstep : fitA vl vm ns n (k + 1) = (fitA vl vm ns n k && ((gi vl k == (n : Int)) == (gi vm k == gi ns (n - 1)))) := all_range_succ _ _
      rw [HA.out, HM.out, Bool.true_and] at hstep
      by_cases x1 : gi vl k = (n : Int)
      all_goals by_cases x2 : gi vm k = (M : Int)
      · have y1 : (gi vl k == (n : Int)) = true := by simpa using x1
        have y2 : (gi vm k == (M : Int)) = true := by simpa using x2
        rw [y1, y2] at hstep
        have HS := Lib.hid hstep
        clear x1 x2 hstep
        go_wp2
        go_roundg (gk - 1)
        case rel => exact ⟨k + 1, by have := HK.out; omega, by go_num, HS.out, rfl⟩
        case measure => have := HK.out; omega
      · have y1 : (gi vl k == (n : Int)) = true := by simpa using x1
        have y2 : (gi vm k == (M : Int)) = false := by simpa using x2
        rw [y1, y2] at hstep
        have hfin : fitB vl hl vm hm ns n = false := by
          have : fitA vl vm ns n 8 = false := all_range_false hk8 (by rw [HM.out, y1, y2]; rfl)
          rw [HP.out, this]; rfl
        have HF := Lib.hid hfin
        clear x1 x2 hstep hfin
        go_wp2
        go_ret
        exact ⟨by rw [HF.out]; rfl, Below.refl _ _⟩
      · have y1 : (gi vl k == (n : Int)) = false := by simpa using x1
        have y2 : (gi vm k == (M : Int)) = true := by simpa using x2
        rw [y1, y2] at hstep
        have hfin : fitB vl hl vm hm ns n = false := by
          have : fitA vl vm ns n 8 = false := all_range_false hk8 (by rw [HM.out, y1, y2]; rfl)
          rw [HP.out, this]; rfl
        have HF := Lib.hid hfin
        clear x1 x2 hstep hfin
        go_wp2
        go_ret
        exact ⟨by rw [HF.out]; rfl, Below.refl _ _⟩
      · have y1 : (gi vl k == (n : Int)) = false := by simpa using x1
        have y2 : (gi vm k == (M : Int)) = false := by simpa using x2
        rw [y1, y2] at hstep
        have HS := Lib.hid hstep
        clear x1 x2 hstep
        go_wp2
        go_roundg (gk - 1)
        case rel => exact ⟨k + 1, by have := HK.out; omega, by go_num, HS.out, rfl⟩
        case measure => have := HK.out; omega
    · obtain rfl : k = 8 := by have := HK.out; omega
      go_wp2
      refine wp_region_ext (by kernel_rfl) (by kernel_rfl) ?_
      repeat (go_big_quiet_step ((go_at_call 207; exact ext_c (content_any _ _ _ _ _ (by first | exact h2.ext _ | exact k2.ext _) (by first | exact hh1 | exact hh2)))))
      refine wpQuiet_nil ?_
      intro w2 hb2
      have hCe : fitC hl hm ns n = !((decide (ct hl (n : Int) < 1) || decide (ct hm (M : Int) < 1)) && (ct hl (n : Int) != ct hm (M : Int))) := by unfold fitC; rw [HM.out]
      have HCE := Lib.hid hCe
      clear hCe
      cases hA : decide (ct hl (n : Int) < 1)
      all_goals cases hB : decide (ct hm (M : Int) < 1)
      · have hC : fitC hl hm ns n = true := by rw [HCE.out, hA, hB]; rfl
        have HC := Lib.hid hC
        clear hC
        go_wp2
        go_loopg [10] n (fun q i wr => ∃ k : Nat, k + q = n ∧ i = .int .i64 ((k : Int) + 1) ∧ fitD hl hm ns n k = true ∧ Below w.heap.size w wr)
        case atStart => exact ⟨0, by omega, rfl, rfl, hb2⟩
        case round =>
          obtain ⟨k, hk, rfl, hD, hb⟩ := hrel
          clear HK
          have HK := Lib.hid hk
          have HD := Lib.hid hD
          clear hk hD
          have x0 := cell_keep hb hc0
          have x1 := cell_keep hb hc1
          have x2 := cell_keep hb hc2
          have x3 := cell_keep hb hc3
          have r2 := h2.keep hb
          have s2 := k2.keep hb
          have hgr : g < wr.heap.size := World.block_lt_of_cell? wr _ x0
          by_cases hkn : k < n
          · have hki : (k : Int) + 1 ≤ (n : Int) := by omega
            have hk9 : (k : Int) + 1 < 9 := by omega
            have xt := cell_keep hb (HCT.out k hkn)
            have ha8 := HADR.out k hkn
            have hstep : fitD hl hm ns n (k + 1) = (fitD hl hm ns n k && (((ct hl n == (k : Int) + 1) == (ct hm (gi ns (n - 1)) == gi ns k)) && ((ct hl ((k : Int) + 1) == (n : Int)) == (ct hm (gi ns k) == gi ns (n - 1))))) := all_range_succ _ _
            rw [HD.out, HM.out, Bool.true_and] at hstep
            have HS := Lib.hid hstep
            have hbad : (((ct hl n == (k : Int) + 1) == (ct hm (M : Int) == gi ns k)) && ((ct hl ((k : Int) + 1) == (n : Int)) == (ct hm (gi ns k) == (M : Int)))) = false → fitB vl hl vm hm ns n = false := by
              intro hx
              have : fitD hl hm ns n n = false := all_range_false hkn (by rw [HM.out]; exact hx)
              rw [HP.out, this, Bool.and_false, Bool.and_false]
            have HBAD := Lib.hid hbad
            clear hstep hbad
            cases y1 : (ct hl (n : Int) == (k : Int) + 1)
            all_goals cases y2 : (ct hm (M : Int) == gi ns k)
            · cases z1 : (ct hl ((k : Int) + 1) == (n : Int))
              all_goals cases z2 : (ct hm (gi ns k) == (M : Int))
              · have HF : Hid (fitD hl hm ns n (k + 1) = true) := Lib.hid (by rw [HS.out, y1, y2, z1, z2]; rfl)
                clear HBAD HS
                go_wp2
                refine wp_region_ext (by kernel_rfl) (by kernel_rfl) ?_
                repeat (go_big_quiet_step ((go_at_call 207; exact ext_c (content_any _ _ _ _ _ (by first | exact r2.ext _ | exact s2.ext _) (by first | exact hh1 | exact hh2)))))
                refine wpQuiet_nil ?_
                intro w5 hb5
                go_wp2
                go_roundg (gk - 1)
                case rel => exact ⟨k + 1, by have := HK.out; omega, by go_num, HF.out, bt hb hb5⟩
                case measure => have := HK.out; omega
              · have HF := Lib.hid (HBAD.out (by rw [y1, y2, z1, z2]; rfl))
                clear HBAD HS
                go_wp2
                refine wp_region_ext (by kernel_rfl) (by kernel_rfl) ?_
                repeat (go_big_quiet_step ((go_at_call 207; exact ext_c (content_any _ _ _ _ _ (by first | exact r2.ext _ | exact s2.ext _) (by first | exact hh1 | exact hh2)))))
                refine wpQuiet_nil ?_
                intro w5 hb5
                go_wp2
                go_ret
                exact ⟨by rw [HF.out]; rfl, bt hb hb5⟩
              · have HF := Lib.hid (HBAD.out (by rw [y1, y2, z1, z2]; rfl))
                clear HBAD HS
                go_wp2
                refine wp_region_ext (by kernel_rfl) (by kernel_rfl) ?_
                repeat (go_big_quiet_step ((go_at_call 207; exact ext_c (content_any _ _ _ _ _ (by first | exact r2.ext _ | exact s2.ext _) (by first | exact hh1 | exact hh2)))))
                refine wpQuiet_nil ?_
                intro w5 hb5
                go_wp2
                go_ret
                exact ⟨by rw [HF.out]; rfl, bt hb hb5⟩
              · have HF : Hid (fitD hl hm ns n (k + 1) = true) := Lib.hid (by rw [HS.out, y1, y2, z1, z2]; rfl)
                clear HBAD HS
                go_wp2
                refine wp_region_ext (by kernel_rfl) (by kernel_rfl) ?_
                repeat (go_big_quiet_step ((go_at_call 207; exact ext_c (content_any _ _ _ _ _ (by first | exact r2.ext _ | exact s2.ext _) (by first | exact hh1 | exact hh2)))))
                refine wpQuiet_nil ?_
                intro w5 hb5
                go_wp2
                go_roundg (gk - 1)
                case rel => exact ⟨k + 1, by have := HK.out; omega, by go_num, HF.out, bt hb hb5⟩
                case measure => have := HK.out; omega
            · have HF := Lib.hid (HBAD.out (by rw [y1, y2]; rfl))
              clear HBAD HS
              go_wp2
              go_ret
              exact ⟨by rw [HF.out]; rfl, hb⟩
            · have HF := Lib.hid (HBAD.out (by rw [y1, y2]; rfl))
              clear HBAD HS
              go_wp2
              go_ret
              exact ⟨by rw [HF.out]; rfl, hb⟩
            · cases z1 : (ct hl ((k : Int) + 1) == (n : Int))
              all_goals cases z2 : (ct hm (gi ns k) == (M : Int))
              · have HF : Hid (fitD hl hm ns n (k + 1) = true) := Lib.hid (by rw [HS.out, y1, y2, z1, z2]; rfl)
                clear HBAD HS
                go_wp2
                refine wp_region_ext (by kernel_rfl) (by kernel_rfl) ?_
                repeat (go_big_quiet_step ((go_at_call 207; exact ext_c (content_any _ _ _ _ _ (by first | exact r2.ext _ | exact s2.ext _) (by first | exact hh1 | exact hh2)))))
                refine wpQuiet_nil ?_
                intro w5 hb5
                go_wp2
                go_roundg (gk - 1)
                case rel => exact ⟨k + 1, by have := HK.out; omega, by go_num, HF.out, bt hb hb5⟩
                case measure => have := HK.out; omega
              · have HF := Lib.hid (HBAD.out (by rw [y1, y2, z1, z2]; rfl))
                clear HBAD HS
                go_wp2
                refine wp_region_ext (by kernel_rfl) (by kernel_rfl) ?_
                repeat (go_big_quiet_step ((go_at_call 207; exact ext_c (content_any _ _ _ _ _ (by first | exact r2.ext _ | exact s2.ext _) (by first | exact hh1 | exact hh2)))))
                refine wpQuiet_nil ?_
                intro w5 hb5
                go_wp2
                go_ret
                exact ⟨by rw [HF.out]; rfl, bt hb hb5⟩
              · have HF := Lib.hid (HBAD.out (by rw [y1, y2, z1, z2]; rfl))
                clear HBAD HS
                go_wp2
                refine wp_region_ext (by kernel_rfl) (by kernel_rfl) ?_
                repeat (go_big_quiet_step ((go_at_call 207; exact ext_c (content_any _ _ _ _ _ (by first | exact r2.ext _ | exact s2.ext _) (by first | exact hh1 | exact hh2)))))
                refine wpQuiet_nil ?_
                intro w5 hb5
                go_wp2
                go_ret
                exact ⟨by rw [HF.out]; rfl, bt hb hb5⟩
              · have HF : Hid (fitD hl hm ns n (k + 1) = true) := Lib.hid (by rw [HS.out, y1, y2, z1, z2]; rfl)
                clear HBAD HS
                go_wp2
                refine wp_region_ext (by kernel_rfl) (by kernel_rfl) ?_
                repeat (go_big_quiet_step ((go_at_call 207; exact ext_c (content_any _ _ _ _ _ (by first | exact r2.ext _ | exact s2.ext _) (by first | exact hh1 | exact hh2)))))
                refine wpQuiet_nil ?_
                intro w5 hb5
                go_wp2
                go_roundg (gk - 1)
                case rel => exact ⟨k + 1, by have := HK.out; omega, by go_num, HF.out, bt hb hb5⟩
                case measure => have := HK.out; omega
          · obtain rfl : k = n := by have := HK.out; omega
            have hfin : fitB vl hl vm hm ns k = true := by rw [HP.out, HA.out, HC.out, HD.out]; rfl
            have HF := Lib.hid hfin
            clear hfin
            go_wp2
            go_ret
            exact ⟨by rw [HF.out]; rfl, hb⟩
      · cases hAB : (ct hl (n : Int) != ct hm (M : Int))
        · exfalso
          have h1 : ct hl (n : Int) = ct hm (M : Int) := by simpa using hAB
          rw [h1] at hA
          rw [hA] at hB; cases hB
        have hC : fitC hl hm ns n = false := by rw [HCE.out, hA, hB, hAB]; rfl
        have hfin : fitB vl hl vm hm ns n = false := by rw [HP.out, hC, Bool.false_and, Bool.and_false]
        have HF := Lib.hid hfin
        clear hfin hC
        go_wp2
        go_ret
        exact ⟨by rw [HF.out]; rfl, hb2⟩
      · cases hAB : (ct hl (n : Int) != ct hm (M : Int))
        · exfalso
          have h1 : ct hl (n : Int) = ct hm (M : Int) := by simpa using hAB
          rw [h1] at hA
          rw [hA] at hB; cases hB
        have hC : fitC hl hm ns n = false := by rw [HCE.out, hA, hB, hAB]; rfl
        have hfin : fitB vl hl vm hm ns n = false := by rw [HP.out, hC, Bool.false_and, Bool.and_false]
        have HF := Lib.hid hfin
        clear hfin hC
        go_wp2
        go_ret
        exact ⟨by rw [HF.out]; rfl, hb2⟩
      · cases hAB : (ct hl (n : Int) != ct hm (M : Int))
        · have hC : fitC hl hm ns n = true := by rw [HCE.out, hA, hB, hAB]; rfl
          have HC := Lib.hid hC
          clear hC
          go_wp2
          go_loopg [10] n (fun q i wr => ∃ k : Nat, k + q = n ∧ i = .int .i64 ((k : Int) + 1) ∧ fitD hl hm ns n k = true ∧ Below w.heap.size w wr)
          case atStart => exact ⟨0, by omega, rfl, rfl, hb2⟩
          case round =>
            obtain ⟨k, hk, rfl, hD, hb⟩ := hrel
            clear HK
            have HK := Lib.hid hk
            have HD := Lib.hid hD
            clear hk hD
            have x0 := cell_keep hb hc0
            have x1 := cell_keep hb hc1
            have x2 := cell_keep hb hc2
            have x3 := cell_keep hb hc3
            have r2 := h2.keep hb
            have s2 := k2.keep hb
            have hgr : g < wr.heap.size := World.block_lt_of_cell? wr _ x0
            by_cases hkn : k < n
            · have hki : (k : Int) + 1 ≤ (n : Int) := by omega
              have hk9 : (k : Int) + 1 < 9 := by omega
              have xt := cell_keep hb (HCT.out k hkn)
              have ha8 := HADR.out k hkn
              have hstep : fitD hl hm ns n (k + 1) = (fitD hl hm ns n k && (((ct hl n == (k : Int) + 1) == (ct hm (gi ns (n - 1)) == gi ns k)) && ((ct hl ((k : Int) + 1) == (n : Int)) == (ct hm (gi ns k) == gi ns (n - 1))))) := all_range_succ _ _
              rw [HD.out, HM.out, Bool.true_and] at hstep
              have HS := Lib.hid hstep
              have hbad : (((ct hl n == (k : Int) + 1) == (ct hm (M : Int) == gi ns k)) && ((ct hl ((k : Int) + 1) == (n : Int)) == (ct hm (gi ns k) == (M : Int)))) = false → fitB vl hl vm hm ns n = false := by
                intro hx
                have : fitD hl hm ns n n = false := all_range_false hkn (by rw [HM.out]; exact hx)
                rw [HP.out, this, Bool.and_false, Bool.and_false]
              have HBAD := Lib.hid hbad
              clear hstep hbad
              cases y1 : (ct hl (n : Int) == (k : Int) + 1)
              all_goals cases y2 : (ct hm (M : Int) == gi ns k)
              · cases z1 : (ct hl ((k : Int) + 1) == (n : Int))
                all_goals cases z2 : (ct hm (gi ns k) == (M : Int))
                · have HF : Hid (fitD hl hm ns n (k + 1) = true) := Lib.hid (by rw [HS.out, y1, y2, z1, z2]; rfl)
                  clear HBAD HS
                  go_wp2
                  refine wp_region_ext (by kernel_rfl) (by kernel_rfl) ?_
                  repeat (go_big_quiet_step ((go_at_call 207; exact ext_c (content_any _ _ _ _ _ (by first | exact r2.ext _ | exact s2.ext _) (by first | exact hh1 | exact hh2)))))
                  refine wpQuiet_nil ?_
                  intro w5 hb5
                  go_wp2
                  go_roundg (gk - 1)
                  case rel => exact ⟨k + 1, by have := HK.out; omega, by go_num, HF.out, bt hb hb5⟩
                  case measure => have := HK.out; omega
                · have HF := Lib.hid (HBAD.out (by rw [y1, y2, z1, z2]; rfl))
                  clear HBAD HS
                  go_wp2
                  refine wp_region_ext (by kernel_rfl) (by kernel_rfl) ?_
                  repeat (go_big_quiet_step ((go_at_call 207; exact ext_c (content_any _ _ _ _ _ (by first | exact r2.ext _ | exact s2.ext _) (by first | exact hh1 | exact hh2)))))
                  refine wpQuiet_nil ?_
                  intro w5 hb5
                  go_wp2
                  go_ret
                  exact ⟨by rw [HF.out]; rfl, bt hb hb5⟩
                · have HF := Lib.hid (HBAD.out (by rw [y1, y2, z1, z2]; rfl))
                  clear HBAD HS
                  go_wp2
                  refine wp_region_ext (by kernel_rfl) (by kernel_rfl) ?_
                  repeat (go_big_quiet_step ((go_at_call 207; exact ext_c (content_any _ _ _ _ _ (by first | exact r2.ext _ | exact s2.ext _) (by first | exact hh1 | exact hh2)))))
                  refine wpQuiet_nil ?_
                  intro w5 hb5
                  go_wp2
                  go_ret
                  exact ⟨by rw [HF.out]; rfl, bt hb hb5⟩
                · have HF : Hid (fitD hl hm ns n (k + 1) = true) := Lib.hid (by rw [HS.out, y1, y2, z1, z2]; rfl)
                  clear HBAD HS
                  go_wp2
                  refine wp_region_ext (by kernel_rfl) (by kernel_rfl) ?_
                  repeat (go_big_quiet_step ((go_at_call 207; exact ext_c (content_any _ _ _ _ _ (by first | exact r2.ext _ | exact s2.ext _) (by first | exact hh1 | exact hh2)))))
                  refine wpQuiet_nil ?_
                  intro w5 hb5
                  go_wp2
                  go_roundg (gk - 1)
                  case rel => exact ⟨k + 1, by have := HK.out; omega, by go_num, HF.out, bt hb hb5⟩
                  case measure => have := HK.out; omega
              · have HF := Lib.hid (HBAD.out (by rw [y1, y2]; rfl))
                clear HBAD HS
                go_wp2
                go_ret
                exact ⟨by rw [HF.out]; rfl, hb⟩
              · have HF := Lib.hid (HBAD.out (by rw [y1, y2]; rfl))
                clear HBAD HS
                go_wp2
                go_ret
                exact ⟨by rw [HF.out]; rfl, hb⟩
              · cases z1 : (ct hl ((k : Int) + 1) == (n : Int))
                all_goals cases z2 : (ct hm (gi ns k) == (M : Int))
                · have HF : Hid (fitD hl hm ns n (k + 1) = true) := Lib.hid (by rw [HS.out, y1, y2, z1, z2]; rfl)
                  clear HBAD HS
                  go_wp2
                  refine wp_region_ext (by kernel_rfl) (by kernel_rfl) ?_
                  repeat (go_big_quiet_step ((go_at_call 207; exact ext_c (content_any _ _ _ _ _ (by first | exact r2.ext _ | exact s2.ext _) (by first | exact hh1 | exact hh2)))))
                  refine wpQuiet_nil ?_
                  intro w5 hb5
                  go_wp2
                  go_roundg (gk - 1)
                  case rel => exact ⟨k + 1, by have := HK.out; omega, by go_num, HF.out, bt hb hb5⟩
                  case measure => have := HK.out; omega
                · have HF := Lib.hid (HBAD.out (by rw [y1, y2, z1, z2]; rfl))
                  clear HBAD HS
                  go_wp2
                  refine wp_region_ext (by kernel_rfl) (by kernel_rfl) ?_
                  repeat (go_big_quiet_step ((go_at_call 207; exact ext_c (content_any _ _ _ _ _ (by first | exact r2.ext _ | exact s2.ext _) (by first | exact hh1 | exact hh2)))))
                  refine wpQuiet_nil ?_
                  intro w5 hb5
                  go_wp2
                  go_ret
                  exact ⟨by rw [HF.out]; rfl, bt hb hb5⟩
                · have HF := Lib.hid (HBAD.out (by rw [y1, y2, z1, z2]; rfl))
                  clear HBAD HS
                  go_wp2
                  refine wp_region_ext (by kernel_rfl) (by kernel_rfl) ?_
                  repeat (go_big_quiet_step ((go_at_call 207; exact ext_c (content_any _ _ _ _ _ (by first | exact r2.ext _ | exact s2.ext _) (by first | exact hh1 | exact hh2)))))
                  refine wpQuiet_nil ?_
                  intro w5 hb5
                  go_wp2
                  go_ret
                  exact ⟨by rw [HF.out]; rfl, bt hb hb5⟩
                · have HF : Hid (fitD hl hm ns n (k + 1) = true) := Lib.hid (by rw [HS.out, y1, y2, z1, z2]; rfl)
                  clear HBAD HS
                  go_wp2
                  refine wp_region_ext (by kernel_rfl) (by kernel_rfl) ?_
                  repeat (go_big_quiet_step ((go_at_call 207; exact ext_c (content_any _ _ _ _ _ (by first | exact r2.ext _ | exact s2.ext _) (by first | exact hh1 | exact hh2)))))
                  refine wpQuiet_nil ?_
                  intro w5 hb5
                  go_wp2
                  go_roundg (gk - 1)
                  case rel => exact ⟨k + 1, by have := HK.out; omega, by go_num, HF.out, bt hb hb5⟩
                  case measure => have := HK.out; omega
            · obtain rfl : k = n := by have := HK.out; omega
              have hfin : fitB vl hl vm hm ns k = true := by rw [HP.out, HA.out, HC.out, HD.out]; rfl
              have HF := Lib.hid hfin
              clear hfin
              go_wp2
              go_ret
              exact ⟨by rw [HF.out]; rfl, hb⟩
        · have hC : fitC hl hm ns n = false := by rw [HCE.out, hA, hB, hAB]; rfl
          have hfin : fitB vl hl vm hm ns n = false := by rw [HP.out, hC, Bool.false_and, Bool.and_false]
          have HF := Lib.hid hfin
          clear hfin hC
          go_wp2
          go_ret
          exact ⟨by rw [HF.out]; rfl, hb2⟩
end Go.Proofs.Ythoingdcmdhllaa
/- Walks: the program's search for names: from; SameShape. -/
namespace Go.Proofs.Ythoingdcmdhllaa
open Go.RowKit

theorem andnot_bit (s m : Nat) (hs : s < 65536) (hm : m < 16) (hb : s.testBit m = false) : bits .andNot .u16 ((s ||| 2 ^ m : Nat) : Int) (IntKind.u16.wrap (2 ^ m)) = (s : Int) := by
  have h2 : 2 ^ m < 65536 := Nat.pow_lt_pow_right (n := 16) (by decide) hm
  rw [wrap_two_pow m hm, u16_andNot_nat _ _ (or_lt s m hs hm) h2]
  congr 1
  apply Nat.eq_of_testBit_eq
  intro j
  have e : 65535 - 2 ^ m = 2 ^ 16 - (2 ^ m + 1) := by omega
  rw [Nat.testBit_and, testBit_or_pow, e, Nat.testBit_two_pow_sub_succ (by omega), Nat.testBit_two_pow]
  by_cases ej : m = j
  · subst ej; simp [hb]
  · have d : decide (m = j) = false := by simpa using ej
    rw [d]
    by_cases hj : j < 16
    · simp [hj]
    · have : s.testBit j = false := Nat.testBit_lt_two_pow (Nat.lt_of_lt_of_le hs (Nat.pow_le_pow_right (n := 2) (by decide) (show 16 ≤ j by omega)))
      simp [this]
theorem seen_snoc (ns : List Int) (x : Int) : seenN (ns ++ [x]) (ns ++ [x]).length = seenN ns ns.length ||| 2 ^ x.toNat := by
  rw [show (ns ++ [x]).length = ns.length + 1 by simp, seenN, seen_app (Nat.le_refl _), gi_app, if_neg (by omega)]
  simp [gi]
theorem list8 {l : List Int} (h : l.length = 8) : l = [gi l 0, gi l 1, gi l 2, gi l 3, gi l 4, gi l 5, gi l 6, gi l 7] := by
  refine gi_ext (by rw [h]; rfl) fun i hi => ?_
  rw [h] at hi
  match i, hi with
  | 0, _ => rfl
  | 1, _ => rfl
  | 2, _ => rfl
  | 3, _ => rfl
  | 4, _ => rfl
  | 5, _ => rfl
  | 6, _ => rfl
  | 7, _ => rfl
theorem iarr9 {l : List Int} (h : l.length = 8) : (#[.int .i64 0, .int .i64 (gi l 0), .int .i64 (gi l 1), .int .i64 (gi l 2), .int .i64 (gi l 3), .int .i64 (gi l 4), .int .i64 (gi l 5), .int .i64 (gi l 6), .int .i64 (gi l 7)] : Array Value) = iarr (0 :: l) := by
  conv => rhs; rw [list8 h]
  rfl
/-- One name more is tried. -/
def shP (vl hl vm hm : List Int) (f : Nat) (ns : List Int) (m : Nat) : Bool := !decide (((m : Int) + 1) ∈ ns) && (fitB vl hl vm hm (ns ++ [(m : Int) + 1]) (ns.length + 1) && shN vl hl vm hm f (ns ++ [(m : Int) + 1]))
theorem shN_succ (vl hl vm hm : List Int) (f : Nat) (ns : List Int) : shN vl hl vm hm (f + 1) ns = (List.range 8).any (shP vl hl vm hm f ns) := rfl
theorem any_range_succ (p : Nat → Bool) (k : Nat) : (List.range (k + 1)).any p = ((List.range k).any p || p k) := by
  rw [List.range_succ, List.any_append]; simp
theorem any_range_true {p : Nat → Bool} {k m : Nat} (hk : k < m) (h : p k = true) : (List.range m).any p = true := by
  rw [List.any_eq_true]
  exact ⟨k, List.mem_range.2 hk, h⟩

theorem range_keep {w w' : World} {b o : Nat} {cs : List Value} (hb : Below w.heap.size w w') (h : w.rangeAt b o cs) : w'.rangeAt b o cs := fun j v hj => cell_keep hb (h j v hj)
theorem sizeTabN : (Try.prog.info? 104).map (·.size) = some 9 := by kernel_rfl

set_option maxHeartbeats 3200000 in
set_option maxRecDepth 100000 in
theorem from_leaf (g t : Nat) (v1 v2 u1 u2 : Value) (vl hl vm hm ns : List Int) (w : World) (h1 : RInts w v1 vl) (h2 : RInts w v2 hl) (k1 : RInts w u1 vm) (k2 : RInts w u2 hm)
    (hv : validB vl hl = true) (hnl : ns.length = 8) (hg : goodTo ns 8 = true)
    (hb : w.heap[g]? = some (.cells (shBlk v1 v2 u1 u2 (0 :: ns) t) 115 (0, 0))) :
    Calls Try.prog 80 #[.pointer (some ⟨g, 0, none⟩), .int .i64 ((ns.length : Int) + 1)] w fun e w' => e = .returned (.bool (isoB vl hl vm hm ns)) ∧ Below w.heap.size w w' := by
  have hc0 := sh_0 hb
  have hc1 := sh_1 hb
  have hc2 := sh_2 hb
  have hc3 := sh_3 hb
  have htl : (0 :: ns).length = 9 := by simp [hnl]
  have hrg : w.rangeAt g 4 (ints (0 :: ns)) := by
    intro j u hj
    have hj9 : j < (0 :: ns).length := by
      have := (List.getElem?_eq_some_iff.1 hj).1
      simpa [ints] using this
    rw [sh_tab hb j hj9, ← hj]
    simp only [ints, List.getElem?_map, List.getElem?_eq_getElem hj9, gi_of hj9]
    rfl
  have hu9 := Try.underlying104
  have hs9 : (Try.prog.info? 104).map (·.size) = some (ints (0 :: ns)).length := by rw [sizeTabN]; simp [ints, hnl]
  have HARR := Lib.hid hnl
  have HV := Lib.hid (And.intro hv hg)
  have e9 : (ns.length : Int) + 1 = 9 := by omega
  rw [e9]
  clear hb htl hnl hv hg e9
  go_enter Try.func80, Try.ntmps80
  go_wp2
  go_region_held3 (fun w' => ((w'.cell? ⟨g, 0, none⟩ = some v1 ∧ w'.cell? ⟨g, 1, none⟩ = some v2) ∧ (w'.cell? ⟨g, 2, none⟩ = some u1 ∧ w'.cell? ⟨g, 3, none⟩ = some u2)) ∧ w'.rangeAt g 4 (ints (0 :: ns)))
    (exact ⟨⟨⟨cell_keep (by repeat (first | exact Below.refl _ _ | with_reducible assumption | exact below_alloc _ _ | (refine Below.setCell ?_ (by first | (simp; done) | (simp; omega) | omega) _) | apply bd | apply ba | apply be)) hc0, cell_keep (by repeat (first | exact Below.refl _ _ | with_reducible assumption | exact below_alloc _ _ | (refine Below.setCell ?_ (by first | (simp; done) | (simp; omega) | omega) _) | apply bd | apply ba | apply be)) hc1⟩, ⟨cell_keep (by repeat (first | exact Below.refl _ _ | with_reducible assumption | exact below_alloc _ _ | (refine Below.setCell ?_ (by first | (simp; done) | (simp; omega) | omega) _) | apply bd | apply ba | apply be)) hc2, cell_keep (by repeat (first | exact Below.refl _ _ | with_reducible assumption | exact below_alloc _ _ | (refine Below.setCell ?_ (by first | (simp; done) | (simp; omega) | omega) _) | apply bd | apply ba | apply be)) hc3⟩⟩, range_keep (by repeat (first | exact Below.refl _ _ | with_reducible assumption | exact below_alloc _ _ | (refine Below.setCell ?_ (by first | (simp; done) | (simp; omega) | omega) _) | apply bd | apply ba | apply be)) hrg⟩)
    (first
      | (go_at_call 73; go_must (refine (renameState_any _ _ vl hl ns _ (h1.keep (by repeat (first | exact Below.refl _ _ | with_reducible assumption | exact below_alloc _ _ | (refine Below.setCell ?_ (by first | (simp; done) | (simp; omega) | omega) _) | apply bd | apply ba | apply be))) (h2.keep (by repeat (first | exact Below.refl _ _ | with_reducible assumption | exact below_alloc _ _ | (refine Below.setCell ?_ (by first | (simp; done) | (simp; omega) | omega) _) | apply bd | apply ba | apply be))) HV.out.1 HARR.out HV.out.2).mono ?_; rintro e w5 ⟨g1, c1, g2, c2, rfl, hst, hb5'⟩; have hb5 : Below w.heap.size w w5 := bt (by repeat (first | exact Below.refl _ _ | with_reducible assumption | exact below_alloc _ _ | (refine Below.setCell ?_ (by first | (simp; done) | (simp; omega) | omega) _) | apply bd | apply ba | apply be)) hb5'))
      | (go_at_call 18; go_must (refine (stateSame_any _ _ _ _ (renV ns vl) (renH ns hl) vm hm _ (by first | exact (own_ints hst.one).1 | exact (own_ints hst.one).1.keep (below_drew _)) (by first | exact (own_ints hst.two).1 | exact (own_ints hst.two).1.keep (below_drew _)) (k1.keep (by repeat (first | exact Below.refl _ _ | with_reducible assumption | exact below_alloc _ _ | (refine Below.setCell ?_ (by first | (simp; done) | (simp; omega) | omega) _) | apply bd | apply ba | apply be))) (k2.keep (by repeat (first | exact Below.refl _ _ | with_reducible assumption | exact below_alloc _ _ | (refine Below.setCell ?_ (by first | (simp; done) | (simp; omega) | omega) _) | apply bd | apply ba | apply be)))).mono ?_; rintro e w6 ⟨rfl, hb6'⟩; have hb6 : Below w.heap.size w w6 := bt (by repeat (first | exact Below.refl _ _ | with_reducible assumption | exact below_alloc _ _ | (refine Below.setCell ?_ (by first | (simp; done) | (simp; omega) | omega) _) | apply bd | apply ba | apply be)) hb6')))
  all_goals
    clear hst hb5 hb5' hb6'
    go_wp2
    go_ret
    exact ⟨rfl, hb6⟩

set_option maxRecDepth 100000 in
set_option maxHeartbeats 6400000 in
theorem from_any (v1 v2 u1 u2 : Value) (vl hl vm hm : List Int) (hv : validB vl hl = true) (hw : validB vm hm = true) (g : Nat) (z1 : ∀ k, v1.ownBlock = some k → ¬ k = g) (z2 : ∀ k, v2.ownBlock = some k → ¬ k = g) (z3 : ∀ k, u1.ownBlock = some k → ¬ k = g) (z4 : ∀ k, u2.ownBlock = some k → ¬ k = g) (f : Nat) :
    ∀ (ns rest : List Int) (w : World), ns.length + f = 8 → rest.length = f → GoodL ns → RInts w v1 vl → RInts w v2 hl → RInts w u1 vm → RInts w u2 hm →
    w.heap[g]? = some (.cells (shBlk v1 v2 u1 u2 (0 :: (ns ++ rest)) (seenN ns ns.length)) 115 (0, 0)) →
    Calls Try.prog 80 #[.pointer (some ⟨g, 0, none⟩), .int .i64 ((ns.length : Int) + 1)] w fun e w' => ∃ rest' t', e = .returned (.bool (shN vl hl vm hm f ns)) ∧ rest'.length = f ∧ w'.heap[g]? = some (.cells (shBlk v1 v2 u1 u2 (0 :: (ns ++ rest')) t') 115 (0, 0)) ∧ (shN vl hl vm hm f ns = false → t' = seenN ns ns.length) ∧ Fr (fun j => j = g) w w' := by
  induction f with
  | zero =>
    intro ns rest w hf hr hg h1 h2 k1 k2 hb
    have hr0 : rest = [] := List.eq_nil_of_length_eq_zero hr
    subst hr0
    rw [List.append_nil] at hb
    have hg8 : goodTo ns 8 = true := by have := hg; unfold GoodL at this; rwa [show ns.length = 8 by omega] at this
    refine (from_leaf g _ v1 v2 u1 u2 vl hl vm hm ns w h1 h2 k1 k2 hv (by omega) hg8 hb).mono ?_
    rintro e w' ⟨rfl, hb'⟩
    exact ⟨[], _, rfl, rfl, by rw [List.append_nil]; exact box_keep hb hb', fun _ => rfl, (Below.fr hb').mono fun _ _ h => h.elim⟩
  | succ f ih =>
    intro ns rest w hf hr hg h1 h2 k1 k2 hb
    have IH := Lib.hid ih
    have HB := Lib.hid hb
    have HG := Lib.hid hg
    have HF := Lib.hid hf
    have HR := Lib.hid hr
    have HV := Lib.hid (And.intro hv hw)
    have hn8 : (ns.length : Int) + 1 ≤ 8 := by omega
    have hn0 : (0 : Int) ≤ (ns.length : Int) := by omega
    have hlt := seen_lt hg
    have hnn : ns.length + 1 < 9 := by omega
    clear ih hb hg hf hr hv hw
    go_enter Try.func80, Try.ntmps80
    go_wp2_with fail
    go_loopg [5] 8 (fun q i wr => ∃ (k : Nat) (rk : List Int), k + q = 8 ∧ i = .int .i64 ((k : Int) + 1) ∧ rk.length = f + 1 ∧ wr.heap[g]? = some (.cells (shBlk v1 v2 u1 u2 (0 :: (ns ++ rk)) (seenN ns ns.length)) 115 (0, 0)) ∧ Fr (fun j => j = g) w wr ∧ (List.range k).any (shP vl hl vm hm f ns) = false)
    case atStart => exact ⟨0, rest, by omega, rfl, HR.out, HB.out, Fr.refl _ _, rfl⟩
    case round =>
      obtain ⟨k, rk, hk, rfl, hrk, hrow, hfr, hany⟩ := hrel
      have HK := Lib.hid (And.intro hk hrk)
      have HROW := Lib.hid hrow
      have HFR := Lib.hid hfr
      have HANY := Lib.hid hany
      have htl : (0 :: (ns ++ rk)).length = 9 := by have := HF.out; simp; omega
      have HTL := Lib.hid htl
      have hc13 := sh_tk hrow htl
      have hfz : ∀ i, wr.frozen? ⟨g, i, none⟩ = false := sh_free hrow
      have hgl := box_lt hrow
      clear hk hrk hrow hany htl hfr
      by_cases hk8 : k < 8
      · have hki : (k : Int) < 8 := by omega
        have ha : isAddrB ((k : Int) + 1) = true := isAddrB_iff.2 (by omega)
        have hhas := goodL_has HG.out ha
        have HHAS := Lib.hid hhas
        have HA := Lib.hid ha
        clear hhas ha
        by_cases hin : ((k : Int) + 1) ∈ ns
        · have hd : hasB (seenN ns ns.length) ((k : Int) + 1) = true := by rw [HHAS.out]; simpa using hin
          have hP : (List.range (k + 1)).any (shP vl hl vm hm f ns) = false := by
            rw [any_range_succ, HANY.out, shP]; simp [hin]
          have HP := Lib.hid (And.intro hP hd)
          clear hin hP hd
          go_wp2_with (go_at_call 149; go_must (refine (cellHas_val _ _ _ true hlt HP.out.2).mono ?_; rintro e w' ⟨rfl, rfl⟩))
          go_roundg (gk - 1)
          case rel => exact ⟨k + 1, rk, by have := HK.out.1; omega, by go_num, HK.out.2, HROW.out, HFR.out, HP.out.1⟩
          case measure => have := HK.out.1; omega
        · have hd : hasB (seenN ns ns.length) ((k : Int) + 1) = false := by rw [HHAS.out]; simpa using hin
          have HD := Lib.hid hd
          obtain ⟨r0, rk', hrk'⟩ : ∃ r0 rk', rk = r0 :: rk' := by
            cases rk with
            | nil => exact absurd HK.out.2 (by simp)
            | cons a b => exact ⟨a, b, rfl⟩
          subst hrk'
          have hct := sh_tab HROW.out (ns.length + 1) (by rw [HTL.out]; exact hnn)
          have hkt : k + 1 < 16 := by omega
          have hor := or_bit (seenN ns ns.length) (k + 1) hlt hkt
          have hses : seenN ns ns.length ||| 2 ^ (k + 1) = seenN (ns ++ [(k : Int) + 1]) (ns ++ [(k : Int) + 1]).length := by rw [seen_snoc]; rfl
          have hsetl : (0 :: (ns ++ r0 :: rk')).set (ns.length + 1) ((k : Int) + 1) = 0 :: ((ns ++ [(k : Int) + 1]) ++ rk') := by
            rw [List.set_cons_succ, List.set_append_right _ _ (Nat.le_refl _)]
            simp
          have hgood := goodL_snoc HG.out HA.out hin
          have hand := andnot_bit (seenN ns ns.length) (k + 1) hlt hkt (by
            have := HD.out
            rw [hasB, HA.out, Bool.true_and] at this
            exact this)
          have HS := Lib.hid (And.intro hor (And.intro hses (And.intro hsetl (And.intro hgood (And.intro hand hin)))))
          have hn9 : (ns.length : Int) + 1 < 9 := by omega
          clear hor hses hsetl hgood hand hin hd
          go_wp2_with (go_at_call 149; go_must (refine (cellHas_val _ _ _ false hlt HD.out).mono ?_; rintro e w' ⟨rfl, rfl⟩))
          have hrow1 := sh_setT HROW.out (ns.length + 1) (by rw [HTL.out]; exact hnn) ((k : Int) + 1)
          rw [HS.out.2.2.1] at hrow1
          have hf1 : Fr (fun j => j = g) w (wr.setCell ⟨g, 4 + (ns.length + 1), none⟩ (.int .i64 ((k : Int) + 1))) := HFR.out.then (fr_set _ _ _) (fun i _ e => by simpa using e)
          generalize wr.setCell ⟨g, 4 + (ns.length + 1), none⟩ (.int .i64 ((k : Int) + 1)) = W1 at *
          have htl1 : (0 :: ((ns ++ [(k : Int) + 1]) ++ rk')).length = 9 := by have := HTL.out; simp at this ⊢; omega
          have hx13 := sh_tk hrow1 htl1
          have hxz : W1.frozen? ⟨g, 13, none⟩ = false := sh_free hrow1 13
          have HR1 := Lib.hid (And.intro hrow1 (And.intro hf1 htl1))
          have hgl1 : g < W1.heap.size := box_lt hrow1
          clear hrow1 hf1 htl1 hfz hct
          go_region
          all_goals
            rw [HS.out.1]
            have hrow2 := box_keep (sh_setK HR1.out.1 HR1.out.2.2 (seenN ns ns.length ||| 2 ^ (k + 1))) (below_drew _)
            have hf2 := (HR1.out.2.1.then (fr_set W1 ⟨g, 13, none⟩ (.int .u16 ((seenN ns ns.length ||| 2 ^ (k + 1) : Nat) : Int))) (fun i _ e => by simpa using e)).thenB (below_drew _)
            generalize (W1.setCell ⟨g, 13, none⟩ (.int .u16 ((seenN ns ns.length ||| 2 ^ (k + 1) : Nat) : Int))).drew = W2 at *
            have HR2 := Lib.hid (And.intro hrow2 (And.intro hf2 HR1.out.2.2))
            have a1 := h1.kept hf2 z1
            have a2 := h2.kept hf2 z2
            have b1 := k1.kept hf2 z3
            have b2 := k2.kept hf2 z4
            have hfit0 := fits_any g (seenN ns ns.length ||| 2 ^ (k + 1)) (ns.length + 1) v1 v2 u1 u2 vl hl vm hm (ns ++ [(k : Int) + 1]) rk' W2 a1 a2 b1 b2 HV.out.1 HV.out.2 (by omega) (by omega) (by simp) (by have := HK.out.2; simp at this ⊢; have := HF.out; omega) (fun j hj => by
              have := HS.out.2.2.2.1
              exact good_addr (show j < (ns ++ [(k : Int) + 1]).length by simpa using hj) this) hrow2
            rw [show (((ns.length + 1 : Nat)) : Int) = (ns.length : Int) + 1 by omega] at hfit0
            have HFIT := Lib.hid hfit0
            have hPk : shP vl hl vm hm f ns k = (fitB vl hl vm hm (ns ++ [(k : Int) + 1]) (ns.length + 1) && shN vl hl vm hm f (ns ++ [(k : Int) + 1])) := by
              rw [shP, show decide (((k : Int) + 1) ∈ ns) = false by simpa using HS.out.2.2.2.2.2]; rfl
            have HPK := Lib.hid hPk
            clear hrow2 hf2 hfit0 hPk hx13 hxz
            cases hfit : fitB vl hl vm hm (ns ++ [(k : Int) + 1]) (ns.length + 1)
            · have hPF : (List.range (k + 1)).any (shP vl hl vm hm f ns) = false := by rw [any_range_succ, HANY.out, HPK.out, hfit]; rfl
              have HPF := Lib.hid hPF
              have HFT := Lib.hid hfit
              clear hPF hfit
              go_wp2_with (go_at_call 158; go_must (refine HFIT.out.mono ?_; rintro e w5 ⟨rfl, hb5⟩; rw [HFT.out]))
              have HRX := Lib.hid (And.intro (box_keep HR2.out.1 hb5) (And.intro (HR2.out.2.1.thenB hb5) HR2.out.2.2))
              clear hb5
              have hy13 := sh_tk HRX.out.1 HRX.out.2.2
              have hyz : w5.frozen? ⟨g, 13, none⟩ = false := sh_free HRX.out.1 13
              have hgy : g < w5.heap.size := box_lt HRX.out.1
              go_wp2_with fail
              go_region
              all_goals
                rw [HS.out.2.2.2.2.1]
                have hrowE := box_keep (sh_setK HRX.out.1 HRX.out.2.2 (seenN ns ns.length)) (below_drew _)
                have hfrE := (HRX.out.2.1.then (fr_set w5 ⟨g, 13, none⟩ (.int .u16 ((seenN ns ns.length : Nat) : Int))) (fun i _ e => by simpa using e)).thenB (below_drew _)
                have HE := Lib.hid (And.intro hrowE hfrE)
                clear hrowE hfrE hy13 hyz
                go_wp2_with fail
                go_roundg (gk - 1)
                case rel => exact ⟨k + 1, ((k : Int) + 1) :: rk', by have := HK.out.1; omega, by go_num, by have := HK.out.2; simp at this ⊢; omega, by have := HE.out.1; simpa using this, HE.out.2, HPF.out⟩
                case measure => have := HK.out.1; omega
            · have HFT := Lib.hid hfit
              clear hfit
              cases hrec : shN vl hl vm hm f (ns ++ [(k : Int) + 1])
              · have hPF : (List.range (k + 1)).any (shP vl hl vm hm f ns) = false := by rw [any_range_succ, HANY.out, HPK.out, hrec, Bool.and_false]; rfl
                have HPF := Lib.hid hPF
                have HREC := Lib.hid hrec
                clear hPF hrec
                go_wp2_with (first
                  | (go_at_call 158; go_must (refine HFIT.out.mono ?_; rintro e w5 ⟨rfl, hb5⟩; rw [HFT.out]))
                  | (go_at_call 80; go_must (have hI := IH.out (ns ++ [(k : Int) + 1]) rk' w5 (by have := HF.out; simp; omega) (by have := HK.out.2; simpa using this) HS.out.2.2.2.1 (a1.keep hb5) (a2.keep hb5) (b1.keep hb5) (b2.keep hb5) (by rw [← HS.out.2.1]; exact box_keep HR2.out.1 hb5); rw [show (((ns ++ [(k : Int) + 1]).length : Nat) : Int) + 1 = (ns.length : Int) + 1 + 1 by simp] at hI; refine hI.mono ?_; rintro e w6 ⟨rest'', t'', rfl, hr'', hrow6, ht6, hf6⟩; rw [HREC.out]; rw [ht6 HREC.out, ← HS.out.2.1] at hrow6; have HR6 := Lib.hid (And.intro hrow6 (And.intro ((HR2.out.2.1.thenB hb5).trans hf6) hr'')); clear hrow6 hf6 ht6 hr'' hI)))
                have HRX := Lib.hid (And.intro HR6.out.1 (And.intro HR6.out.2.1 (show (0 :: ((ns ++ [(k : Int) + 1]) ++ rest'')).length = 9 by have := HR6.out.2.2; have := HF.out; simp; omega)))
                have hlr : rest''.length = f := HR6.out.2.2
                have hy13 := sh_tk HRX.out.1 HRX.out.2.2
                have hyz : w6.frozen? ⟨g, 13, none⟩ = false := sh_free HRX.out.1 13
                have hgy : g < w6.heap.size := box_lt HRX.out.1
                go_wp2_with fail
                go_region
                all_goals
                  rw [HS.out.2.2.2.2.1]
                  have hrowE := box_keep (sh_setK HRX.out.1 HRX.out.2.2 (seenN ns ns.length)) (below_drew _)
                  have hfrE := (HRX.out.2.1.then (fr_set w6 ⟨g, 13, none⟩ (.int .u16 ((seenN ns ns.length : Nat) : Int))) (fun i _ e => by simpa using e)).thenB (below_drew _)
                  have HE := Lib.hid (And.intro hrowE hfrE)
                  clear hrowE hfrE hy13 hyz
                  go_wp2_with fail
                  go_roundg (gk - 1)
                  case rel => exact ⟨k + 1, ((k : Int) + 1) :: rest'', by have := HK.out.1; omega, by go_num, by simp; exact hlr, by have := HE.out.1; simpa using this, HE.out.2, HPF.out⟩
                  case measure => have := HK.out.1; omega
              · have hfin : shN vl hl vm hm (f + 1) ns = true := by rw [shN_succ]; exact any_range_true hk8 (by rw [HPK.out, HFT.out, hrec]; rfl)
                have HFIN := Lib.hid hfin
                have HREC := Lib.hid hrec
                clear hfin hrec
                go_wp2_with (first
                  | (go_at_call 158; go_must (refine HFIT.out.mono ?_; rintro e w5 ⟨rfl, hb5⟩; rw [HFT.out]))
                  | (go_at_call 80; go_must (have hI := IH.out (ns ++ [(k : Int) + 1]) rk' w5 (by have := HF.out; simp; omega) (by have := HK.out.2; simpa using this) HS.out.2.2.2.1 (a1.keep hb5) (a2.keep hb5) (b1.keep hb5) (b2.keep hb5) (by rw [← HS.out.2.1]; exact box_keep HR2.out.1 hb5); rw [show (((ns ++ [(k : Int) + 1]).length : Nat) : Int) + 1 = (ns.length : Int) + 1 + 1 by simp] at hI; refine hI.mono ?_; rintro e w6 ⟨rest'', t'', rfl, hr'', hrow6, ht6, hf6⟩; rw [HREC.out]; have HR6 := Lib.hid (And.intro hrow6 (And.intro ((HR2.out.2.1.thenB hb5).trans hf6) hr'')); clear hrow6 hf6 ht6 hr'' hI)))
                go_ret
                exact ⟨((k : Int) + 1) :: rest'', t'', by rw [HFIN.out]; rfl, by simp; exact HR6.out.2.2, by have := HR6.out.1; simpa using this, (fun h => by rw [HFIN.out] at h; cases h), HR6.out.2.1⟩
      · obtain rfl : k = 8 := by have := HK.out.1; omega
        have hfin : shN vl hl vm hm (f + 1) ns = false := by rw [shN_succ]; exact HANY.out
        have HFIN := Lib.hid hfin
        clear hfin
        go_wp2_with fail
        go_ret
        exact ⟨rk, _, by rw [HFIN.out]; rfl, HK.out.2, HROW.out, fun _ => rfl, HFR.out⟩
theorem own_ne {w : World} {v : Value} {l : List Int} (h : RInts w v l) (hl : 0 < l.length) {k : Nat} (hk : v.ownBlock = some k) : k < w.heap.size := by
  obtain ⟨b, o, c, rfl, _, _, hc⟩ := h.ne hl
  have : b < w.heap.size := World.block_lt_of_cell? w _ (hc 0 hl)
  simp [Value.ownBlock] at hk
  omega
set_option maxHeartbeats 1600000 in
theorem sameShapeI_any (v1 v2 u1 u2 : Value) (vl hl vm hm : List Int) (w : World) (h1 : RInts w v1 vl) (h2 : RInts w v2 hl) (k1 : RInts w u1 vm) (k2 : RInts w u2 hm) :
    Calls Try.prog 21 #[.agg #[v1, v2], .agg #[u1, u2]] w fun e w' => e = .returned (.bool (shapeB vl hl vm hm)) ∧ Below w.heap.size w w' := by
  obtain ⟨b1, c1, rfl⟩ := h1.form
  obtain ⟨b2, c2, rfl⟩ := h2.form
  obtain ⟨b3, c3, rfl⟩ := k1.form
  obtain ⟨b4, c4, rfl⟩ := k2.form
  by_cases hv : validB vl hl = true
  rotate_left
  · have hv' : validB vl hl = false := by simpa using hv
    have hfin : shapeB vl hl vm hm = false := by simp [shapeB, hv']
    have HF := Lib.hid hfin
    clear hv hfin
    go_enter Try.func21, Try.ntmps21
    go_wp2_with (go_at_call 20; ((with_reducible refine (stateValid_any _ _ vl hl _ (by repeat (first | with_reducible assumption | exact (own_ints (by assumption)).1 | apply rints_ext | apply rints_alloc | apply rints_drew)) (by repeat (first | with_reducible assumption | exact (own_ints (by assumption)).1 | apply rints_ext | apply rints_alloc | apply rints_drew))).mono ?_); rintro e w' ⟨rfl, hb⟩; obtain ⟨x, rfl⟩ := to_ext hb; clear hb))
    go_ret
    exact ⟨by rw [HF.out]; rfl, (by repeat (first | exact Below.refl _ _ | with_reducible assumption | exact below_alloc _ _ | (refine Below.setCell ?_ (by first | (simp; done) | (simp; omega) | omega) _) | apply bd | apply ba | apply be))⟩
  by_cases hw : validB vm hm = true
  rotate_left
  · have hw' : validB vm hm = false := by simpa using hw
    have hfin : shapeB vl hl vm hm = false := by simp [shapeB, hw']
    have HF := Lib.hid hfin
    clear hw hfin
    go_enter Try.func21, Try.ntmps21
    go_wp2_with ((go_at_call 20; go_must (((with_reducible refine (stateValid_any _ _ _ _ _ (by repeat (first | with_reducible assumption | exact (own_ints (by assumption)).1 | apply rints_ext | apply rints_alloc | apply rints_drew)) (by repeat (first | with_reducible assumption | exact (own_ints (by assumption)).1 | apply rints_ext | apply rints_alloc | apply rints_drew))).mono ?_); rintro e w' ⟨rfl, hb⟩; (first | obtain ⟨x, rfl⟩ := to_ext2 hb | obtain ⟨x, rfl⟩ := to_ext hb); clear hb))))
    go_ret
    exact ⟨by rw [HF.out]; rfl, (by repeat (first | exact Below.refl _ _ | with_reducible assumption | exact below_alloc _ _ | (refine Below.setCell ?_ (by first | (simp; done) | (simp; omega) | omega) _) | apply bd | apply ba | apply be))⟩
  have hfin : shapeB vl hl vm hm = shN vl hl vm hm 8 [] := by simp [shapeB, hv, hw]
  have HF := Lib.hid hfin
  have l1 := valid_len hv
  have l2 := valid_len hw
  have HL := Lib.hid (And.intro l1 l2)
  have HV := Lib.hid (And.intro hv hw)
  clear hfin l1 l2
  go_enter Try.func21, Try.ntmps21
  go_wp2_with ((go_at_call 20; go_must (((with_reducible refine (stateValid_any _ _ _ _ _ (by repeat (first | with_reducible assumption | exact (own_ints (by assumption)).1 | apply rints_ext | apply rints_alloc | apply rints_drew)) (by repeat (first | with_reducible assumption | exact (own_ints (by assumption)).1 | apply rints_ext | apply rints_alloc | apply rints_drew))).mono ?_); rintro e w' ⟨rfl, hb⟩; (first | obtain ⟨x, rfl⟩ := to_ext2 hb | obtain ⟨x, rfl⟩ := to_ext hb); clear hb))))
  generalize hW0 : ext ((w.alloc (.cells #[.slice b1 vl.length c1, .slice b2 hl.length c2] 25)).alloc (.cells #[.slice b3 vm.length c3, .slice b4 hm.length c4] 25)) x = W0 at *
  have hbw : Below w.heap.size w W0 := by rw [← hW0]; exact be (ba (below_alloc _ _) _) x
  clear hW0
  have q1 := h1.keep hbw
  have q2 := h2.keep hbw
  have q3 := k1.keep hbw
  have q4 := k2.keep hbw
  have hrow : (W0.alloc (.cells #[.slice b1 vl.length c1, .slice b2 hl.length c2, .slice b3 vm.length c3, .slice b4 hm.length c4, .int .i64 0, .int .i64 0, .int .i64 0, .int .i64 0, .int .i64 0, .int .i64 0, .int .i64 0, .int .i64 0, .int .i64 0, .int .u16 0] 115)).heap[W0.heap.size]? = some (.cells (shBlk (.slice b1 vl.length c1) (.slice b2 hl.length c2) (.slice b3 vm.length c3) (.slice b4 hm.length c4) (0 :: ([] ++ reps 0 8)) (seenN [] ([] : List Int).length)) 115 (0, 0)) := heap_alloc_new _ _
  have hL := HL.out
  refine (from_any _ _ _ _ vl hl vm hm HV.out.1 HV.out.2 W0.heap.size (fun k hk e => by have := own_ne q1 (by omega) hk; omega) (fun k hk e => by have := own_ne q2 (by omega) hk; omega) (fun k hk e => by have := own_ne q3 (by omega) hk; omega) (fun k hk e => by have := own_ne q4 (by omega) hk; omega) 8 [] (reps 0 8) _ rfl (reps_len 0 8) goodL_nil (q1.alloc _) (q2.alloc _) (q3.alloc _) (q4.alloc _) hrow).mono ?_
  rintro e w5 ⟨rest', t', rfl, _, _, _, hf⟩
  have hb5 : Below w.heap.size w w5 := (ba hbw _).trans (hf.below (by simp; have := hbw.size; omega) (fun j hj e => by have := hbw.size; omega))
  clear hf hrow
  go_wp2_with fail
  go_ret
  exact ⟨by rw [HF.out]; rfl, hb5⟩
end Go.Proofs.Ythoingdcmdhllaa
