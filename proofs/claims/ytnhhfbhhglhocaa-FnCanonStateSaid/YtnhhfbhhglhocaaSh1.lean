/- Walks: the program's search for names: fits. -/
import Derived.Test.YtnhhfbhhglhocaaShape
import Derived.Test.YtnhhfbhhglhocaaRn6
import Derived.Test.YtnhhfbhhglhocaaSame
import Derived.Test.YtnhhfbhhglhocaaCan1
import Derived.Deep.MidRow
namespace Go.Proofs.Ytnhhfbhhglhocaa
open Go.RowKit

/-- The cells of a search. -/
def shBlk (v1 v2 u1 u2 : Value) (tl : List Int) (t : Nat) : Array Value := ([v1, v2, u1, u2] ++ (ints tl ++ [Value.int .u16 (t : Int)])).toArray
section
variable {w : World} {g t : Nat} {T : TypeId} {v1 v2 u1 u2 : Value} {tl : List Int}
theorem sh_0 (h : w.heap[g]? = some (.cells (shBlk v1 v2 u1 u2 tl t) T (0, 0))) : w.cell? ⟨g, 0, none⟩ = some v1 := by rw [cell_of_row w g 0 _ _ _ h]; simp [shBlk]
theorem sh_1 (h : w.heap[g]? = some (.cells (shBlk v1 v2 u1 u2 tl t) T (0, 0))) : w.cell? ⟨g, 1, none⟩ = some v2 := by rw [cell_of_row w g 1 _ _ _ h]; simp [shBlk]
theorem sh_2 (h : w.heap[g]? = some (.cells (shBlk v1 v2 u1 u2 tl t) T (0, 0))) : w.cell? ⟨g, 2, none⟩ = some u1 := by rw [cell_of_row w g 2 _ _ _ h]; simp [shBlk]
theorem sh_3 (h : w.heap[g]? = some (.cells (shBlk v1 v2 u1 u2 tl t) T (0, 0))) : w.cell? ⟨g, 3, none⟩ = some u2 := by rw [cell_of_row w g 3 _ _ _ h]; simp [shBlk]
theorem sh_tab (h : w.heap[g]? = some (.cells (shBlk v1 v2 u1 u2 tl t) T (0, 0))) (i : Nat) (hi : i < tl.length) : w.cell? ⟨g, 4 + i, none⟩ = some (.int .i64 (gi tl i)) := by
  rw [cell_of_row w g (4 + i) _ _ _ h, shBlk, List.getElem?_toArray, List.getElem?_append_right (by simp), List.getElem?_append_left (by simp [ints]; omega)]
  simp [ints, hi, gi_of]
theorem sh_tk (h : w.heap[g]? = some (.cells (shBlk v1 v2 u1 u2 tl t) T (0, 0))) (hl : tl.length = 9) : w.cell? ⟨g, 13, none⟩ = some (.int .u16 t) := by
  rw [cell_of_row w g 13 _ _ _ h, shBlk, List.getElem?_toArray, List.getElem?_append_right (by simp), List.getElem?_append_right (by simp [ints, hl])]
  simp [ints, hl]
theorem sh_free (h : w.heap[g]? = some (.cells (shBlk v1 v2 u1 u2 tl t) T (0, 0))) (i : Nat) : w.frozen? ⟨g, i, none⟩ = false := frozen_of_row w g i _ _ h
theorem sh_setT (h : w.heap[g]? = some (.cells (shBlk v1 v2 u1 u2 tl t) T (0, 0))) (i : Nat) (hi : i < tl.length) (x : Int) : (w.setCell ⟨g, 4 + i, none⟩ (.int .i64 x)).heap[g]? = some (.cells (shBlk v1 v2 u1 u2 (tl.set i x) t) T (0, 0)) := by
  rw [heap_setCell_same w g (4 + i) _ T _ h]
  congr 2
  simp only [shBlk]
  rw [List.setIfInBounds_toArray, List.set_append_right _ _ (by simp), List.set_append_left _ _ (by simp [ints]; omega)]
  simp [ints, List.map_set]
theorem sh_setK (h : w.heap[g]? = some (.cells (shBlk v1 v2 u1 u2 tl t) T (0, 0))) (hl : tl.length = 9) (s : Nat) : (w.setCell ⟨g, 13, none⟩ (.int .u16 s)).heap[g]? = some (.cells (shBlk v1 v2 u1 u2 tl s) T (0, 0)) := by
  rw [heap_setCell_same w g 13 _ T _ h]
  congr 2
  simp only [shBlk]
  rw [List.setIfInBounds_toArray, List.set_append_right _ _ (by simp), List.set_append_right _ _ (by simp [ints, hl])]
  simp [ints, hl]
end

/-- The three parts of fitB. -/
def fitA (vl vm ns : List Int) (n k : Nat) : Bool := (List.range k).all fun i => (gi vl i == (n : Int)) == (gi vm i == gi ns (n - 1))
def fitC (hl hm ns : List Int) (n : Nat) : Bool := !((decide (ct hl n < 1) || decide (ct hm (gi ns (n - 1)) < 1)) && (ct hl n != ct hm (gi ns (n - 1))))
def fitD (hl hm ns : List Int) (n k : Nat) : Bool := (List.range k).all fun k => ((ct hl n == (k : Int) + 1) == (ct hm (gi ns (n - 1)) == gi ns k)) && ((ct hl ((k : Int) + 1) == (n : Int)) == (ct hm (gi ns k) == gi ns (n - 1)))
theorem fit_parts (vl hl vm hm ns : List Int) (n : Nat) : fitB vl hl vm hm ns n = (fitA vl vm ns n 8 && (fitC hl hm ns n && fitD hl hm ns n n)) := rfl
theorem all_range_succ (p : Nat → Bool) (k : Nat) : (List.range (k + 1)).all p = ((List.range k).all p && p k) := by
  rw [List.range_succ, List.all_append]; simp
theorem all_range_false {p : Nat → Bool} {k m : Nat} (hk : k < m) (h : p k = false) : (List.range m).all p = false := by
  rw [List.all_eq_false]
  exact ⟨k, List.mem_range.2 hk, by simp [h]⟩

set_option maxHeartbeats 3200000 in
theorem fits_any (g t n : Nat) (v1 v2 u1 u2 : Value) (vl hl vm hm ns rest : List Int) (w : World) (h1 : RInts w v1 vl) (h2 : RInts w v2 hl) (k1 : RInts w u1 vm) (k2 : RInts w u2 hm)
    (hv : validB vl hl = true) (hw : validB vm hm = true) (hn1 : 1 ≤ n) (hn8 : n ≤ 8) (hnl : ns.length = n) (hrl : rest.length + n = 8) (hadr : ∀ k, k < n → 1 ≤ gi ns k ∧ gi ns k ≤ 8)
    (hb : w.heap[g]? = some (.cells (shBlk v1 v2 u1 u2 (0 :: (ns ++ rest)) t) 92 (0, 0))) :
    Calls Try.prog 125 #[.pointer (some ⟨g, 0, none⟩), .int .i64 n] w fun e w' => e = .returned (.bool (fitB vl hl vm hm ns n)) ∧ Below w.heap.size w w' := by
  have l1 := valid_len hv
  have l2 := valid_len hw
  obtain ⟨b1, o1, c1, rfl, _, _, cellv⟩ := h1.ne (by omega)
  obtain ⟨d1, p1, e1, rfl, _, _, cellu⟩ := k1.ne (by omega)
  rw [l1.1] at cellv hb h1
  rw [l2.1] at cellu hb k1
  have htl : (0 :: (ns ++ rest)).length = 9 := by simp; omega
  have htab : ∀ k, k < n → gi (0 :: (ns ++ rest)) (k + 1) = gi ns k := by
    intro k hk
    have : gi (0 :: (ns ++ rest)) (k + 1) = gi (ns ++ rest) k := by simp [gi]
    rw [this, gi_app, if_pos (by omega)]
  obtain ⟨M, hM⟩ : ∃ M : Nat, gi ns (n - 1) = (M : Int) := ⟨(gi ns (n - 1)).toNat, by have := hadr (n - 1) (by omega); omega⟩
  have hM8 := hadr (n - 1) (by omega)
  rw [hM] at hM8
  have hcm : w.cell? ⟨g, 4 + n, none⟩ = some (.int .i64 (M : Int)) := by
    rw [sh_tab hb n (by rw [htl]; omega), ← hM]
    have := htab (n - 1) (by omega)
    rw [show n - 1 + 1 = n by omega] at this
    rw [this]
  have hc0 := sh_0 hb
  have hc1 := sh_1 hb
  have hc2 := sh_2 hb
  have hc3 := sh_3 hb
  have hgl : g < w.heap.size := box_lt hb
  have hct : ∀ k, k < n → w.cell? ⟨g, 4 + (k + 1), none⟩ = some (.int .i64 (gi ns k)) := fun k hk => by rw [sh_tab hb (k + 1) (by rw [htl]; omega), htab k hk]
  have HCT := Lib.hid hct
  have CV := Lib.hid cellv
  have CU := Lib.hid cellu
  have HM := Lib.hid hM
  have HADR := Lib.hid hadr
  have HP := Lib.hid (fit_parts vl hl vm hm ns n)
  have hni : (n : Int) < 9 := by omega
  have hh1 : 8 ≤ hl.length := by omega
  have hh2 : 8 ≤ hm.length := by omega
  clear cellv cellu hM hadr hct htab htl hb hv hw l1 l2 h1 k1 hnl hrl
  go_enter Try.func125, Try.ntmps125
  go_wp2
  go_loopg [23] 8 (fun q i wr => ∃ k : Nat, k + q = 8 ∧ i = .int .i64 k ∧ fitA vl vm ns n k = true ∧ w = wr)
  case atStart => exact ⟨0, by omega, rfl, rfl, rfl⟩
  case round =>
    obtain ⟨k, hk, rfl, hA, rfl⟩ := hrel
    have HK := Lib.hid hk
    have HA := Lib.hid hA
    clear hk hA
    by_cases hk8 : k < 8
    · have hki : (k : Int) < 8 := by omega
      have hcv := CV.out k hk8
      have hcu := CU.out k hk8
      have hstep : fitA vl vm ns n (k + 1) = (fitA vl vm ns n k && ((gi vl k == (n : Int)) == (gi vm k == gi ns (n - 1)))) := all_range_succ _ _
      rw [HA.out, HM.out, Bool.true_and] at hstep
      by_cases x1 : gi vl k = (n : Int)
      all_goals by_cases x2 : gi vm k = (M : Int)
      · have y1 : (gi vl k == (n : Int)) = true := by simpa using x1
        have y2 : (gi vm k == (M : Int)) = true := by simpa using x2
        rw [y1, y2] at hstep
        have HS := Lib.hid hstep
        clear x1 x2 hstep
        go_wp2
        go_roundg (gk - 1)
        case rel => exact ⟨k + 1, by have := HK.out; omega, by go_num, HS.out, rfl⟩
        case measure => have := HK.out; omega
      · have y1 : (gi vl k == (n : Int)) = true := by simpa using x1
        have y2 : (gi vm k == (M : Int)) = false := by simpa using x2
        rw [y1, y2] at hstep
        have hfin : fitB vl hl vm hm ns n = false := by
          have : fitA vl vm ns n 8 = false := all_range_false hk8 (by rw [HM.out, y1, y2]; rfl)
          rw [HP.out, this]; rfl
        have HF := Lib.hid hfin
        clear x1 x2 hstep hfin
        go_wp2
        go_ret
        exact ⟨by rw [HF.out]; rfl, Below.refl _ _⟩
      · have y1 : (gi vl k == (n : Int)) = false := by simpa using x1
        have y2 : (gi vm k == (M : Int)) = true := by simpa using x2
        rw [y1, y2] at hstep
        have hfin : fitB vl hl vm hm ns n = false := by
          have : fitA vl vm ns n 8 = false := all_range_false hk8 (by rw [HM.out, y1, y2]; rfl)
          rw [HP.out, this]; rfl
        have HF := Lib.hid hfin
        clear x1 x2 hstep hfin
        go_wp2
        go_ret
        exact ⟨by rw [HF.out]; rfl, Below.refl _ _⟩
      · have y1 : (gi vl k == (n : Int)) = false := by simpa using x1
        have y2 : (gi vm k == (M : Int)) = false := by simpa using x2
        rw [y1, y2] at hstep
        have HS := Lib.hid hstep
        clear x1 x2 hstep
        go_wp2
        go_roundg (gk - 1)
        case rel => exact ⟨k + 1, by have := HK.out; omega, by go_num, HS.out, rfl⟩
        case measure => have := HK.out; omega
    · obtain rfl : k = 8 := by have := HK.out; omega
      go_wp2
      refine wp_region_ext (by kernel_rfl) (by kernel_rfl) ?_
      repeat (go_big_quiet_step ((go_at_call 93; exact ext_c (content_any _ _ _ _ _ (by first | exact h2.ext _ | exact k2.ext _) (by first | exact hh1 | exact hh2)))))
      refine wpQuiet_nil ?_
      intro w2 hb2
      have hCe : fitC hl hm ns n = !((decide (ct hl (n : Int) < 1) || decide (ct hm (M : Int) < 1)) && (ct hl (n : Int) != ct hm (M : Int))) := by unfold fitC; rw [HM.out]
      have HCE := Lib.hid hCe
      clear hCe
      cases hA : decide (ct hl (n : Int) < 1)
      all_goals cases hB : decide (ct hm (M : Int) < 1)
      · have hC : fitC hl hm ns n = true := by rw [HCE.out, hA, hB]; rfl
        have HC := Lib.hid hC
        clear hC
        go_wp2
        go_loopg [10] n (fun q i wr => ∃ k : Nat, k + q = n ∧ i = .int .i64 ((k : Int) + 1) ∧ fitD hl hm ns n k = true ∧ Below w.heap.size w wr)
        case atStart => exact ⟨0, by omega, rfl, rfl, hb2⟩
        case round =>
          obtain ⟨k, hk, rfl, hD, hb⟩ := hrel
          clear HK
          have HK := Lib.hid hk
          have HD := Lib.hid hD
          clear hk hD
          have x0 := cell_keep hb hc0
          have x1 := cell_keep hb hc1
          have x2 := cell_keep hb hc2
          have x3 := cell_keep hb hc3
          have r2 := h2.keep hb
          have s2 := k2.keep hb
          have hgr : g < wr.heap.size := World.block_lt_of_cell? wr _ x0
          by_cases hkn : k < n
          · have hki : (k : Int) + 1 ≤ (n : Int) := by omega
            have hk9 : (k : Int) + 1 < 9 := by omega
            have xt := cell_keep hb (HCT.out k hkn)
            have ha8 := HADR.out k hkn
            have hstep : fitD hl hm ns n (k + 1) = (fitD hl hm ns n k && (((ct hl n == (k : Int) + 1) == (ct hm (gi ns (n - 1)) == gi ns k)) && ((ct hl ((k : Int) + 1) == (n : Int)) == (ct hm (gi ns k) == gi ns (n - 1))))) := all_range_succ _ _
            rw [HD.out, HM.out, Bool.true_and] at hstep
            have HS := Lib.hid hstep
            have hbad : (((ct hl n == (k : Int) + 1) == (ct hm (M : Int) == gi ns k)) && ((ct hl ((k : Int) + 1) == (n : Int)) == (ct hm (gi ns k) == (M : Int)))) = false → fitB vl hl vm hm ns n = false := by
              intro hx
              have : fitD hl hm ns n n = false := all_range_false hkn (by rw [HM.out]; exact hx)
              rw [HP.out, this, Bool.and_false, Bool.and_false]
            have HBAD := Lib.hid hbad
            clear hstep hbad
            cases y1 : (ct hl (n : Int) == (k : Int) + 1)
            all_goals cases y2 : (ct hm (M : Int) == gi ns k)
            · cases z1 : (ct hl ((k : Int) + 1) == (n : Int))
              all_goals cases z2 : (ct hm (gi ns k) == (M : Int))
              · have HF : Hid (fitD hl hm ns n (k + 1) = true) := Lib.hid (by rw [HS.out, y1, y2, z1, z2]; rfl)
                clear HBAD HS
                go_wp2
                refine wp_region_ext (by kernel_rfl) (by kernel_rfl) ?_
                repeat (go_big_quiet_step ((go_at_call 93; exact ext_c (content_any _ _ _ _ _ (by first | exact r2.ext _ | exact s2.ext _) (by first | exact hh1 | exact hh2)))))
                refine wpQuiet_nil ?_
                intro w5 hb5
                go_wp2
                go_roundg (gk - 1)
                case rel => exact ⟨k + 1, by have := HK.out; omega, by go_num, HF.out, bt hb hb5⟩
                case measure => have := HK.out; omega
              · have HF := Lib.hid (HBAD.out (by rw [y1, y2, z1, z2]; rfl))
                clear HBAD HS
                go_wp2
                refine wp_region_ext (by kernel_rfl) (by kernel_rfl) ?_
                repeat (go_big_quiet_step ((go_at_call 93; exact ext_c (content_any _ _ _ _ _ (by first | exact r2.ext _ | exact s2.ext _) (by first | exact hh1 | exact hh2)))))
                refine wpQuiet_nil ?_
                intro w5 hb5
                go_wp2
                go_ret
                exact ⟨by rw [HF.out]; rfl, bt hb hb5⟩
              · have HF := Lib.hid (HBAD.out (by rw [y1, y2, z1, z2]; rfl))
                clear HBAD HS
                go_wp2
                refine wp_region_ext (by kernel_rfl) (by kernel_rfl) ?_
                repeat (go_big_quiet_step ((go_at_call 93; exact ext_c (content_any _ _ _ _ _ (by first | exact r2.ext _ | exact s2.ext _) (by first | exact hh1 | exact hh2)))))
                refine wpQuiet_nil ?_
                intro w5 hb5
                go_wp2
                go_ret
                exact ⟨by rw [HF.out]; rfl, bt hb hb5⟩
              · have HF : Hid (fitD hl hm ns n (k + 1) = true) := Lib.hid (by rw [HS.out, y1, y2, z1, z2]; rfl)
                clear HBAD HS
                go_wp2
                refine wp_region_ext (by kernel_rfl) (by kernel_rfl) ?_
                repeat (go_big_quiet_step ((go_at_call 93; exact ext_c (content_any _ _ _ _ _ (by first | exact r2.ext _ | exact s2.ext _) (by first | exact hh1 | exact hh2)))))
                refine wpQuiet_nil ?_
                intro w5 hb5
                go_wp2
                go_roundg (gk - 1)
                case rel => exact ⟨k + 1, by have := HK.out; omega, by go_num, HF.out, bt hb hb5⟩
                case measure => have := HK.out; omega
            · have HF := Lib.hid (HBAD.out (by rw [y1, y2]; rfl))
              clear HBAD HS
              go_wp2
              go_ret
              exact ⟨by rw [HF.out]; rfl, hb⟩
            · have HF := Lib.hid (HBAD.out (by rw [y1, y2]; rfl))
              clear HBAD HS
              go_wp2
              go_ret
              exact ⟨by rw [HF.out]; rfl, hb⟩
            · cases z1 : (ct hl ((k : Int) + 1) == (n : Int))
              all_goals cases z2 : (ct hm (gi ns k) == (M : Int))
              · have HF : Hid (fitD hl hm ns n (k + 1) = true) := Lib.hid (by rw [HS.out, y1, y2, z1, z2]; rfl)
                clear HBAD HS
                go_wp2
                refine wp_region_ext (by kernel_rfl) (by kernel_rfl) ?_
                repeat (go_big_quiet_step ((go_at_call 93; exact ext_c (content_any _ _ _ _ _ (by first | exact r2.ext _ | exact s2.ext _) (by first | exact hh1 | exact hh2)))))
                refine wpQuiet_nil ?_
                intro w5 hb5
                go_wp2
                go_roundg (gk - 1)
                case rel => exact ⟨k + 1, by have := HK.out; omega, by go_num, HF.out, bt hb hb5⟩
                case measure => have := HK.out; omega
              · have HF := Lib.hid (HBAD.out (by rw [y1, y2, z1, z2]; rfl))
                clear HBAD HS
                go_wp2
                refine wp_region_ext (by kernel_rfl) (by kernel_rfl) ?_
                repeat (go_big_quiet_step ((go_at_call 93; exact ext_c (content_any _ _ _ _ _ (by first | exact r2.ext _ | exact s2.ext _) (by first | exact hh1 | exact hh2)))))
                refine wpQuiet_nil ?_
                intro w5 hb5
                go_wp2
                go_ret
                exact ⟨by rw [HF.out]; rfl, bt hb hb5⟩
              · have HF := Lib.hid (HBAD.out (by rw [y1, y2, z1, z2]; rfl))
                clear HBAD HS
                go_wp2
                refine wp_region_ext (by kernel_rfl) (by kernel_rfl) ?_
                repeat (go_big_quiet_step ((go_at_call 93; exact ext_c (content_any _ _ _ _ _ (by first | exact r2.ext _ | exact s2.ext _) (by first | exact hh1 | exact hh2)))))
                refine wpQuiet_nil ?_
                intro w5 hb5
                go_wp2
                go_ret
                exact ⟨by rw [HF.out]; rfl, bt hb hb5⟩
              · have HF : Hid (fitD hl hm ns n (k + 1) = true) := Lib.hid (by rw [HS.out, y1, y2, z1, z2]; rfl)
                clear HBAD HS
                go_wp2
                refine wp_region_ext (by kernel_rfl) (by kernel_rfl) ?_
                repeat (go_big_quiet_step ((go_at_call 93; exact ext_c (content_any _ _ _ _ _ (by first | exact r2.ext _ | exact s2.ext _) (by first | exact hh1 | exact hh2)))))
                refine wpQuiet_nil ?_
                intro w5 hb5
                go_wp2
                go_roundg (gk - 1)
                case rel => exact ⟨k + 1, by have := HK.out; omega, by go_num, HF.out, bt hb hb5⟩
                case measure => have := HK.out; omega
          · obtain rfl : k = n := by have := HK.out; omega
            have hfin : fitB vl hl vm hm ns k = true := by rw [HP.out, HA.out, HC.out, HD.out]; rfl
            have HF := Lib.hid hfin
            clear hfin
            go_wp2
            go_ret
            exact ⟨by rw [HF.out]; rfl, hb⟩
      · cases hAB : (ct hl (n : Int) != ct hm (M : Int))
        · exfalso
          have h1 : ct hl (n : Int) = ct hm (M : Int) := by simpa using hAB
          rw [h1] at hA
          rw [hA] at hB; cases hB
        have hC : fitC hl hm ns n = false := by rw [HCE.out, hA, hB, hAB]; rfl
        have hfin : fitB vl hl vm hm ns n = false := by rw [HP.out, hC, Bool.false_and, Bool.and_false]
        have HF := Lib.hid hfin
        clear hfin hC
        go_wp2
        go_ret
        exact ⟨by rw [HF.out]; rfl, hb2⟩
      · cases hAB : (ct hl (n : Int) != ct hm (M : Int))
        · exfalso
          have h1 : ct hl (n : Int) = ct hm (M : Int) := by simpa using hAB
          rw [h1] at hA
          rw [hA] at hB; cases hB
        have hC : fitC hl hm ns n = false := by rw [HCE.out, hA, hB, hAB]; rfl
        have hfin : fitB vl hl vm hm ns n = false := by rw [HP.out, hC, Bool.false_and, Bool.and_false]
        have HF := Lib.hid hfin
        clear hfin hC
        go_wp2
        go_ret
        exact ⟨by rw [HF.out]; rfl, hb2⟩
      · cases hAB : (ct hl (n : Int) != ct hm (M : Int))
        · have hC : fitC hl hm ns n = true := by rw [HCE.out, hA, hB, hAB]; rfl
          have HC := Lib.hid hC
          clear hC
          go_wp2
          go_loopg [10] n (fun q i wr => ∃ k : Nat, k + q = n ∧ i = .int .i64 ((k : Int) + 1) ∧ fitD hl hm ns n k = true ∧ Below w.heap.size w wr)
          case atStart => exact ⟨0, by omega, rfl, rfl, hb2⟩
          case round =>
            obtain ⟨k, hk, rfl, hD, hb⟩ := hrel
            clear HK
            have HK := Lib.hid hk
            have HD := Lib.hid hD
            clear hk hD
            have x0 := cell_keep hb hc0
            have x1 := cell_keep hb hc1
            have x2 := cell_keep hb hc2
            have x3 := cell_keep hb hc3
            have r2 := h2.keep hb
            have s2 := k2.keep hb
            have hgr : g < wr.heap.size := World.block_lt_of_cell? wr _ x0
            by_cases hkn : k < n
            · have hki : (k : Int) + 1 ≤ (n : Int) := by omega
              have hk9 : (k : Int) + 1 < 9 := by omega
              have xt := cell_keep hb (HCT.out k hkn)
              have ha8 := HADR.out k hkn
              have hstep : fitD hl hm ns n (k + 1) = (fitD hl hm ns n k && (((ct hl n == (k : Int) + 1) == (ct hm (gi ns (n - 1)) == gi ns k)) && ((ct hl ((k : Int) + 1) == (n : Int)) == (ct hm (gi ns k) == gi ns (n - 1))))) := all_range_succ _ _
              rw [HD.out, HM.out, Bool.true_and] at hstep
              have HS := Lib.hid hstep
              have hbad : (((ct hl n == (k : Int) + 1) == (ct hm (M : Int) == gi ns k)) && ((ct hl ((k : Int) + 1) == (n : Int)) == (ct hm (gi ns k) == (M : Int)))) = false → fitB vl hl vm hm ns n = false := by
                intro hx
                have : fitD hl hm ns n n = false := all_range_false hkn (by rw [HM.out]; exact hx)
                rw [HP.out, this, Bool.and_false, Bool.and_false]
              have HBAD := Lib.hid hbad
              clear hstep hbad
              cases y1 : (ct hl (n : Int) == (k : Int) + 1)
              all_goals cases y2 : (ct hm (M : Int) == gi ns k)
              · cases z1 : (ct hl ((k : Int) + 1) == (n : Int))
                all_goals cases z2 : (ct hm (gi ns k) == (M : Int))
                · have HF : Hid (fitD hl hm ns n (k + 1) = true) := Lib.hid (by rw [HS.out, y1, y2, z1, z2]; rfl)
                  clear HBAD HS
                  go_wp2
                  refine wp_region_ext (by kernel_rfl) (by kernel_rfl) ?_
                  repeat (go_big_quiet_step ((go_at_call 93; exact ext_c (content_any _ _ _ _ _ (by first | exact r2.ext _ | exact s2.ext _) (by first | exact hh1 | exact hh2)))))
                  refine wpQuiet_nil ?_
                  intro w5 hb5
                  go_wp2
                  go_roundg (gk - 1)
                  case rel => exact ⟨k + 1, by have := HK.out; omega, by go_num, HF.out, bt hb hb5⟩
                  case measure => have := HK.out; omega
                · have HF := Lib.hid (HBAD.out (by rw [y1, y2, z1, z2]; rfl))
                  clear HBAD HS
                  go_wp2
                  refine wp_region_ext (by kernel_rfl) (by kernel_rfl) ?_
                  repeat (go_big_quiet_step ((go_at_call 93; exact ext_c (content_any _ _ _ _ _ (by first | exact r2.ext _ | exact s2.ext _) (by first | exact hh1 | exact hh2)))))
                  refine wpQuiet_nil ?_
                  intro w5 hb5
                  go_wp2
                  go_ret
                  exact ⟨by rw [HF.out]; rfl, bt hb hb5⟩
                · have HF := Lib.hid (HBAD.out (by rw [y1, y2, z1, z2]; rfl))
                  clear HBAD HS
                  go_wp2
                  refine wp_region_ext (by kernel_rfl) (by kernel_rfl) ?_
                  repeat (go_big_quiet_step ((go_at_call 93; exact ext_c (content_any _ _ _ _ _ (by first | exact r2.ext _ | exact s2.ext _) (by first | exact hh1 | exact hh2)))))
                  refine wpQuiet_nil ?_
                  intro w5 hb5
                  go_wp2
                  go_ret
                  exact ⟨by rw [HF.out]; rfl, bt hb hb5⟩
                · have HF : Hid (fitD hl hm ns n (k + 1) = true) := Lib.hid (by rw [HS.out, y1, y2, z1, z2]; rfl)
                  clear HBAD HS
                  go_wp2
                  refine wp_region_ext (by kernel_rfl) (by kernel_rfl) ?_
                  repeat (go_big_quiet_step ((go_at_call 93; exact ext_c (content_any _ _ _ _ _ (by first | exact r2.ext _ | exact s2.ext _) (by first | exact hh1 | exact hh2)))))
                  refine wpQuiet_nil ?_
                  intro w5 hb5
                  go_wp2
                  go_roundg (gk - 1)
                  case rel => exact ⟨k + 1, by have := HK.out; omega, by go_num, HF.out, bt hb hb5⟩
                  case measure => have := HK.out; omega
              · have HF := Lib.hid (HBAD.out (by rw [y1, y2]; rfl))
                clear HBAD HS
                go_wp2
                go_ret
                exact ⟨by rw [HF.out]; rfl, hb⟩
              · have HF := Lib.hid (HBAD.out (by rw [y1, y2]; rfl))
                clear HBAD HS
                go_wp2
                go_ret
                exact ⟨by rw [HF.out]; rfl, hb⟩
              · cases z1 : (ct hl ((k : Int) + 1) == (n : Int))
                all_goals cases z2 : (ct hm (gi ns k) == (M : Int))
                · have HF : Hid (fitD hl hm ns n (k + 1) = true) := Lib.hid (by rw [HS.out, y1, y2, z1, z2]; rfl)
                  clear HBAD HS
                  go_wp2
                  refine wp_region_ext (by kernel_rfl) (by kernel_rfl) ?_
                  repeat (go_big_quiet_step ((go_at_call 93; exact ext_c (content_any _ _ _ _ _ (by first | exact r2.ext _ | exact s2.ext _) (by first | exact hh1 | exact hh2)))))
                  refine wpQuiet_nil ?_
                  intro w5 hb5
                  go_wp2
                  go_roundg (gk - 1)
                  case rel => exact ⟨k + 1, by have := HK.out; omega, by go_num, HF.out, bt hb hb5⟩
                  case measure => have := HK.out; omega
                · have HF := Lib.hid (HBAD.out (by rw [y1, y2, z1, z2]; rfl))
                  clear HBAD HS
                  go_wp2
                  refine wp_region_ext (by kernel_rfl) (by kernel_rfl) ?_
                  repeat (go_big_quiet_step ((go_at_call 93; exact ext_c (content_any _ _ _ _ _ (by first | exact r2.ext _ | exact s2.ext _) (by first | exact hh1 | exact hh2)))))
                  refine wpQuiet_nil ?_
                  intro w5 hb5
                  go_wp2
                  go_ret
                  exact ⟨by rw [HF.out]; rfl, bt hb hb5⟩
                · have HF := Lib.hid (HBAD.out (by rw [y1, y2, z1, z2]; rfl))
                  clear HBAD HS
                  go_wp2
                  refine wp_region_ext (by kernel_rfl) (by kernel_rfl) ?_
                  repeat (go_big_quiet_step ((go_at_call 93; exact ext_c (content_any _ _ _ _ _ (by first | exact r2.ext _ | exact s2.ext _) (by first | exact hh1 | exact hh2)))))
                  refine wpQuiet_nil ?_
                  intro w5 hb5
                  go_wp2
                  go_ret
                  exact ⟨by rw [HF.out]; rfl, bt hb hb5⟩
                · have HF : Hid (fitD hl hm ns n (k + 1) = true) := Lib.hid (by rw [HS.out, y1, y2, z1, z2]; rfl)
                  clear HBAD HS
                  go_wp2
                  refine wp_region_ext (by kernel_rfl) (by kernel_rfl) ?_
                  repeat (go_big_quiet_step ((go_at_call 93; exact ext_c (content_any _ _ _ _ _ (by first | exact r2.ext _ | exact s2.ext _) (by first | exact hh1 | exact hh2)))))
                  refine wpQuiet_nil ?_
                  intro w5 hb5
                  go_wp2
                  go_roundg (gk - 1)
                  case rel => exact ⟨k + 1, by have := HK.out; omega, by go_num, HF.out, bt hb hb5⟩
                  case measure => have := HK.out; omega
            · obtain rfl : k = n := by have := HK.out; omega
              have hfin : fitB vl hl vm hm ns k = true := by rw [HP.out, HA.out, HC.out, HD.out]; rfl
              have HF := Lib.hid hfin
              clear hfin
              go_wp2
              go_ret
              exact ⟨by rw [HF.out]; rfl, hb⟩
        · have hC : fitC hl hm ns n = false := by rw [HCE.out, hA, hB, hAB]; rfl
          have hfin : fitB vl hl vm hm ns n = false := by rw [HP.out, hC, Bool.false_and, Bool.and_false]
          have HF := Lib.hid hfin
          clear hfin hC
          go_wp2
          go_ret
          exact ⟨by rw [HF.out]; rfl, hb2⟩
end Go.Proofs.Ytnhhfbhhglhocaa
