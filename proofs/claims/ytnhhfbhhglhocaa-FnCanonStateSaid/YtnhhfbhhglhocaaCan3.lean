/- Walks: the reference's order of addresses. -/
import Derived.Test.YtnhhfbhhglhocaaCan2
namespace Go.Proofs.Ytnhhfbhhglhocaa
open Go.RowKit

set_option maxHeartbeats 400000 in
theorem l15In_any (v : Value) (l : List Int) (n : Int) (w : World) (h : RInts w v l) :
    Calls Try.prog 165 #[v, .int .i64 n] w fun e w' => e = .returned (.bool (decide (n ∈ l))) ∧ w = w' := by
  have hm1 := h.len
  unfold maxLen at hm1
  obtain ⟨a1, c1, rfl, hf1⟩ := h.cells
  have F1 := Lib.hid hf1
  clear hf1 h
  go_enter Try.func165, Try.ntmps165
  go_wp2
  go_loopg [5] l.length (fun q i wr => ∃ k : Nat, k + q = l.length ∧ i = .int .i64 k ∧ ¬ n ∈ l.take k ∧ w = wr)
  case atStart => exact ⟨0, by omega, rfl, by simp, rfl⟩
  case round =>
    obtain ⟨k, hk, rfl, ht, rfl⟩ := hrel
    have HK := Lib.hid hk
    have HT := Lib.hid ht
    clear hk ht
    by_cases hk8 : k < l.length
    · obtain ⟨b1, o1, rfl, hbl1, hc1⟩ := F1.out k hk8
      have i1 : (k : Int) < (l.length : Int) := by omega
      by_cases he : gi l k = n
      · have hne2 : (gi l k == n) = true := by simpa using he
        have hfin : decide (n ∈ l) = true := by
          simp
          rw [← he, gi_of hk8]
          exact List.getElem_mem hk8
        have HF := Lib.hid hfin
        clear he hfin
        go_wp2
        go_ret
        exact ⟨by rw [HF.out]; rfl, rfl⟩
      · have hne2 : (gi l k == n) = false := by simpa using he
        have ht1 : ¬ n ∈ l.take (k + 1) := by
          rw [List.take_succ_eq_append_getElem hk8, ← gi_of hk8]
          intro hh
          rcases List.mem_append.1 hh with hh | hh
          · exact HT.out hh
          · simp at hh; exact he hh.symm
        have HT1 := Lib.hid ht1
        clear he ht1
        go_wp2
        go_roundg (gk - 1)
        case rel => exact ⟨k + 1, by have := HK.out; omega, by go_num, HT1.out, rfl⟩
        case measure => have := HK.out; omega
    · obtain rfl : k = l.length := by have := HK.out; omega
      have hfin : decide (n ∈ l) = false := by
        have := HT.out
        rw [List.take_length] at this
        simpa using this
      have HF := Lib.hid hfin
      clear hfin HT
      go_wp2
      go_ret
      exact ⟨by rw [HF.out]; rfl, rfl⟩
theorem l15In_eq (v : Value) (l : List Int) (n : Int) (b : Bool) (w : World) (h : RInts w v l) (hb : decide (n ∈ l) = b) :
    Calls Try.prog 165 #[v, .int .i64 n] w fun e w' => e = .returned (.bool b) ∧ w = w' := by
  rw [← hb]; exact l15In_any v l n w h
set_option maxHeartbeats 1600000 in
theorem l15Walk_any (B : Nat) (v1 v2 vL : Value) (hl l : List Int) (x : Int) (w : World) (h2 : RInts w v2 hl) (hhl : hl.length = 8) (h8 : ∀ i, i < 8 → gi hl i ≤ 8) (hx : x ≤ 8) (hg : GoodL l)
    (hown : w.ownsRow B 3 1 vL l.length (ints l)) (hB : B ≤ w.heap.size) (hv2 : ∀ k, v2.ownBlock = some k → k < B) :
    Calls Try.prog 131 #[.agg #[v1, v2], vL, .int .i64 x] w fun e w' => ∃ v', e = .returned v' ∧ w'.ownsRow B 3 1 v' (walkL hl l x).length (ints (walkL hl l x)) ∧ Below B w w' := by
  obtain ⟨b2, o2, c2, rfl, _, _, hcell⟩ := h2.ne (by omega)
  have hb2 : b2 < B := hv2 b2 rfl
  rw [hhl] at hcell ⊢
  have HC := Lib.hid hcell
  have H8 := Lib.hid h8
  have HG := Lib.hid hg
  have HO := Lib.hid hown
  have hll := goodL_len hg
  have hap : ∀ k, some k = vL.ownBlock → ¬ k = w.heap.size := fun k hk e => by have := (own_lt hown hk).2; omega
  have HAP := Lib.hid hap
  clear hcell h8 hg hown h2 hv2 hap hhl
  go_enter Try.func131, Try.ntmps131
  go_wp2
  go_loopg [1, 7] (9 - l.length) (fun q v u wr => ∃ (m : List Int) (y : Int), u = .int .i64 y ∧ m.length + q = 9 ∧ GoodL m ∧ y ≤ 8 ∧ walkL hl m y = walkL hl l x ∧ wr.ownsRow B 3 1 v m.length (ints m) ∧ Below B w wr ∧ wr.cell? ⟨w.heap.size, 1, none⟩ = some (.slice (some ⟨b2, o2, none⟩) 8 c2) ∧ (∀ k, some k = v.ownBlock → ¬ k = w.heap.size))
  case atStart => exact ⟨l, x, rfl, by omega, HG.out, hx, rfl, own_keep HO.out (below_alloc _ _), (below_alloc w _).mono hB, by simp, HAP.out⟩
  case round =>
    obtain ⟨m, y, rfl, hq, hgm, hy8, hwk, hown, hb, hc1, hap⟩ := hrel
    have HQ := Lib.hid hq
    have HM := Lib.hid (And.intro hgm hwk)
    have HOW := Lib.hid hown
    have HAPR := Lib.hid hap
    have hm8 := goodL_len hgm
    have rm := (own_ints hown).1
    obtain ⟨ma, mc, rfl⟩ := rm.form
    have hwl : w.heap.size < wr.heap.size := World.block_lt_of_cell? wr _ hc1
    have hsz := hb.size
    clear hq hgm hwk hown hap
    by_cases ha : isAddrB y = true
    · have hy := isAddrB_iff.1 ha
      obtain ⟨n, rfl⟩ : ∃ n : Nat, y = (n : Int) + 1 := ⟨(y - 1).toNat, by omega⟩
      have hn8 : n < 8 := by omega
      have hni : (n : Int) < 8 := by omega
      by_cases hin : ((n : Int) + 1) ∈ m
      · have hd : decide (((n : Int) + 1) ∈ m) = true := by simpa using hin
        have hw : walkL hl m ((n : Int) + 1) = m := walkL_no (by simp [hin])
        have HW := Lib.hid (And.intro (HM.out.2.symm.trans hw) hd)
        clear hin hw hd ha
        go_wp2_with fail
        refine (l15In_eq _ m _ true _ rm HW.out.2).mono ?_
        rintro e w' ⟨rfl, rfl⟩
        go_wp2
        go_ret
        exact ⟨_, rfl, by rw [HW.out.1]; exact HOW.out, hb⟩
      · have hd : decide (((n : Int) + 1) ∈ m) = false := by simpa using hin
        have hct : ct hl ((n : Int) + 1) = gi hl n := by rw [ct, if_pos ha]; congr 1; omega
        have hw : walkL hl m ((n : Int) + 1) = walkL hl (m ++ [(n : Int) + 1]) (gi hl n) := by rw [← hct]; exact walkL_yes HM.out.1 ha hin
        have HW := Lib.hid (And.intro (hw.symm.trans HM.out.2) (And.intro hd (goodL_snoc HM.out.1 ha hin)))
        have hcv := cell_below hb (p := ⟨b2, o2 + n, none⟩) hb2 (HC.out n hn8)
        clear hin hw hd hct ha
        go_wp2_with (first
          | (go_at_call 165; go_must (refine (l15In_eq _ m _ false _ rm HW.out.2.1).mono ?_; rintro e w' ⟨rfl, rfl⟩))
          | (at_builtin; refine app_int2 _ rfl _ _ rfl B _ m rfl (own_keep HOW.out (below_alloc _ _)) ⟨wr.heap.size, 0, none⟩ _ rfl (cell_new1 _ _ _) (by omega) (by simp; omega) ?_; intro v' w3 hown3 hf3 hlie3; have HO3 := Lib.hid (And.intro hown3 (And.intro hf3 hlie3)); have hd1 : w3.cell? ⟨w.heap.size, 1, none⟩ = some (.slice (some ⟨b2, o2, none⟩) 8 c2) := hf3.cell (fun e => HAPR.out _ e rfl) (cell_keep (below_alloc _ _) hc1); have hb3 : Below B w w3 := below_own (own_keep HOW.out (below_alloc _ _)) hf3 (hb.trans ((below_alloc _ _).mono (by omega))) (by simp; omega); have hcv3 := cell_below hb3 (p := ⟨b2, o2 + n, none⟩) hb2 (HC.out n hn8); clear hown3 hf3 hlie3))
        go_roundg (gk - 1)
        case rel =>
          refine ⟨m ++ [(n : Int) + 1], gi hl n, rfl, by have := HQ.out; simp; omega, HW.out.2.2, H8.out n hn8, HW.out.1, HO3.out.1, hb3, hd1, fun k hk => ?_⟩
          rcases HO3.out.2.2 k hk with h | h
          · exact HAPR.out k h
          · simp at h; omega
        case measure => have := HQ.out; omega
    · have hy : y < 1 := by rw [isAddrB_iff] at ha; omega
      have ha' : isAddrB y = false := by simpa using ha
      have hw : walkL hl m y = m := walkL_no (by simp [ha'])
      have HW := Lib.hid (HM.out.2.symm.trans hw)
      clear hw ha ha'
      go_wp2
      go_ret
      exact ⟨_, rfl, by rw [HW.out]; exact HOW.out, hb⟩
set_option maxHeartbeats 1600000 in
theorem l15Invert_any (v : Value) (l : List Int) (w : World) (h : RInts w v l) (hl : l.length = 8) (hg : goodTo l 8 = true) :
    Calls Try.prog 70 #[v] w fun e w' => e = .returned (.slice (some ⟨w.heap.size, 0, none⟩) 8 8) ∧ w'.heap[w.heap.size]? = some (.cells (iarr (backN l 8)) 3 (0, 0)) ∧ Below w.heap.size w w' := by
  obtain ⟨b, o, c, rfl, _, _, hcell⟩ := h.ne (by omega)
  have hbl : b < w.heap.size := World.block_lt_of_cell? w _ (hcell 0 (by omega))
  rw [hl] at hcell ⊢
  have NC := Lib.hid hcell
  have HG := Lib.hid hg
  have hmk : ∀ w : World, (Instr.makeSlice 29 (.int .i64 8) (.int .i64 8)).run Try.prog w =
    .ok (.slice (some ⟨w.heap.size, 0, none⟩) 8 8) (w.alloc (.cells #[.int .i64 0, .int .i64 0, .int .i64 0, .int .i64 0, .int .i64 0, .int .i64 0, .int .i64 0, .int .i64 0] 3)) := fun _ => by kernel_rfl
  clear hcell hg h hl
  go_enter Try.func70, Try.ntmps70
  go_wp2
  go_loopg [4] 8 (fun q i wr => ∃ k : Nat, k + q = 8 ∧ i = .int .i64 k ∧ wr.heap[w.heap.size]? = some (.cells (iarr (backN l k)) 3 (0, 0)) ∧ Below w.heap.size w wr)
  case atStart => exact ⟨0, by omega, rfl, heap_alloc_new _ _, below_alloc _ _⟩
  case round =>
    obtain ⟨k, hk, rfl, hrow, hb⟩ := hrel
    have HK := Lib.hid hk
    have HR := Lib.hid hrow
    have hzr := box_lt hrow
    clear hk hrow
    by_cases hk8 : k < 8
    · have hki : (k : Int) < 8 := by omega
      have hga := good_addr hk8 HG.out
      obtain ⟨m, hm⟩ : ∃ m : Nat, gi l k = (m : Int) + 1 := ⟨(gi l k - 1).toNat, by omega⟩
      have hnc := cell_below hb (p := ⟨b, o + k, none⟩) hbl (NC.out k hk8)
      rw [hm] at hnc
      have hm8 : (m : Int) < 8 := by omega
      have hck := iarr_at HR.out m (by rw [backN_len]; omega)
      have hfz := frozen_of_row wr w.heap.size m _ _ HR.out
      have HM := Lib.hid hm
      clear hga hm
      go_wp2
      go_roundg (gk - 1)
      case rel =>
        refine ⟨k + 1, by have := HK.out; omega, by go_num, ?_, hb.setCell (by simp) _⟩
        rw [backN, HM.out, show ((m : Int) + 1 - 1).toNat = m by omega]
        exact iarr_set HR.out _ _
      case measure => have := HK.out; omega
    · obtain rfl : k = 8 := by have := HK.out; omega
      go_wp2
      go_ret
      exact ⟨rfl, HR.out, hb⟩
theorem fold_sel_yes {hs l : List Int} {k : Nat} (h : alB hs ((k : Int) + 1) = true) : (sel (fun n => alB hs (n : Int)) 1 (k + 1)).foldl (walkL hs) l = walkL hs ((sel (fun n => alB hs (n : Int)) 1 k).foldl (walkL hs) l) ((k : Int) + 1) := by
  rw [sel_yes (by rw [show ((1 + k : Nat) : Int) = (k : Int) + 1 by omega]; exact h), List.foldl_append, show ((1 + k : Nat) : Int) = (k : Int) + 1 by omega]; rfl
theorem fold_sel_no {hs l : List Int} {k : Nat} (h : alB hs ((k : Int) + 1) = false) : (sel (fun n => alB hs (n : Int)) 1 (k + 1)).foldl (walkL hs) l = (sel (fun n => alB hs (n : Int)) 1 k).foldl (walkL hs) l := by
  rw [sel_no (by rw [show ((1 + k : Nat) : Int) = (k : Int) + 1 by omega]; exact h)]

set_option maxHeartbeats 3200000 in
theorem l15Order_any (v1 v2 : Value) (vl hl : List Int) (w : World) (h1 : RInts w v1 vl) (h2 : RInts w v2 hl) (hv : validB vl hl = true) :
    Calls Try.prog 71 #[.agg #[v1, v2]] w fun e w' => ∃ v, e = .returned v ∧ w'.ownsRow w.heap.size 3 1 v (ordL vl hl).length (ints (ordL vl hl)) ∧ Below w.heap.size w w' := by
  have hlen := valid_len hv
  obtain ⟨b1, o1, c1, rfl, _, _, cell1⟩ := h1.ne (by omega)
  obtain ⟨b2, o2, c2, rfl, _, _, cell2⟩ := h2.ne (by omega)
  have hb1 : b1 < w.heap.size := World.block_lt_of_cell? w _ (cell1 0 (by omega))
  have hb2 : b2 < w.heap.size := World.block_lt_of_cell? w _ (cell2 0 (by omega))
  have HV := Lib.hid hv
  have HLEN := Lib.hid hlen
  have h28 : ∀ i, i < 8 → gi hl i ≤ 8 := fun i hi => (valid_hat hv hi).2
  have H28 := Lib.hid h28
  rw [hlen.1] at cell1
  have C1 := Lib.hid cell1
  have g1 := h1.alloc (.cells #[.slice (some ⟨b1, o1, none⟩) vl.length c1, .slice (some ⟨b2, o2, none⟩) hl.length c2] 34)
  have g2 := h2.alloc (.cells #[.slice (some ⟨b1, o1, none⟩) vl.length c1, .slice (some ⟨b2, o2, none⟩) hl.length c2] 34)
  have hvi : (8 : Int) ≤ (vl.length : Int) := by omega
  clear cell1 cell2 hlen h28 hv h1 h2
  go_enter Try.func71, Try.ntmps71
  go_wp2
  generalize hw0 : w.alloc (.cells #[.slice (some ⟨b1, o1, none⟩) vl.length c1, .slice (some ⟨b2, o2, none⟩) hl.length c2] 34) = w0 at *
  have hc0 : w0.cell? ⟨w.heap.size, 0, none⟩ = some (.slice (some ⟨b1, o1, none⟩) vl.length c1) := by rw [← hw0]; simp
  have hc1 : w0.cell? ⟨w.heap.size, 1, none⟩ = some (.slice (some ⟨b2, o2, none⟩) hl.length c2) := by rw [← hw0]; simp
  have hz0 : w0.heap.size = w.heap.size + 1 := by rw [← hw0]; simp
  have hbw : Below w.heap.size w w0 := by rw [← hw0]; exact below_alloc _ _
  clear hw0
  have HZ := Lib.hid hz0
  have hz1 : w.heap.size < w0.heap.size := by omega
  clear hz0
  go_loopg [3, 4] 8 (fun q v i wr => ∃ k : Nat, k + q = 8 ∧ i = .int .i64 k ∧ wr.ownsRow w0.heap.size 3 1 v ((vl.take k).foldl (walkL hl) []).length (ints ((vl.take k).foldl (walkL hl) [])) ∧ Below w0.heap.size w0 wr)
  case atStart => exact ⟨0, by omega, rfl, own_empty_at _ _ _ _ HZ.out (by have := HZ.out; omega), below_alloc _ _⟩
  case round =>
    obtain ⟨k, hk, rfl, hown, hb⟩ := hrel
    have HK := Lib.hid hk
    have HO := Lib.hid hown
    have hd0 := cell_keep hb hc0
    have hd1 := cell_keep hb hc1
    have hsz := hb.size
    clear hk hown
    by_cases hk8 : k < 8
    · have hki : (k : Int) < 8 := by omega
      have hkv : (k : Int) < (vl.length : Int) := by omega
      have hcv := cell_keep hb (cell_below hbw (p := ⟨b1, o1 + k, none⟩) hb1 (C1.out k hk8))
      have hgl := fold_good (hs := hl) (vl.take k) [] goodL_nil
      have hx8 : gi vl k ≤ 8 := (valid_vat HV.out hk8).2
      have HG := Lib.hid hgl
      have r2 := g2.keep hb
      clear hgl
      go_wp2
      go_region_held3 (fun w' => (w'.cell? ⟨w.heap.size, 0, none⟩ = some (.slice (some ⟨b1, o1, none⟩) vl.length c1) ∧ w'.cell? ⟨w.heap.size, 1, none⟩ = some (.slice (some ⟨b2, o2, none⟩) hl.length c2)) ∧ w'.cell? ⟨b1, o1 + k, none⟩ = some (.int .i64 (gi vl k)))
        (first | exact ⟨⟨hd0, hd1⟩, hcv⟩ | exact ⟨⟨cell_below hb6 (by simp; omega) hc0, cell_below hb6 (by simp; omega) hc1⟩, cell_below hb6 (by simp; omega) (cell_below hbw (p := ⟨b1, o1 + k, none⟩) hb1 (C1.out k hk8))⟩)
        ((go_at_call 131; go_must (refine (l15Walk_any w0.heap.size _ _ _ hl ((vl.take k).foldl (walkL hl) []) (gi vl k) _ (by first | exact r2 | exact r2.keep (below_drew _)) HLEN.out.2 H28.out hx8 HG.out (by first | exact HO.out | exact own_keep HO.out (below_drew _)) (by first | exact hsz | (simp; exact hsz)) (fun j hj => by simp [Value.ownBlock] at hj; omega)).mono ?_; rintro e w6 ⟨v', rfl, hown6, hb6'⟩; have hb6 : Below w0.heap.size w0 w6 := (by first | exact hb.trans hb6' | exact (hb.trans ((below_drew _).mono hsz)).trans hb6'); rw [← fold_take (by omega)] at hown6)))
      all_goals
        have HO6 := Lib.hid hown6
        clear hown6 hb6'
        go_wp2
        go_roundg (gk - 1)
        case rel => exact ⟨k + 1, by have := HK.out; omega, by go_num, HO6.out, hb6⟩
        case measure => have := HK.out; omega
    · obtain rfl : k = 8 := by have := HK.out; omega
      have ho1 := HO.out
      rw [show (vl.take 8).foldl (walkL hl) [] = ord1 vl hl by rw [ord1, List.take_of_length_le (by have := HLEN.out; omega)]] at ho1
      have HO1 := Lib.hid ho1
      obtain ⟨wo, rfl⟩ : ∃ wo : World, wo = wr := ⟨_, rfl⟩
      clear ho1 HO hd0 hd1
      go_wp2
      go_loopg [3, 5] 8 (fun q v i wr => ∃ k : Nat, k + q = 8 ∧ i = .int .i64 ((k : Int) + 1) ∧ wr.ownsRow w0.heap.size 3 1 v ((sel (fun n => alB hl (n : Int)) 1 k).foldl (walkL hl) (ord1 vl hl)).length (ints ((sel (fun n => alB hl (n : Int)) 1 k).foldl (walkL hl) (ord1 vl hl))) ∧ Below w0.heap.size w0 wr)
      case atStart => exact ⟨0, by omega, rfl, HO1.out, hb⟩
      case round =>
        obtain ⟨k, hk, rfl, hown, hb⟩ := hrel
        clear HK HO1
        have HK := Lib.hid hk
        have HO := Lib.hid hown
        have hd0 := cell_keep hb hc0
        have hd1 := cell_keep hb hc1
        have hsz := hb.size
        have r1 := g1.keep hb
        have r2 := g2.keep hb
        clear hk hown
        by_cases hk8 : k < 8
        · have hki : (k : Int) < 8 := by omega
          have hgl := fold_good (hs := hl) (sel (fun n => alB hl (n : Int)) 1 k) (ord1 vl hl) (ord1_good vl hl)
          have HG := Lib.hid hgl
          clear hgl
          by_cases hal : alB hl ((k : Int) + 1) = true
          · have hfs := fold_sel_yes (l := ord1 vl hl) hal
            have HFS := Lib.hid hfs
            clear hfs
            go_wp2_with fail
            refine (l2Has_any _ _ hl _ _ r2 (by have := HLEN.out; omega)).mono ?_
            rintro e w5 ⟨rfl, hb5⟩
            replace hd0 := cell_keep hb5 hd0
            replace hd1 := cell_keep hb5 hd1
            have hb55 := hb.trans (hb5.mono hsz)
            have hsz5 := hb55.size
            have HO5 := Lib.hid (own_keep HO.out hb5)
            have r5 := r2.keep hb5
            clear hb5
            go_wp2_with fail
            refine (l15Walk_any w0.heap.size _ _ _ hl ((sel (fun n => alB hl (n : Int)) 1 k).foldl (walkL hl) (ord1 vl hl)) ((k : Int) + 1) _ r5 HLEN.out.2 H28.out (by omega) HG.out HO5.out hsz5 (fun j hj => by simp [Value.ownBlock] at hj; omega)).mono ?_
            rintro e w6 ⟨v', rfl, hown6, hb6'⟩
            rw [← HFS.out] at hown6
            have HO6 := Lib.hid hown6
            have hb6 := hb55.trans hb6'
            clear hown6 hb6'
            go_wp2
            go_roundg (gk - 1)
            case rel => exact ⟨k + 1, by have := HK.out; omega, by go_num, HO6.out, hb6⟩
            case measure => have := HK.out; omega
          · have hal' : alB hl ((k : Int) + 1) = false := by simpa using hal
            have hfs := fold_sel_no (l := ord1 vl hl) hal'
            have HFS := Lib.hid hfs
            clear hfs hal
            go_wp2_with fail
            refine (l2Has_any _ _ hl _ _ r2 (by have := HLEN.out; omega)).mono ?_
            rintro e w5 ⟨rfl, hb5⟩
            have hb55 := hb.trans (hb5.mono hsz)
            have HO5 := Lib.hid (own_keep HO.out hb5)
            clear hb5
            go_wp2
            go_roundg (gk - 1)
            case rel => exact ⟨k + 1, by have := HK.out; omega, by go_num, by rw [HFS.out]; exact HO5.out, hb55⟩
            case measure => have := HK.out; omega
        · obtain rfl : k = 8 := by have := HK.out; omega
          have HO1 : Hid (wr.ownsRow w0.heap.size 3 1 _ (ord2 vl hl).length (ints (ord2 vl hl))) := Lib.hid HO.out
          obtain ⟨wp, rfl⟩ : ∃ wo : World, wo = wr := ⟨_, rfl⟩
          clear HO hd0 hd1 r1 r2
          go_wp2
          go_loopg [3, 6] 8 (fun q v i wr => ∃ k : Nat, k + q = 8 ∧ i = .int .i64 ((k : Int) + 1) ∧ wr.ownsRow w0.heap.size 3 1 v ((allA k).foldl (walkL hl) (ord2 vl hl)).length (ints ((allA k).foldl (walkL hl) (ord2 vl hl))) ∧ Below w0.heap.size w0 wr)
          case atStart => exact ⟨0, by omega, rfl, HO1.out, hb⟩
          case round =>
            obtain ⟨k, hk, rfl, hown, hb⟩ := hrel
            clear HK HO1
            have HK := Lib.hid hk
            have HO := Lib.hid hown
            have hd0 := cell_keep hb hc0
            have hd1 := cell_keep hb hc1
            have hsz := hb.size
            have r2 := g2.keep hb
            clear hk hown
            by_cases hk8 : k < 8
            · have hki : (k : Int) < 8 := by omega
              have hgl := fold_good (hs := hl) (allA k) (ord2 vl hl) (ord2_good vl hl)
              have HG := Lib.hid hgl
              clear hgl
              go_wp2_with fail
              refine (l15Walk_any w0.heap.size _ _ _ hl ((allA k).foldl (walkL hl) (ord2 vl hl)) ((k : Int) + 1) _ r2 HLEN.out.2 H28.out (by omega) HG.out HO.out hsz (fun j hj => by simp [Value.ownBlock] at hj; omega)).mono ?_
              rintro e w6 ⟨v', rfl, hown6, hb6'⟩
              have e6 : walkL hl ((allA k).foldl (walkL hl) (ord2 vl hl)) ((k : Int) + 1) = (allA (k + 1)).foldl (walkL hl) (ord2 vl hl) := by
                rw [allA_succ, List.foldl_append]; rfl
              rw [e6] at hown6
              have HO6 := Lib.hid hown6
              have hb6 := hb.trans hb6'
              clear hown6 hb6' e6
              go_wp2
              go_roundg (gk - 1)
              case rel => exact ⟨k + 1, by have := HK.out; omega, by go_num, HO6.out, hb6⟩
              case measure => have := HK.out; omega
            · obtain rfl : k = 8 := by have := HK.out; omega
              go_wp2
              go_ret
              exact ⟨_, rfl, own_mono HO.out (by omega), hbw.trans (hb.mono (by omega))⟩
set_option maxHeartbeats 3200000 in
theorem canonStateS_any (v1 v2 : Value) (vl hl : List Int) (w : World) (h1 : RInts w v1 vl) (h2 : RInts w v2 hl) :
    Calls Try.prog 25 #[.agg #[v1, v2]] w fun e w' => ∃ u1 u2, e = .returned (.tuple #[.agg #[u1, u2], .bool (validB vl hl)]) ∧ OwnSt w' w.heap.size u1 u2 (canV vl hl) (canH vl hl) ∧ Below w.heap.size w w' := by
  by_cases hv : validB vl hl = true
  rotate_left
  · have hv' : validB vl hl = false := by simpa using hv
    rw [canV, canH, hv']
    go_enter Try.func25, Try.ntmps25
    go_wp2_with ((go_at_call 58; go_must (((with_reducible refine (specStateValid_any _ _ _ _ _ (by repeat (first | with_reducible assumption | exact (own_ints (by assumption)).1 | apply rints_ext | apply rints_alloc | apply rints_drew)) (by repeat (first | with_reducible assumption | exact (own_ints (by assumption)).1 | apply rints_ext | apply rints_alloc | apply rints_drew))).mono ?_); rintro e w' ⟨rfl, hb⟩; (first | obtain ⟨x, rfl⟩ := to_ext2 hb | obtain ⟨x, rfl⟩ := to_ext hb); clear hb))))
    refine bodyPost_ret (v := .tuple #[.agg #[.slice none 0 0, .slice none 0 0], .bool false]) (by simp [results, Try.results25, go_sem]) rfl ?_
    exact ⟨_, _, rfl, ownSt_nil _ _, (by repeat (first | exact Below.refl _ _ | with_reducible assumption | exact below_alloc _ _ | (refine Below.setCell ?_ (by first | (simp; done) | (simp; omega) | omega) _) | apply bd | apply ba | apply be))⟩
  have hV : canV vl hl = renV (backN (ordL vl hl) 8) vl := if_pos hv
  have hH : canH vl hl = renH (backN (ordL vl hl) 8) hl := if_pos hv
  rw [hV, hH]
  have HV := Lib.hid hv
  clear hV hH
  go_enter Try.func25, Try.ntmps25
  go_wp2_with fail
  refine (specStateValid_any _ _ vl hl _ (by repeat (first | with_reducible assumption | exact (own_ints (by assumption)).1 | apply rints_ext | apply rints_alloc | apply rints_drew)) (by repeat (first | with_reducible assumption | exact (own_ints (by assumption)).1 | apply rints_ext | apply rints_alloc | apply rints_drew))).mono ?_
  rintro e w1 ⟨rfl, hb1⟩
  have hc0 := cell_keep hb1 (p := ⟨w.heap.size, 0, none⟩) (v := v1) (by simp [go_sem])
  have hc1 := cell_keep hb1 (p := ⟨w.heap.size, 1, none⟩) (v := v2) (by simp [go_sem])
  have ha0 := cell_keep hb1 (p := ⟨w.heap.size + 1, 0, none⟩) (v := .slice none 0 0) (by simp [go_sem])
  have ha1 := cell_keep hb1 (p := ⟨w.heap.size + 1, 1, none⟩) (v := .slice none 0 0) (by simp [go_sem])
  have haz : ∀ i, w1.frozen? ⟨w.heap.size + 1, i, none⟩ = false := fun i => (hb1.frozen (p := ⟨w.heap.size + 1, i, none⟩) (by simp)).trans (by simp [go_sem])
  have hbw : Below w.heap.size w w1 := bt (ba (below_alloc w _) _) hb1
  have q1 := h1.keep hbw
  have q2 := h2.keep hbw
  have hz1 : w.heap.size + 1 < w1.heap.size := World.block_lt_of_cell? w1 _ ha0
  have hz0 : w.heap.size < w1.heap.size := by omega
  clear hb1 h1 h2
  go_wp2
  go_region_held3 (fun w' => w'.cell? ⟨w.heap.size, 0, none⟩ = some v1 ∧ w'.cell? ⟨w.heap.size, 1, none⟩ = some v2)
    (first
      | exact ⟨hc0, hc1⟩
      | exact ⟨(fr_set _ _ _).cell (by simp) ((fr_set _ _ _).cell (by simp) (cell_keep hb7 hc0)), (fr_set _ _ _).cell (by simp) ((fr_set _ _ _).cell (by simp) (cell_keep hb7 hc1))⟩
      | exact ⟨cell_keep (by repeat (first | exact Below.refl _ _ | with_reducible assumption | exact below_alloc _ _ | (refine Below.setCell ?_ (by first | (simp; done) | (simp; omega) | omega) _) | apply bd | apply ba | apply be)) hc0, cell_keep (by repeat (first | exact Below.refl _ _ | with_reducible assumption | exact below_alloc _ _ | (refine Below.setCell ?_ (by first | (simp; done) | (simp; omega) | omega) _) | apply bd | apply ba | apply be)) hc1⟩)
    (first
      | (go_at_call 71; go_must (refine (l15Order_any _ _ vl hl _ (q1.keep (by repeat (first | exact Below.refl _ _ | with_reducible assumption | exact below_alloc _ _ | (refine Below.setCell ?_ (by first | (simp; done) | (simp; omega) | omega) _) | apply bd | apply ba | apply be))) (q2.keep (by repeat (first | exact Below.refl _ _ | with_reducible assumption | exact below_alloc _ _ | (refine Below.setCell ?_ (by first | (simp; done) | (simp; omega) | omega) _) | apply bd | apply ba | apply be))) HV.out).mono ?_; rintro e w5 ⟨vo, rfl, hown5, hb5'⟩; have hb5 : Below w1.heap.size w1 w5 := bt (by repeat (first | exact Below.refl _ _ | with_reducible assumption | exact below_alloc _ _ | (refine Below.setCell ?_ (by first | (simp; done) | (simp; omega) | omega) _) | apply bd | apply ba | apply be)) hb5'))
      | (go_at_call 70; go_must (refine (l15Invert_any _ (ordL vl hl) _ (own_ints hown5).1 (ordL_len vl hl) (ordL_names vl hl)).mono ?_; rintro e w6 ⟨rfl, hrow6, hb6'⟩; have hb6 : Below w1.heap.size w1 w6 := bt hb5 hb6'; have hrb := (own_ints (own_of_row (B := 0) (n := 8) (Nat.zero_le _) (backN_len (ordL vl hl) 8).symm (by unfold maxLen; omega) hrow6)).1))
      | (go_at_call 69; go_must (refine (l15Rename_any _ _ _ vl hl (backN (ordL vl hl) 8) _ (q1.keep (by repeat (first | exact Below.refl _ _ | with_reducible assumption | exact below_alloc _ _ | (refine Below.setCell ?_ (by first | (simp; done) | (simp; omega) | omega) _) | apply bd | apply ba | apply be))) (q2.keep (by repeat (first | exact Below.refl _ _ | with_reducible assumption | exact below_alloc _ _ | (refine Below.setCell ?_ (by first | (simp; done) | (simp; omega) | omega) _) | apply bd | apply ba | apply be))) hrb HV.out (backN_len _ _) (back_good (ordL_names vl hl))).mono ?_; rintro e w7 ⟨g1, c1, g2, c2, rfl, hst, hb7'⟩; have hb7 : Below w1.heap.size w1 w7 := bt hb6 hb7'; have hy0 := cell_keep hb7 ha0; have hy1 := cell_keep hb7 ha1; have hzz : ∀ i, w7.frozen? ⟨w.heap.size + 1, i, none⟩ = false := fun i => (hb7.frozen (p := ⟨w.heap.size + 1, i, none⟩) (by simp; omega)).trans (haz i); have hs6 := hb6.size)))
  all_goals
    have hst1 := hst.mono (B' := w.heap.size + 1 + 1) (by omega)
    have hbb := bt hbw hb7
    have HD := Lib.hid (st_done hst1 hbb (by omega))
    clear hst hst1 hb7 hb7' hbb hb6 hb6' hb5 hb5' hown5 hrow6 hrb haz
    go_wp2
    have r := box_two (.slice (some ⟨g1, 0, none⟩) 8 c1) (.slice (some ⟨g2, 0, none⟩) 8 c2) hy0 hy1
    refine bodyPost_ret (v := .tuple #[.agg #[.slice (some ⟨g1, 0, none⟩) 8 c1, .slice (some ⟨g2, 0, none⟩) 8 c2], .bool true]) (by simp [results, Try.results25, go_sem, r.1, r.2]) rfl ?_
    exact ⟨_, _, by rw [HV.out], HD.out⟩
end Go.Proofs.Ytnhhfbhhglhocaa
