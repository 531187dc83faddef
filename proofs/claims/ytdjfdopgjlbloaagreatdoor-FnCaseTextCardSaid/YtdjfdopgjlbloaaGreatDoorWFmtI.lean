/- Walks: impl.proofShaped, impl.FormatCase. -/
import Derived.Test.YtdjfdopgjlbloaaGreatDoorWFmtS
import Derived.Test.YtdjfdopgjlbloaaGreatDoorWShfF
import Derived.Handy
namespace Go.Proofs.YtdjfdopgjlbloaaGreatDoor
open Go.RowKit

set_option maxHeartbeats 1600000 in
theorem shapedI_any {S1 S2 : Nat → Prop} (v1 v2 : Value) (p : Pf) (w : World) (h1 : RL w S1 v1 p.1) (h2 : RL w S2 v2 p.2) :
    Calls Tryz.prog 12 #[.agg #[v1, v2]] w fun e w' => e = .returned (.bool (shapedB p)) ∧ Below w.heap.size w w' := by
  have hm1 := h1.len
  have hm2 := h2.len
  unfold maxLen at hm1 hm2
  have r1 := h1.ints
  obtain ⟨a1, c1, rfl, hc1⟩ := r1.cells
  obtain ⟨a2, c2, rfl, _, _, hc2⟩ := h2.listAt
  have F1 := Lib.hid hc1
  have F2 := Lib.hid hc2
  clear hc1 hc2 r1 h1 h2
  have hbx := heap_alloc_new w (.cells #[.slice a1 p.1.length c1, .slice a2 p.2.length c2] 26)
  have q0 := cell_of_row _ _ 0 _ _ _ hbx
  have q1 := cell_of_row _ _ 1 _ _ _ hbx
  have hb0 := below_alloc w (.cells #[.slice a1 p.1.length c1, .slice a2 p.2.length c2] 26)
  clear hbx
  by_cases h9 : p.1.length = 9
  · by_cases h6 : p.2.length ≤ 6
    · have hd1 : decide (6 < (p.2.length : Int)) = false := by simp; omega
      have hd2 : ((p.1.length : Int) != 9) = false := by simp; omega
      have H9 := Lib.hid (And.intro h9 h6)
      clear h9 h6
      go_enter Tryz.func12, Tryz.ntmps12
      go_wp2_with fail
      go_loopg [22] p.1.length (fun q i wr => ∃ k : Nat, k + q = p.1.length ∧ i = .int .i64 k ∧ (p.1.take k).all (fun n => decide (-1 ≤ n) && decide (n ≤ 8)) = true ∧ Below w.heap.size w wr ∧ wr.cell? ⟨w.heap.size, 1, none⟩ = some (.slice a2 p.2.length c2))
      case atStart => exact ⟨0, by omega, rfl, by simp, hb0, q1⟩
      case round =>
        clear q0 q1 hb0
        obtain ⟨k, hk, rfl, ht, hb, q1⟩ := hrel
        have HK := Lib.hid hk
        have HT := Lib.hid ht
        clear hk ht
        by_cases hk8 : k < p.1.length
        · obtain ⟨b1, o1, rfl, hbl1, hp1⟩ := F1.out k hk8
          replace hp1 := cell_keep hb hp1
          have hs := hb.size
          have i1 : (k : Int) < (p.1.length : Int) := by omega
          have hzb : b1 < wr.heap.size := by omega
          by_cases hm : gi p.1 k = -1
          · have hd : (gi p.1 k != -1) = false := by simp [hm]
            have HM := Lib.hid hm
            clear hm
            go_wp2
            go_roundg (gk - 1)
            case rel => exact ⟨k + 1, by have := HK.out; omega, by go_num, all_take_yes hk8 HT.out (by rw [← gi_gd, HM.out]; rfl), bt hb Bl, q1⟩
            case measure => have := HK.out; omega
          · have hd : (gi p.1 k != -1) = true := by simp [hm]
            cases hx : isTermB (gi p.1 k)
            · have hfin : shapedB p = false := by
                rw [shapedB, smallB, all_no hk8 (by
                  have : ¬ (0 ≤ gi p.1 k ∧ gi p.1 k ≤ 8) := fun e => by rw [isTermB_iff.2 e] at hx; cases hx
                  rw [← gi_gd]; simp; omega)]; simp
              have HF := Lib.hid (And.intro hfin hx)
              clear hfin hx hm
              go_wp2_with fail
              refine (cb (isTerm_any (gi p.1 k) _) HF.out.2).mono ?_
              rintro e w2 ⟨rfl, rfl⟩
              go_wp2
              go_ret
              exact ⟨by rw [HF.out.1]; rfl, hb⟩
            · have HX := Lib.hid hx
              clear hx hm
              go_wp2_with fail
              refine (cb (isTerm_any (gi p.1 k) _) HX.out).mono ?_
              rintro e w2 ⟨rfl, rfl⟩
              go_wp2
              go_roundg (gk - 1)
              case rel => exact ⟨k + 1, by have := HK.out; omega, by go_num, all_take_yes hk8 HT.out (by have := isTermB_iff.1 HX.out; rw [← gi_gd]; simp; omega), hb, q1⟩
              case measure => have := HK.out; omega
        · obtain rfl : k = p.1.length := by have := HK.out; omega
          have hall := all_end HT.out
          have HA := Lib.hid hall
          clear hall HT
          go_wp2_with fail
          go_loopg [37] p.2.length (fun q i wr => ∃ k : Nat, k + q = p.2.length ∧ i = .int .i64 k ∧ (p.2.take k).all (fun u => smallB u 0) = true ∧ Below w.heap.size w wr)
          case atStart => exact ⟨0, by omega, rfl, by simp, hb⟩
          case round =>
            clear hb q1 HK
            obtain ⟨k, hk, rfl, ht, hb⟩ := hrel
            have HK := Lib.hid hk
            have HT := Lib.hid ht
            clear hk ht
            by_cases hk8 : k < p.2.length
            · obtain ⟨b1, o1, u1, rfl, _, hbl1, hp1, hu⟩ := F2.out k hk8
              replace hp1 := cell_keep hb hp1
              obtain ⟨u, hu0⟩ : ∃ u, gd p.2 k = u := ⟨_, rfl⟩
              rw [hu0] at hu
              have HU0 := Lib.hid hu0
              clear hu0
              have hul := hu.len
              unfold maxLen at hul
              obtain ⟨ua, uc, rfl, hcu⟩ := hu.ints.cells
              have HU := Lib.hid hcu
              clear hu hcu
              have hs := hb.size
              have i1 : (k : Int) < (p.2.length : Int) := by omega
              have hzb : b1 < wr.heap.size := by omega
              by_cases h9 : u.length ≤ 9
              · have hd9 : decide (9 < (u.length : Int)) = false := by simp; omega
                have H99 := Lib.hid h9
                clear h9
                obtain ⟨gO, hgO⟩ : ∃ g, g = gk := ⟨_, rfl⟩
                rw [← hgO] at HK
                have HGO := Lib.hid hgO
                clear hgO
                go_wp2_with fail
                go_loopg [46] u.length (fun q i wr => ∃ j : Nat, j + q = u.length ∧ i = .int .i64 j ∧ (u.take j).all (fun n => decide (0 ≤ n) && decide (n ≤ 8)) = true ∧ Below w.heap.size w wr)
                case atStart => exact ⟨0, by omega, rfl, by simp, hb⟩
                case round =>
                  clear hp1 hb
                  obtain ⟨j, hj, rfl, htj, hb⟩ := hrel
                  have HJ := Lib.hid hj
                  have HTJ := Lib.hid htj
                  clear hj htj
                  by_cases hj8 : j < u.length
                  · obtain ⟨b2, o2, rfl, hbl2, hp2⟩ := HU.out j hj8
                    replace hp2 := cell_keep hb hp2
                    have hs2 := hb.size
                    have i2 : (j : Int) < (u.length : Int) := by omega
                    have hzb2 : b2 < wr.heap.size := by omega
                    by_cases hx : 0 ≤ gi u j
                    · have he1 : decide (gi u j < 0) = false := by simp; omega
                      by_cases hy : gi u j ≤ 8
                      · have he2 : decide (8 < gi u j) = false := by simp; omega
                        have HP := Lib.hid (And.intro hx hy)
                        clear hx hy
                        go_wp2
                        go_roundg (gk - 1)
                        case rel => exact ⟨j + 1, by have := HJ.out; omega, by go_num, all_take_yes hj8 HTJ.out (by rw [← gi_gd]; simp; exact HP.out), bt hb Bl⟩
                        case measure => have := HJ.out; omega
                      · have he2 : decide (8 < gi u j) = true := by simp; omega
                        have hfin : shapedB p = false := by
                          rw [shapedB, all_no hk8 (p := fun u => smallB u 0) (by rw [HU0.out, smallB, all_no hj8 (by rw [← gi_gd]; simp; omega)]; simp)]; simp
                        have HF := Lib.hid hfin
                        clear hx hy hfin
                        go_wp2
                        go_ret
                        exact ⟨by rw [HF.out]; rfl, bt hb Bl⟩
                    · have he1 : decide (gi u j < 0) = true := by simp; omega
                      have hfin : shapedB p = false := by
                        rw [shapedB, all_no hk8 (p := fun u => smallB u 0) (by rw [HU0.out, smallB, all_no hj8 (by rw [← gi_gd]; simp; omega)]; simp)]; simp
                      have HF := Lib.hid hfin
                      clear hx hfin
                      go_wp2
                      go_ret
                      exact ⟨by rw [HF.out]; rfl, bt hb Bl⟩
                  · obtain rfl : j = u.length := by have := HJ.out; omega
                    have hall := all_end HTJ.out
                    have HA2 := Lib.hid hall
                    clear hall HTJ
                    go_wp2
                    go_roundg (gO - 1)
                    case rel => exact ⟨k + 1, by have := HK.out; omega, by go_num, all_take_yes hk8 HT.out (by rw [HU0.out, smallB, HA2.out]; simp; exact H99.out), bt hb Bl⟩
                    case measure => have := HK.out; have := HGO.out; omega
              · have hd9 : decide (9 < (u.length : Int)) = true := by simp; omega
                have hfin : shapedB p = false := by
                  rw [shapedB, all_no hk8 (p := fun u => smallB u 0) (by rw [HU0.out, smallB]; simp; omega)]; simp
                have HF := Lib.hid hfin
                clear hfin h9
                go_wp2
                go_ret
                exact ⟨by rw [HF.out]; rfl, hb⟩
            · obtain rfl : k = p.2.length := by have := HK.out; omega
              have hall := all_end HT.out
              have hfin : shapedB p = true := by
                rw [shapedB, hall, smallB, HA.out]; simp; exact ⟨H9.out.1, by have := H9.out.1; omega, H9.out.2⟩
              have HF := Lib.hid hfin
              clear hall HT hfin
              go_wp2
              go_ret
              exact ⟨by rw [HF.out]; rfl, hb⟩
    · have hfin : shapedB p = false := by rw [shapedB]; simp [h6]
      have HF := Lib.hid hfin
      have hd1 : decide (6 < (p.2.length : Int)) = true := by simp; omega
      have hd2 : ((p.1.length : Int) != 9) = false := by simp; omega
      clear hfin h6 h9
      go_enter Tryz.func12, Tryz.ntmps12
      go_wp2
      go_ret
      exact ⟨by rw [HF.out]; rfl, hb0⟩
  · have hfin : shapedB p = false := by rw [shapedB]; simp [h9]
    have HF := Lib.hid hfin
    have hd2 : ((p.1.length : Int) != 9) = true := by simp; omega
    clear hfin h9
    go_enter Tryz.func12, Tryz.ntmps12
    go_wp2
    go_ret
    exact ⟨by rw [HF.out]; rfl, hb0⟩
theorem itoa_any (n : Int) (w : World) (h0 : 0 ≤ n) (h1 : n ≤ 8) :
    Calls Tryz.prog 14 #[.int .i64 n] w fun e w' => e = .returned (.string (btx (numT n))) ∧ w' = w := by
  obtain ⟨k, rfl⟩ := Int.eq_ofNat_of_zero_le h0
  have hd : Lib.decDigits k = numT k := by
    rw [Lib.decDigits, dif_pos (by omega), numT, if_neg (by omega)]; rfl
  have := Tryz.strconv_Itoa_small k (by omega) w
  rw [hd] at this
  exact this
theorem put_any (g : Nat) (t s : List UInt8) (w : World) (h : Lib.IsBuilder 43 5 g g (Lib.byteCells t) w) (hl : t.length + s.length ≤ 1000) (hg : g ≤ w.heap.size) :
    Calls Tryz.prog 13 #[.pointer (some ⟨g, 0, none⟩), .string (btx s)] w fun e w' => e = .returned (.tuple #[.int .i64 s.length, .nilIface]) ∧ Lib.IsBuilder 43 5 g g (Lib.byteCells (t ++ s)) w' ∧ Below g w w' :=
  (writeString_any g g (Lib.byteCells t) (btx s) w h (by rw [Lib.byteCells_length, btx_size]; omega) hg).mono fun e w' ⟨he, hb, hf⟩ => ⟨he, .inr (by rw [Lib.byteCells, List.map_append]; exact hb), hf⟩
def inT (u : List Int) (j : Nat) : List UInt8 := if j = 0 then [] else 32 :: numsT 43 (u.take j)
theorem inT_first {u : List Int} (h : 0 < u.length) : inT u (0 + 1) = [32] ++ numT (gi u 0) := by
  rw [inT, if_neg (by omega), nums_first h]; rfl
theorem inT_step {u : List Int} {j : Nat} (h : j < u.length) (h0 : 0 < j) : inT u (j + 1) = inT u j ++ [43] ++ numT (gi u j) := by
  rw [inT, if_neg (by omega), nums_step h h0, inT, if_neg (by omega)]; simp
theorem inT_end {u : List Int} (h : 0 < u.length) : inT u u.length = 32 :: numsT 43 u := by rw [inT, if_neg (by omega), List.take_length]
theorem inT_len (u : List Int) (j : Nat) (h : u.length ≤ 9) : (inT u j).length ≤ 19 := by
  rw [inT]; split
  · simp
  · have := nums_len 43 (u.take j); rw [List.length_take] at this; simp; omega
theorem Shaped.lenR {p : Pf} (h : Shaped p) {k : Nat} (hk : k ≤ p.2.length) : (textR p k).length ≤ 150 := by
  have := textR_len2 h.c9 (fun u hu => h.u9 u (List.mem_of_mem_take hu)) hk
  have := h.u6; omega
set_option maxHeartbeats 3200000 in
theorem formatI_any {S1 S2 : Nat → Prop} (v1 v2 : Value) (p : Pf) (w : World) (h1 : RL w S1 v1 p.1) (h2 : RL w S2 v2 p.2) :
    Calls Tryz.prog 5 #[.agg #[v1, v2]] w fun e w' => e = .returned (.string (btx (fmtB p))) ∧ Below w.heap.size w w' := by
  have hm1 := h1.len
  have hm2 := h2.len
  unfold maxLen at hm1 hm2
  have r1 := h1.ints
  have R1 := Lib.hid h1
  have R2 := Lib.hid h2
  obtain ⟨a1, c1, rfl, hc1⟩ := r1.cells
  obtain ⟨a2, c2, rfl, _, _, hc2⟩ := h2.listAt
  have F1 := Lib.hid hc1
  have F2 := Lib.hid hc2
  clear hc1 hc2 r1 h1 h2
  have hbx := heap_alloc_new w (.cells #[.slice a1 p.1.length c1, .slice a2 p.2.length c2] 26)
  have q0 := cell_of_row _ _ 0 _ _ _ hbx
  have q1 := cell_of_row _ _ 1 _ _ _ hbx
  have hb0 := below_alloc w (.cells #[.slice a1 p.1.length c1, .slice a2 p.2.length c2] 26)
  clear hbx
  cases hs : shapedB p
  · have hfin : fmtB p = [] := by rw [fmtB, hs]; rfl
    have HF := Lib.hid (And.intro hfin hs)
    clear hfin hs
    go_enter Tryz.func5, Tryz.ntmps5
    go_wp2_with fail
    refine (cb (shapedI_any _ _ p _ (R1.out.alloc _) (R2.out.alloc _)) HF.out.2).mono ?_
    rintro e w2 ⟨rfl, hb2⟩
    go_wp2
    go_ret
    exact ⟨by rw [HF.out.1]; rfl, bt hb0 hb2⟩
  have HS := Lib.hid (shaped_iff.1 hs)
  clear hs
  go_enter Tryz.func5, Tryz.ntmps5
  go_wp2_with fail
  refine (cb (shapedI_any _ _ p _ (R1.out.alloc _) (R2.out.alloc _)) (shaped_iff.2 HS.out)).mono ?_
  rintro e w2 ⟨rfl, hb2⟩
  replace q0 := cell_keep hb2 q0
  replace q1 := cell_keep hb2 q1
  have hlt : w.heap.size < w2.heap.size := by have := hb2.size; rw [World.size_alloc] at this; omega
  replace hb0 := bt hb0 hb2
  clear hb2
  go_wp2_with fail
  have hbl := Lib.fresh_isBuilder 43 5 w2
  have hq1 := cell_keep (below_alloc w2 (.cells #[.pointer none, .slice none 0 0] 43)) q1
  have hB := bt hb0 (below_alloc w2 (.cells #[.pointer none, .slice none 0 0] 43))
  have hgs : w2.heap.size ≤ (w2.alloc (.cells #[.pointer none, .slice none 0 0] 43)).heap.size := by rw [World.size_alloc]; omega
  obtain ⟨g, hg⟩ : ∃ g, w2.heap.size = g := ⟨_, rfl⟩
  rw [hg] at hbl hgs hlt
  simp only [hg]
  go_loopg [16] p.1.length (fun q i wr => ∃ k : Nat, k + q = p.1.length ∧ i = .int .i64 k ∧ Lib.IsBuilder 43 5 g g (Lib.byteCells (numsT 44 (p.1.take k))) wr ∧ g ≤ wr.heap.size ∧ Below w.heap.size w wr ∧ wr.cell? ⟨w.heap.size, 1, none⟩ = some (.slice a2 p.2.length c2))
  case atStart => exact ⟨0, by omega, rfl, hbl, hgs, hB, hq1⟩
  case round =>
    clear q0 q1 hb0 hbl hq1 hB hgs hg
    obtain ⟨k, hk, rfl, hbl, hgs, hb, q1⟩ := hrel
    have HK := Lib.hid hk
    clear hk
    by_cases hk8 : k < p.1.length
    · obtain ⟨b1, o1, rfl, hbl1, hp1⟩ := F1.out k hk8
      replace hp1 := cell_keep hb hp1
      have hs := hb.size
      have i1 : (k : Int) < (p.1.length : Int) := by omega
      have hzb : b1 < wr.heap.size := by omega
      have hrange := HS.out.cl (gi p.1 k) (by rw [gi_gd]; exact gd_mem hk8)
      have hlen := nums_len 44 (p.1.take k)
      have hlen2 : (p.1.take k).length ≤ 9 := by rw [List.length_take, HS.out.c9]; omega
      obtain ⟨t, ht⟩ : ∃ t, numsT 44 (p.1.take k) = t := ⟨_, rfl⟩
      rw [ht] at hlen hbl
      have HT := Lib.hid ht
      have HBL := Lib.hid hbl
      clear ht hbl
      have htl : t.length ≤ 18 := by omega
      clear hlen hlen2
      by_cases h0 : 0 < k
      · have h0i : decide ((0 : Int) < (k : Int)) = true := by simp; omega
        by_cases hx : gi p.1 k = -1
        · have hd : (gi p.1 k == -1) = true := by simp [hx]
          have HX := Lib.hid hx
          clear hx
          go_wp2_with fail
          refine (put_any g (t) ([44]) _ HBL.out (by simp; omega) hgs).mono ?_
          rintro e w3 ⟨rfl, hbl3, hf3⟩
          replace q1 := cell_below hf3 hlt q1
          replace hp1 := cell_below hf3 (Nat.lt_trans hbl1 hlt) hp1
          replace hb := hb.trans (hf3.mono (Nat.le_of_lt hlt))
          replace hgs := Nat.le_trans hgs hf3.size
          replace hzb := Nat.lt_of_lt_of_le hzb hf3.size
          clear HBL hf3
          have HBL := Lib.hid hbl3
          clear hbl3
          go_wp2_with fail
          refine (put_any g (t ++ [44]) ([45]) _ HBL.out (by simp; omega) hgs).mono ?_
          rintro e w3 ⟨rfl, hbl3, hf3⟩
          replace q1 := cell_below hf3 hlt q1
          replace hp1 := cell_below hf3 (Nat.lt_trans hbl1 hlt) hp1
          replace hb := hb.trans (hf3.mono (Nat.le_of_lt hlt))
          replace hgs := Nat.le_trans hgs hf3.size
          replace hzb := Nat.lt_of_lt_of_le hzb hf3.size
          clear HBL hf3
          have HBL := Lib.hid hbl3
          clear hbl3
          go_wp2
          go_roundg (gk - 1)
          case rel => exact ⟨k + 1, by have := HK.out; omega, by go_num, by rw [show numsT 44 (p.1.take (k + 1)) = t ++ [44] ++ [45] by rw [nums_step hk8 h0, HT.out]; rw [HX.out]; simp [numT]]; exact HBL.out, hgs, hb, q1⟩
          case measure => have := HK.out; omega
        · have hd : (gi p.1 k == -1) = false := by simp [hx]
          go_wp2_with fail
          refine (put_any g (t) ([44]) _ HBL.out (by simp; omega) hgs).mono ?_
          rintro e w3 ⟨rfl, hbl3, hf3⟩
          replace q1 := cell_below hf3 hlt q1
          replace hp1 := cell_below hf3 (Nat.lt_trans hbl1 hlt) hp1
          replace hb := hb.trans (hf3.mono (Nat.le_of_lt hlt))
          replace hgs := Nat.le_trans hgs hf3.size
          replace hzb := Nat.lt_of_lt_of_le hzb hf3.size
          clear HBL hf3
          have HBL := Lib.hid hbl3
          clear hbl3
          go_wp2_with fail
          refine (itoa_any (gi p.1 k) _ (by omega) (by omega)).mono ?_
          rintro e w3 ⟨rfl, rfl⟩
          go_wp2_with fail
          refine (put_any g (t ++ [44]) (numT (gi p.1 k)) _ HBL.out (by rw [numT_len]; simp; omega) hgs).mono ?_
          rintro e w3 ⟨rfl, hbl3, hf3⟩
          replace q1 := cell_below hf3 hlt q1
          replace hp1 := cell_below hf3 (Nat.lt_trans hbl1 hlt) hp1
          replace hb := hb.trans (hf3.mono (Nat.le_of_lt hlt))
          replace hgs := Nat.le_trans hgs hf3.size
          replace hzb := Nat.lt_of_lt_of_le hzb hf3.size
          clear HBL hf3
          have HBL := Lib.hid hbl3
          clear hbl3
          go_wp2
          go_roundg (gk - 1)
          case rel => exact ⟨k + 1, by have := HK.out; omega, by go_num, by rw [show numsT 44 (p.1.take (k + 1)) = t ++ [44] ++ numT (gi p.1 k) by rw [nums_step hk8 h0, HT.out]; simp]; exact HBL.out, hgs, hb, q1⟩
          case measure => have := HK.out; omega
      · obtain rfl : k = 0 := by omega
        rw [Nat.add_zero] at hp1
        by_cases hx : gi p.1 0 = -1
        · have hd : (gi p.1 0 == -1) = true := by simp [hx]
          have HX := Lib.hid hx
          clear hx
          go_wp2_with fail
          refine (put_any g (t) ([45]) _ HBL.out (by simp; omega) hgs).mono ?_
          rintro e w3 ⟨rfl, hbl3, hf3⟩
          replace q1 := cell_below hf3 hlt q1
          replace hp1 := cell_below hf3 (Nat.lt_trans hbl1 hlt) hp1
          replace hb := hb.trans (hf3.mono (Nat.le_of_lt hlt))
          replace hgs := Nat.le_trans hgs hf3.size
          replace hzb := Nat.lt_of_lt_of_le hzb hf3.size
          clear HBL hf3
          have HBL := Lib.hid hbl3
          clear hbl3
          go_wp2
          go_roundg (gk - 1)
          case rel => exact ⟨0 + 1, by have := HK.out; omega, by go_num, by rw [show numsT 44 (p.1.take (0 + 1)) = t ++ [45] by rw [nums_first hk8, show t = [] from HT.out.symm]; rw [HX.out]; rfl]; exact HBL.out, hgs, hb, q1⟩
          case measure => have := HK.out; omega
        · have hd : (gi p.1 0 == -1) = false := by simp [hx]
          go_wp2_with fail
          refine (itoa_any (gi p.1 0) _ (by omega) (by omega)).mono ?_
          rintro e w3 ⟨rfl, rfl⟩
          go_wp2_with fail
          refine (put_any g (t) (numT (gi p.1 0)) _ HBL.out (by rw [numT_len]; simp; omega) hgs).mono ?_
          rintro e w3 ⟨rfl, hbl3, hf3⟩
          replace q1 := cell_below hf3 hlt q1
          replace hp1 := cell_below hf3 (Nat.lt_trans hbl1 hlt) hp1
          replace hb := hb.trans (hf3.mono (Nat.le_of_lt hlt))
          replace hgs := Nat.le_trans hgs hf3.size
          replace hzb := Nat.lt_of_lt_of_le hzb hf3.size
          clear HBL hf3
          have HBL := Lib.hid hbl3
          clear hbl3
          go_wp2
          go_roundg (gk - 1)
          case rel => exact ⟨0 + 1, by have := HK.out; omega, by go_num, by rw [show numsT 44 (p.1.take (0 + 1)) = t ++ numT (gi p.1 0) by rw [nums_first hk8, show t = [] from HT.out.symm]; rfl]; exact HBL.out, hgs, hb, q1⟩
          case measure => have := HK.out; omega
    · obtain rfl : k = p.1.length := by have := HK.out; omega
      rw [List.take_length, ← textR_zero] at hbl
      have HBL := Lib.hid hbl
      clear hbl
      go_wp2_with fail
      go_loopg [34] p.2.length (fun q i wr => ∃ k : Nat, k + q = p.2.length ∧ i = .int .i64 k ∧ Lib.IsBuilder 43 5 g g (Lib.byteCells (textR p k)) wr ∧ g ≤ wr.heap.size ∧ Below w.heap.size w wr)
      case atStart => exact ⟨0, by omega, rfl, HBL.out, hgs, hb⟩
      case round =>
        clear q1 hb hgs HBL HK
        obtain ⟨k, hk, rfl, hbl, hgs, hb⟩ := hrel
        have HK := Lib.hid hk
        have HBL := Lib.hid hbl
        clear hk hbl
        by_cases hk8 : k < p.2.length
        · obtain ⟨b1, o1, u1, rfl, _, hbl1, hp1, hu⟩ := F2.out k hk8
          replace hp1 := cell_keep hb hp1
          have hu9 := HS.out.u9 (gd p.2 k) (gd_mem hk8)
          have hur := HS.out.ul (gd p.2 k) (gd_mem hk8)
          have hst := Lib.hid (textR_step hk8)
          obtain ⟨u, hu0⟩ : ∃ u, gd p.2 k = u := ⟨_, rfl⟩
          rw [hu0] at hu hu9 hur hst
          have HU0 := Lib.hid hu0
          clear hu0
          obtain ⟨ua, uc, rfl, hcu⟩ := hu.ints.cells
          have HU := Lib.hid hcu
          have HUR := Lib.hid hur
          clear hu hcu hur
          have hlen := HS.out.lenR (Nat.le_of_lt hk8)
          have hs := hb.size
          have i1 : (k : Int) < (p.2.length : Int) := by omega
          have hzb : b1 < wr.heap.size := by omega
          obtain ⟨gO, hgO⟩ : ∃ g, g = gk := ⟨_, rfl⟩
          rw [← hgO] at HK
          have HGO := Lib.hid hgO
          clear hgO
          go_wp2_with fail
          go_loopg [40] u.length (fun q i wr => ∃ j : Nat, j + q = u.length ∧ i = .int .i64 j ∧ Lib.IsBuilder 43 5 g g (Lib.byteCells (textR p k ++ inT u j)) wr ∧ g ≤ wr.heap.size ∧ Below w.heap.size w wr)
          case atStart => exact ⟨0, by omega, rfl, by rw [inT, if_pos rfl, List.append_nil]; exact HBL.out, hgs, hb⟩
          case round =>
            clear hp1 hb hgs HBL
            obtain ⟨j, hj, rfl, hbl, hgs, hb⟩ := hrel
            have HJ := Lib.hid hj
            clear hj
            by_cases hj8 : j < u.length
            · obtain ⟨b2, o2, rfl, hbl2, hp2⟩ := HU.out j hj8
              replace hp2 := cell_keep hb hp2
              have hs2 := hb.size
              have i2 : (j : Int) < (u.length : Int) := by omega
              have hzb2 : b2 < wr.heap.size := by omega
              have hrange := HUR.out (gi u j) (by rw [gi_gd]; exact gd_mem hj8)
              have hlen3 := inT_len u j hu9
              obtain ⟨t, ht⟩ : ∃ t, t = textR p k ++ inT u j := ⟨_, rfl⟩
              rw [← ht] at hbl
              have htl : t.length ≤ 200 := by rw [ht, List.length_append]; omega
              have HTT := Lib.hid ht
              have HBL := Lib.hid hbl
              clear ht hbl hlen3
              by_cases h0 : 0 < j
              · have h0i : ((j : Int) == 0) = false := by simp; omega
                go_wp2_with fail
                refine (put_any g (t) ([43]) _ HBL.out (by simp; omega) hgs).mono ?_
                rintro e w3 ⟨rfl, hbl3, hf3⟩
                replace hp2 := cell_below hf3 (Nat.lt_trans hbl2 hlt) hp2
                replace hb := hb.trans (hf3.mono (Nat.le_of_lt hlt))
                replace hgs := Nat.le_trans hgs hf3.size
                replace hzb2 := Nat.lt_of_lt_of_le hzb2 hf3.size
                clear HBL hf3
                have HBL := Lib.hid hbl3
                clear hbl3
                go_wp2_with fail
                refine (itoa_any (gi u j) _ hrange.1 hrange.2).mono ?_
                rintro e w3 ⟨rfl, rfl⟩
                go_wp2_with fail
                refine (put_any g (t ++ [43]) (numT (gi u j)) _ HBL.out (by rw [numT_len]; simp; omega) hgs).mono ?_
                rintro e w3 ⟨rfl, hbl3, hf3⟩
                replace hp2 := cell_below hf3 (Nat.lt_trans hbl2 hlt) hp2
                replace hb := hb.trans (hf3.mono (Nat.le_of_lt hlt))
                replace hgs := Nat.le_trans hgs hf3.size
                replace hzb2 := Nat.lt_of_lt_of_le hzb2 hf3.size
                clear HBL hf3
                have HBL := Lib.hid hbl3
                clear hbl3
                go_wp2
                go_roundg (gk - 1)
                case rel => exact ⟨j + 1, by have := HJ.out; omega, by go_num, by rw [show textR p k ++ inT u (j + 1) = t ++ [43] ++ numT (gi u j) by rw [HTT.out, inT_step hj8 h0]; simp]; exact HBL.out, hgs, hb⟩
                case measure => have := HJ.out; omega
              · obtain rfl : j = 0 := by omega
                rw [Nat.add_zero] at hp2
                go_wp2_with fail
                refine (put_any g (t) ([32]) _ HBL.out (by simp; omega) hgs).mono ?_
                rintro e w3 ⟨rfl, hbl3, hf3⟩
                replace hp2 := cell_below hf3 (Nat.lt_trans hbl2 hlt) hp2
                replace hb := hb.trans (hf3.mono (Nat.le_of_lt hlt))
                replace hgs := Nat.le_trans hgs hf3.size
                replace hzb2 := Nat.lt_of_lt_of_le hzb2 hf3.size
                clear HBL hf3
                have HBL := Lib.hid hbl3
                clear hbl3
                go_wp2_with fail
                refine (itoa_any (gi u 0) _ hrange.1 hrange.2).mono ?_
                rintro e w3 ⟨rfl, rfl⟩
                go_wp2_with fail
                refine (put_any g (t ++ [32]) (numT (gi u 0)) _ HBL.out (by rw [numT_len]; simp; omega) hgs).mono ?_
                rintro e w3 ⟨rfl, hbl3, hf3⟩
                replace hp2 := cell_below hf3 (Nat.lt_trans hbl2 hlt) hp2
                replace hb := hb.trans (hf3.mono (Nat.le_of_lt hlt))
                replace hgs := Nat.le_trans hgs hf3.size
                replace hzb2 := Nat.lt_of_lt_of_le hzb2 hf3.size
                clear HBL hf3
                have HBL := Lib.hid hbl3
                clear hbl3
                go_wp2
                go_roundg (gk - 1)
                case rel => exact ⟨0 + 1, by have := HJ.out; omega, by go_num, by rw [show textR p k ++ inT u (0 + 1) = t ++ [32] ++ numT (gi u 0) by rw [HTT.out, inT_first hj8]; simp [inT]]; exact HBL.out, hgs, hb⟩
                case measure => have := HJ.out; omega
            · obtain rfl : j = u.length := by have := HJ.out; omega
              have HBL := Lib.hid hbl
              clear hbl
              have hlen3 := inT_len u u.length hu9
              by_cases hu0 : 0 < u.length
              · have h0i : ((u.length : Int) == 0) = false := beq_eq_false_iff_ne.2 (by omega)
                go_wp2
                go_roundg (gO - 1)
                case rel => exact ⟨k + 1, by have := HK.out; omega, by go_num, by rw [hst.out, ← inT_end hu0]; exact HBL.out, hgs, hb⟩
                case measure => have := HK.out; have := HGO.out; omega
              · have h0i : ((u.length : Int) == 0) = true := beq_iff_eq.2 (by omega)
                have hnil : u = [] := by cases u <;> simp at hu0 ⊢
                have HNIL := Lib.hid hnil
                clear hnil hu0
                have hbl : Lib.IsBuilder 43 5 g g (Lib.byteCells (textR p k)) wr := by
                  have := HBL.out
                  rwa [HNIL.out, inT, if_pos (by rfl), List.append_nil] at this
                clear HBL
                have HBL := Lib.hid hbl
                clear hbl hlen3
                go_wp2_with fail
                refine (put_any g (textR p k) [32] _ HBL.out (by simp; omega) hgs).mono ?_
                rintro e w3 ⟨rfl, hbl3, hf3⟩
                replace hb := hb.trans (hf3.mono (Nat.le_of_lt hlt))
                replace hgs := Nat.le_trans hgs hf3.size
                clear HBL hf3
                have HBL := Lib.hid hbl3
                clear hbl3
                go_wp2
                go_roundg (gO - 1)
                case rel => exact ⟨k + 1, by have := HK.out; omega, by go_num, by rw [hst.out, HNIL.out]; exact HBL.out, hgs, hb⟩
                case measure => have := HK.out; have := HGO.out; omega
        · obtain rfl : k = p.2.length := by have := HK.out; omega
          have hbl := HBL.out
          rw [textR_all] at hbl
          have HB2 := Lib.hid hbl
          clear hbl HBL
          go_wp2_with fail
          refine (Tryz.Builder_String_any g g _ _ HB2.out hgs).mono ?_
          rintro e w3 ⟨rfl, hf3⟩
          go_wp2
          go_ret
          exact ⟨by rw [fmtB, if_pos (shaped_iff.2 HS.out)]; rfl, hb.trans (hf3.mono (Nat.le_of_lt hlt))⟩
end Go.Proofs.YtdjfdopgjlbloaaGreatDoor
