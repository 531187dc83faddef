/- Walks: readNames and the reference's test of names. -/
import Derived.Test.YtnhhfbhhglhocaaRn1
import Derived.Test.YtnhhfbhhglhocaaW6
import Derived.Laws.CopyOwn
namespace Go.Proofs.Ytnhhfbhhglhocaa
open Go.RowKit

theorem sizeTab : (Try.prog.info? 88).map (·.size) = some 9 := by kernel_rfl
/-- The table of the first k names. -/
def tabN (ns : List Int) (k : Nat) : List Int := 0 :: (ns.take k ++ reps 0 (8 - k))
theorem tabN_len {ns : List Int} (h : ns.length = 8) {k : Nat} (hk : k ≤ 8) : (tabN ns k).length = 9 := by
  simp [tabN, reps, h]; omega
theorem tabN_set {ns : List Int} (h : ns.length = 8) {k : Nat} (hk : k < 8) : (tabN ns k).set (k + 1) (gi ns k) = tabN ns (k + 1) := by
  unfold tabN
  rw [List.set_cons_succ]
  congr 1
  refine gi_ext ?_ fun i hi => ?_
  · simp [reps, h]; omega
  · rw [List.length_set] at hi
    rw [gi_set (by simp [reps, h]; omega)]
    have e1 : ∀ (l m : List Int) (j : Nat), gi (l ++ m) j = if j < l.length then gi l j else gi m (j - l.length) := by
      intro l m j
      unfold gi
      simp only [List.getD_eq_getElem?_getD, List.getElem?_append]
      split <;> rfl
    have e2 : ∀ (n j : Nat), j < n → gi (ns.take n) j = gi ns j := by
      intro n j hj
      unfold gi
      simp [hj]
    have e3 : ∀ (n j : Nat), gi (reps 0 n) j = 0 := by
      intro n j
      unfold gi reps
      simp only [List.getD_eq_getElem?_getD, List.getElem?_replicate]
      split <;> rfl
    rw [e1, e1]
    simp only [List.length_take, h, e3]
    by_cases e : k = i
    · subst e
      rw [if_pos rfl, if_pos (by omega), e2 _ _ (by omega)]
    · rw [if_neg e]
      by_cases hlt : i < k
      · rw [if_pos (by omega), if_pos (by omega), e2 _ _ hlt, e2 _ _ (by omega)]
      · rw [if_neg (by omega), if_neg (by omega)]

set_option maxHeartbeats 800000 in
theorem readNames_any (v : Value) (ns : List Int) (w : World) (h : RInts w v ns) :
    Calls Try.prog 113 #[v] w fun e w' => ∃ tl : List Int, tl.length = 9 ∧ (namesB ns = true → tl = 0 :: ns) ∧ e = .returned (.tuple #[.agg (iarr tl), .bool (namesB ns)]) ∧ Below w.heap.size w w' := by
  by_cases hL : ns.length = 8
  · obtain ⟨b, o, cap, rfl, _, _, hcell⟩ := h.ne (by omega)
    have hbl := World.block_lt_of_cell? w _ (hcell 0 (by omega))
    rw [hL]
    have HC := Lib.hid hcell
    have HL := Lib.hid hL
    clear hcell hL h
    go_enter Try.func113, Try.ntmps113
    go_wp2_with fail
    generalize hw0 : (w.alloc (.cells #[.int .i64 0, .int .i64 0, .int .i64 0, .int .i64 0, .int .i64 0, .int .i64 0, .int .i64 0, .int .i64 0, .int .i64 0] 88)).alloc (.cells #[.int .i64 0, .int .i64 0, .int .i64 0, .int .i64 0, .int .i64 0, .int .i64 0, .int .i64 0, .int .i64 0, .int .i64 0] 88) = w0 at *
    have hR : w0.heap[w.heap.size]? = some (.cells (iarr (reps 0 9)) 88 (0, 0)) := by rw [← hw0]; exact heap_alloc2_old _ _ _
    have hT : w0.heap[w.heap.size + 1]? = some (.cells (iarr (reps 0 9)) 88 (0, 0)) := by rw [← hw0]; exact heap_alloc2_new _ _ _
    have hbw : Below w.heap.size w w0 := by rw [← hw0]; exact ba (below_alloc _ _) _
    have hs0 : w.heap.size + 2 = w0.heap.size := by rw [← hw0]; simp
    have HS := Lib.hid hs0
    have HR := Lib.hid hR
    have HT := Lib.hid hT
    clear hw0 hs0 hR hT
    go_loopg [5, 14] 8 (fun q s i wr => ∃ k : Nat, k + q = 8 ∧ i = .int .i64 k ∧ s = .int .u16 (seenN ns k) ∧ goodTo ns k = true ∧ wr.heap[w.heap.size + 1]? = some (.cells (iarr (tabN ns k)) 88 (0, 0)) ∧ wr.heap[w.heap.size]? = some (.cells (iarr (reps 0 9)) 88 (0, 0)) ∧ Below w.heap.size w wr)
    case atStart => exact ⟨0, by omega, rfl, rfl, rfl, HT.out, HR.out, hbw⟩
    case round =>
      obtain ⟨k, hk, rfl, rfl, hgk, hrt, hrr, hb⟩ := hrel
      have HK := Lib.hid hk
      have HG := Lib.hid hgk
      have HRT := Lib.hid hrt
      have HRR := Lib.hid hrr
      have hlt := seen_lt hgk
      have hzb := hb.size
      have hzt := box_lt hrt
      clear hk hgk hrt hrr
      by_cases hk8 : k < 8
      · have hc := cell_below hb (p := ⟨b, o + k, none⟩) hbl (HC.out k (by rw [HL.out]; exact hk8))
        by_cases ha : isAddrB (gi ns k) = true
        · have hn := isAddrB_iff.1 ha
          obtain ⟨m, hm⟩ := Int.eq_ofNat_of_zero_le (show 0 ≤ gi ns k by omega)
          rw [hm] at hc ha hn
          have hm8 : m ≤ 8 := by omega
          by_cases hh : hasB (seenN ns k) (m : Int) = true
          · have hfin : namesB ns = false := by
              cases hx : goodTo ns 8 with
              | false => simp [namesB, hx]
              | true =>
                have := good_le (show k + 1 ≤ 8 by omega) hx
                rw [goodTo, hm, hh] at this
                simp at this
            have HF := Lib.hid (And.intro hfin hm)
            clear hfin hm
            go_wp2_with (first
              | (go_at_call 126; go_must (((with_reducible refine (isAddr_any _ _).mono ?_); rintro e w' ⟨rfl, rfl⟩)))
              | (go_at_call 94; go_must ((refine (cellHas_any _ _ _ hlt).mono ?_); rintro e w' ⟨rfl, rfl⟩))
              | (refine wpList_load_row rfl 88 _ rfl (w.heap.size + 1) rfl 88 _ (0, 0) _ HRT.out Try.underlying88 rfl (by rw [sizeTab, iarr_size, tabN_len HL.out (by omega)]) ?_)
              | (refine wpList_store_row rfl 88 _ _ rfl w.heap.size _ rfl rfl 88 _ HRR.out (by rw [sizeTab, iarr_size, tabN_len HL.out (by omega)]) (by rw [iarr_size, iarr_size, tabN_len HL.out (by omega)]; rfl) (iarr_one _) ?_))
            have hrow := setRow_heap wr w.heap.size (iarr (reps 0 9)) (iarr (tabN ns k)) _ _ HRR.out
            have hld := run_loadVar_row (P := Try.prog) _ w.heap.size 88 88 (iarr (tabN ns k)) (0, 0) _ hrow Try.underlying88 rfl (by rw [sizeTab, iarr_size, tabN_len HL.out (by omega)])
            refine bodyPost_ret (v := .tuple #[.agg (iarr (tabN ns k)), .bool false]) (results_cell_tmp Try.results113 _ _ rfl hld) rfl ?_
            exact ⟨tabN ns k, tabN_len HL.out (by omega), (fun hx => by rw [HF.out.1] at hx; cases hx), by rw [HF.out.1], below_setRow hb (Nat.le_refl _) _⟩
          · have hh' : hasB (seenN ns k) (m : Int) = false := by simpa using hh
            have hor := or_bit (seenN ns k) m hlt (by omega)
            have hgk1 : goodTo ns (k + 1) = true := by rw [goodTo, HG.out, hm, ha, hh']; rfl
            have hts : (tabN ns k).set (k + 1) m = tabN ns (k + 1) := by rw [← hm]; exact tabN_set HL.out hk8
            have hse : seenN ns k ||| 2 ^ m = seenN ns (k + 1) := by rw [seenN, hm]; rfl
            have HF := Lib.hid (And.intro hgk1 (And.intro hts (And.intro hse hor)))
            have hck := iarr_at HRT.out (k + 1) (by rw [tabN_len HL.out (by omega)]; omega)
            have hfk := frozen_of_row wr (w.heap.size + 1) (k + 1) _ _ HRT.out
            have hki : (k : Int) + 1 < 9 := by omega
            have hne : ¬ w.heap.size = w.heap.size + 1 := by omega
            clear hgk1 hts hse hor hh hm
            go_wp2_with (first
              | (go_at_call 126; go_must (((with_reducible refine (isAddr_any _ _).mono ?_); rintro e w' ⟨rfl, rfl⟩)))
              | (go_at_call 94; go_must ((refine (cellHas_any _ _ _ hlt).mono ?_); rintro e w' ⟨rfl, rfl⟩)))
            go_roundg (gk - 1)
            case rel =>
              refine ⟨k + 1, by have := HK.out; omega, by go_num, by rw [HF.out.2.2.2, HF.out.2.2.1], HF.out.1, ?_, ?_, ?_⟩
              · rw [← HF.out.2.1]; exact iarr_set HRT.out _ _
              · rw [heap_setCell_other _ _ _ _ (by simp)]; exact HRR.out
              · exact hb.setCell (by simp) _
            case measure => have := HK.out; omega
        · have ha' : isAddrB (gi ns k) = false := by simpa using ha
          have hfin : namesB ns = false := by
            cases hx : goodTo ns 8 with
            | false => simp [namesB, hx]
            | true =>
              have := good_le (show k + 1 ≤ 8 by omega) hx
              rw [goodTo, ha'] at this
              simp at this
          have HF := Lib.hid hfin
          clear hfin ha
          go_wp2_with (first
            | (go_at_call 126; go_must (((with_reducible refine (isAddr_any _ _).mono ?_); rintro e w' ⟨rfl, rfl⟩)))
            | (go_at_call 94; go_must ((refine (cellHas_any _ _ _ hlt).mono ?_); rintro e w' ⟨rfl, rfl⟩))
            | (refine wpList_load_row rfl 88 _ rfl (w.heap.size + 1) rfl 88 _ (0, 0) _ HRT.out Try.underlying88 rfl (by rw [sizeTab, iarr_size, tabN_len HL.out (by omega)]) ?_)
            | (refine wpList_store_row rfl 88 _ _ rfl w.heap.size _ rfl rfl 88 _ HRR.out (by rw [sizeTab, iarr_size, tabN_len HL.out (by omega)]) (by rw [iarr_size, iarr_size, tabN_len HL.out (by omega)]; rfl) (iarr_one _) ?_))
          have hrow := setRow_heap wr w.heap.size (iarr (reps 0 9)) (iarr (tabN ns k)) _ _ HRR.out
          have hld := run_loadVar_row (P := Try.prog) _ w.heap.size 88 88 (iarr (tabN ns k)) (0, 0) _ hrow Try.underlying88 rfl (by rw [sizeTab, iarr_size, tabN_len HL.out (by omega)])
          refine bodyPost_ret (v := .tuple #[.agg (iarr (tabN ns k)), .bool false]) (results_cell_tmp Try.results113 _ _ rfl hld) rfl ?_
          exact ⟨tabN ns k, tabN_len HL.out (by omega), (fun hx => by rw [HF.out] at hx; cases hx), by rw [HF.out], below_setRow hb (Nat.le_refl _) _⟩
      · obtain rfl : k = 8 := by have := HK.out; omega
        have hfin : namesB ns = true := by rw [namesB, HL.out, HG.out]; rfl
        have HF := Lib.hid hfin
        clear hfin
        go_wp2_with (first
          | (go_at_call 126; go_must (((with_reducible refine (isAddr_any _ _).mono ?_); rintro e w' ⟨rfl, rfl⟩)))
          | (go_at_call 94; go_must ((refine (cellHas_any _ _ _ hlt).mono ?_); rintro e w' ⟨rfl, rfl⟩))
          | (refine wpList_load_row rfl 88 _ rfl (w.heap.size + 1) rfl 88 _ (0, 0) _ HRT.out Try.underlying88 rfl (by rw [sizeTab, iarr_size, tabN_len HL.out (Nat.le_refl 8)]) ?_)
          | (refine wpList_store_row rfl 88 _ _ rfl w.heap.size _ rfl rfl 88 _ HRR.out (by rw [sizeTab, iarr_size, tabN_len HL.out (Nat.le_refl 8)]) (by rw [iarr_size, iarr_size, tabN_len HL.out (Nat.le_refl 8)]; rfl) (iarr_one _) ?_))
        have hrow := setRow_heap wr w.heap.size (iarr (reps 0 9)) (iarr (tabN ns 8)) _ _ HRR.out
        have hld := run_loadVar_row (P := Try.prog) _ w.heap.size 88 88 (iarr (tabN ns 8)) (0, 0) _ hrow Try.underlying88 rfl (by rw [sizeTab, iarr_size, tabN_len HL.out (Nat.le_refl 8)])
        refine bodyPost_ret (v := .tuple #[.agg (iarr (tabN ns 8)), .bool true]) (results_cell_tmp Try.results113 _ _ rfl hld) rfl ?_
        exact ⟨tabN ns 8, tabN_len HL.out (Nat.le_refl 8), fun _ => by simp [tabN, reps, List.take_of_length_le, HL.out], by rw [HF.out], below_setRow hb (Nat.le_refl _) _⟩
  · have hv : namesB ns = false := by simp [namesB, hL]
    obtain ⟨a, cap, rfl⟩ := h.form
    have hne : ((ns.length : Int) != 8) = true := by rw [bne_iff_ne]; omega
    have HV := Lib.hid hv
    clear hv hL h
    go_enter Try.func113, Try.ntmps113
    go_wp2
    refine bodyPost_ret (v := .tuple #[.agg (iarr (reps 0 9)), .bool false]) (by simp [results, Try.results113, go_sem]; rfl) rfl ?_
    exact ⟨reps 0 9, by simp [reps], fun hh => by rw [HV.out] at hh; (cases hh), by rw [HV.out], ba (below_alloc _ _) _⟩
end Go.Proofs.Ytnhhfbhhglhocaa
