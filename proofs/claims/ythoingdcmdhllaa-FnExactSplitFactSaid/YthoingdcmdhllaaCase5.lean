/- Walks: a case that is read. -/
import Derived.Test.YthoingdcmdhllaaCase4
import Derived.Test.YthoingdcmdhllaaRens
import Derived.Deep.RegionHeld3
import Derived.Deep.MidRow
import Derived.Laws.IdiomCopy
namespace Go.Proofs.Ythoingdcmdhllaa
open Go.RowKit

/-- A class is possible. -/
def stepC (M : Nat) (cl : List Int) (t : Nat) : Bool := if M.testBit t = true then (decide (0 ≤ gi cl t) && (decide (gi cl t ≤ (t : Int)) && (gi cl (gi cl t).toNat == gi cl t))) else gi cl t == -1
def shapeC (M : Nat) (cl : List Int) : Bool := (cl.length == 9) && (List.range 9).all (stepC M cl)
def readC (m : Nat) (a : Asn) (cl : List Int) : Bool := shapeC (termM (termsM a) 0 ||| m) cl && possC cl 8 a
def tabC (cl : List Int) (k : Nat) : List Int := cl.take k ++ reps 0 (9 - k)
theorem tabC_len {cl : List Int} (h : cl.length = 9) {k : Nat} (hk : k ≤ 9) : (tabC cl k).length = 9 := by
  simp [tabC, reps, h]; omega
theorem tabC_gi {cl : List Int} (h : cl.length = 9) {k j : Nat} (hj : j < k) (hk : k ≤ 9) : gi (tabC cl k) j = gi cl j := by
  unfold gi tabC
  simp only [List.getD_eq_getElem?_getD]
  rw [List.getElem?_append_left (by rw [List.length_take]; omega), List.getElem?_take, if_pos hj]
theorem tabC_set {cl : List Int} (h : cl.length = 9) {k : Nat} (hk : k < 9) : (tabC cl k).set k (gi cl k) = tabC cl (k + 1) := by
  apply List.ext_getElem?
  intro i
  rw [List.getElem?_set]
  have hl := tabC_len h (k := k) (by omega)
  by_cases e : k = i
  · subst e
    rw [if_pos rfl, if_pos (by omega)]
    unfold tabC
    rw [List.getElem?_append_left (by rw [List.length_take]; omega), List.getElem?_take, if_pos (by omega)]
    simp [gi, h, hk]
  · rw [if_neg e]
    unfold tabC
    by_cases hi : i < k
    · rw [List.getElem?_append_left (by rw [List.length_take]; omega), List.getElem?_append_left (by rw [List.length_take]; omega), List.getElem?_take, List.getElem?_take, if_pos hi, if_pos (by omega)]
    · rw [List.getElem?_append_right (by rw [List.length_take]; omega), List.getElem?_append_right (by rw [List.length_take]; omega)]
      simp only [reps, List.getElem?_replicate, List.length_take, h]
      by_cases h9 : i < 9
      · rw [if_pos (by omega), if_pos (by omega)]
      · rw [if_neg (by omega), if_neg (by omega)]
theorem tabC_all {cl : List Int} (h : cl.length = 9) : tabC cl 9 = cl := by
  unfold tabC; rw [← h, List.take_length, Nat.sub_self]; simp [reps]
theorem range_all_no {p : Nat → Bool} {k n : Nat} (hk : k < n) (h : p k = false) : (List.range n).all p = false := by
  rw [List.all_eq_false]; exact ⟨k, List.mem_range.2 hk, by simp [h]⟩
theorem range_all_yes {p : Nat → Bool} {k : Nat} (h1 : (List.range k).all p = true) (h : p k = true) : (List.range (k + 1)).all p = true := by
  rw [List.range_succ, List.all_append, h1]; simp [h]

theorem range_keep' {w w' : World} {b o : Nat} {cs : List Value} (hb : Below w.heap.size w w') (h : w.rangeAt b o cs) : w'.rangeAt b o cs := fun j v hj => cell_keep hb (h j v hj)
theorem there_keep {w w' : World} {b o n : Nat} (hb : Below w.heap.size w w') (h : w.there b o n) : w'.there b o n := by
  intro j hj
  obtain ⟨h1, h2⟩ := h j hj
  obtain ⟨u, hu⟩ := Option.isSome_iff_exists.1 h1
  have hlt := World.block_lt_of_cell? w _ hu
  exact ⟨by rw [cell_keep hb hu]; rfl, (hb.frozen (p := ⟨b, o + j, none⟩) hlt).trans h2⟩
theorem below_setCells {B g : Nat} {a : World} (hg : B ≤ g) : ∀ (cs : List Value) (o : Nat) (w : World), Below B a w → Below B a (w.setCells g o cs)
  | [], _, _, h => h
  | c :: cs, o, _, h => below_setCells hg cs (o + 1) _ (h.setCell (p := ⟨g, o, none⟩) hg c)
theorem cell_setCells {w : World} {g o : Nat} {cs : List Value} {p : Addr} {v : Value} (hp : ¬ p.block = g) (h : w.cell? p = some v) : (w.setCells g o cs).cell? p = some v := by
  rw [World.cell?_setCells_out _ _ _ _ _ (fun e => absurd e hp)]; exact h
theorem sizeC : (Try.prog.info? 124).map (·.size) = some 9 := by kernel_rfl
set_option maxRecDepth 100000 in
set_option maxHeartbeats 6400000 in
theorem readCase_any {S1 S2 : Nat → Prop} (v1 v2 v : Value) (a : Asn) (m : Nat) (cl : List Int) (w : World) (h1 : RL w S1 v1 a.1) (h2 : RL w S2 v2 a.2) (hv : RInts w v cl) (ha : asnB a = true) (hm : m < 65536) :
    Calls Try.prog 122 #[.agg #[v1, v2], .int .u16 m, v] w fun e w' => ∃ tl : List Int, tl.length = 9 ∧ (readC m a cl = true → tl = cl) ∧ e = .returned (.tuple #[.agg (iarr tl), .bool (readC m a cl)]) ∧ Below w.heap.size w w' := by
  obtain ⟨xa1, xc1, rfl⟩ := h1.form
  obtain ⟨xa2, xc2, rfl⟩ := h2.form
  obtain ⟨va, vc, rfl⟩ := hv.form
  have hmv := hv.len
  unfold maxLen at hmv
  by_cases hL : cl.length = 9
  rotate_left
  · have hne : ((cl.length : Int) != 9) = true := by simp; omega
    have HR := Lib.hid (show readC m a cl = false by simp [readC, shapeC, hL])
    clear hL
    go_enter Try.func122, Try.ntmps122
    go_wp2
    refine bodyPost_ret (v := .tuple #[.agg (iarr (reps 0 9)), .bool false]) (by simp [results, Try.results122, go_sem]; rfl) rfl ?_
    exact ⟨reps 0 9, by simp [reps], fun hh => by rw [HR.out] at hh; (cases hh), by rw [HR.out], ba (ba (below_alloc _ _) _) _⟩
  have hne : ((cl.length : Int) != 9) = false := by simp; omega
  obtain ⟨cb, co, cc, hfe, _, _, hcell⟩ := hv.ne (by omega)
  simp only [Value.slice.injEq] at hfe
  obtain ⟨rfl, hh, rfl⟩ := hfe
  clear hh
  have hbl := World.block_lt_of_cell? w _ (hcell 0 (by omega))
  obtain ⟨M1, hM1⟩ : ∃ M, termsM a = M := ⟨_, rfl⟩
  have hl1 : M1 < 65536 := by rw [← hM1]; exact termsM_lt a
  obtain ⟨M2, hM2⟩ : ∃ M, termM M1 0 = M := ⟨_, rfl⟩
  have hl2 : M2 < 65536 := by rw [← hM2]; exact termM_lt hl1
  have hor : bits .or .u16 (M2 : Int) (m : Int) = ((M2 ||| m : Nat) : Int) := u16_or_nat M2 m hl2 hm
  obtain ⟨M, hM⟩ : ∃ M, M2 ||| m = M := ⟨_, rfl⟩
  have hml : M < 65536 := by rw [← hM]; exact Nat.or_lt_two_pow (n := 16) hl2 hm
  have hrd : readC m a cl = (shapeC M cl && possC cl 8 a) := by rw [readC, hM1, hM2, hM]
  rw [hM] at hor
  have HRD := Lib.hid hrd
  have HM1 := Lib.hid (And.intro hM1 hM2)
  have HOR := Lib.hid hor
  have HML := Lib.hid hml
  have HC := Lib.hid hcell
  have HL := Lib.hid hL
  have HA := Lib.hid ha
  clear hrd hM1 hM2 hor hM hml hcell hL hv ha hm
  go_enter Try.func122, Try.ntmps122
  go_wp2_with fail
  generalize hw0 : ((w.alloc (.cells #[.slice xa1 a.1.length xc1, .slice xa2 a.2.length xc2] 34)).alloc (.cells #[.int .i64 0, .int .i64 0, .int .i64 0, .int .i64 0, .int .i64 0, .int .i64 0, .int .i64 0, .int .i64 0, .int .i64 0] 124)).alloc (.cells #[.int .i64 0, .int .i64 0, .int .i64 0, .int .i64 0, .int .i64 0, .int .i64 0, .int .i64 0, .int .i64 0, .int .i64 0] 124) = w0 at *
  have hbw : Below w.heap.size w w0 := by rw [← hw0]; exact ba (ba (below_alloc _ _) _) _
  have hT : w0.heap[w.heap.size + 1 + 1]? = some (.cells (iarr (reps 0 9)) 124 (0, 0)) := by
    rw [← hw0]
    have := heap_alloc_new ((w.alloc (.cells #[.slice xa1 a.1.length xc1, .slice xa2 a.2.length xc2] 34)).alloc (.cells #[.int .i64 0, .int .i64 0, .int .i64 0, .int .i64 0, .int .i64 0, .int .i64 0, .int .i64 0, .int .i64 0, .int .i64 0] 124)) (.cells #[.int .i64 0, .int .i64 0, .int .i64 0, .int .i64 0, .int .i64 0, .int .i64 0, .int .i64 0, .int .i64 0, .int .i64 0] 124)
    simp only [World.size_alloc] at this
    exact this
  have hR : w0.heap[w.heap.size + 1]? = some (.cells (iarr (reps 0 9)) 124 (0, 0)) := by
    rw [← hw0]
    have := heap_alloc_new (w.alloc (.cells #[.slice xa1 a.1.length xc1, .slice xa2 a.2.length xc2] 34)) (.cells #[.int .i64 0, .int .i64 0, .int .i64 0, .int .i64 0, .int .i64 0, .int .i64 0, .int .i64 0, .int .i64 0, .int .i64 0] 124)
    simp only [World.size_alloc] at this
    exact box_keep this (below_alloc _ _)
  have hB : w0.heap[w.heap.size]? = some (.cells #[.slice xa1 a.1.length xc1, .slice xa2 a.2.length xc2] 34 (0, 0)) := by
    rw [← hw0]
    exact box_keep (box_keep (heap_alloc_new w _) (below_alloc _ _)) (below_alloc _ _)
  clear hw0
  refine (termsIn_any _ _ a _ (h1.keep hbw) (h2.keep hbw)).mono ?_
  rw [HM1.out.1]
  rintro e w2 ⟨rfl, hb2⟩
  have HT := Lib.hid (And.intro (box_keep hT hb2) (And.intro (box_keep hR hb2) (box_keep hB hb2)))
  have hbw2 := bt hbw hb2
  clear hT hR hB hb2
  go_wp2_with (go_at_call 94; go_must ((refine (withT_val _ hl1 HM1.out.2).mono ?_); rintro e w' ⟨rfl, rfl⟩))
  rw [HOR.out]
  go_loopg [23] 9 (fun q i wr => ∃ k : Nat, k + q = 9 ∧ i = .int .i64 k ∧ (List.range k).all (stepC M cl) = true ∧ wr.heap[w.heap.size + 1 + 1]? = some (.cells (iarr (tabC cl k)) 124 (0, 0)) ∧ wr.heap[w.heap.size + 1]? = some (.cells (iarr (reps 0 9)) 124 (0, 0)) ∧ wr.heap[w.heap.size]? = some (.cells #[.slice xa1 a.1.length xc1, .slice xa2 a.2.length xc2] 34 (0, 0)) ∧ Below w.heap.size w wr)
  case atStart => exact ⟨0, by omega, rfl, rfl, HT.out.1, HT.out.2.1, HT.out.2.2, hbw2⟩
  case round =>
    obtain ⟨k, hk, rfl, hal, hrt, hrr, hbx, hb⟩ := hrel
    have HK := Lib.hid hk
    have HAL := Lib.hid hal
    have HRT := Lib.hid hrt
    have HRR := Lib.hid hrr
    have HBX := Lib.hid hbx
    have hzt := box_lt hrt
    clear hk hal hrt hrr hbx
    by_cases hk9 : k < 9
    · have hcs := cell_below hb (p := ⟨cb, co + k, none⟩) hbl (HC.out k (by rw [HL.out]; exact hk9))
      have hts := tabC_set HL.out hk9
      have hcold := iarr_at HRT.out k (by rw [tabC_len HL.out (by omega)]; exact hk9)
      have hfk := frozen_of_row wr (w.heap.size + 1 + 1) k _ _ HRT.out
      have hki : (k : Int) < 9 := by omega
      have hki' : (k : Int) < (cl.length : Int) := by rw [HL.out]; omega
      cases hbit : M.testBit k
      · have hh : hasT M (k : Int) = false := by rw [hasT, Int.toNat_natCast, hbit]; simp
        have HH := Lib.hid hh
        obtain ⟨E, hE⟩ : ∃ E, gi cl k = E := ⟨_, rfl⟩
        have hst : stepC M cl k = (E == -1) := by rw [stepC, hbit, hE]; rfl
        rw [hE] at hcs hts
        have HTS := Lib.hid hts
        by_cases hE1 : E = -1
        · have hEb : (E != -1) = false := by simp [hE1]
          have HST := Lib.hid (show stepC M cl k = true by rw [hst]; simpa using hE1)
          clear hh hE hst hts hE1 hbit
          have hr6 := iarr_set HRT.out k E
          rw [HTS.out] at hr6
          have hrr6 : (wr.setCell ⟨w.heap.size + 1 + 1, k, none⟩ (.int .i64 E)).heap[w.heap.size + 1]? = some (.cells (iarr (reps 0 9)) 124 (0, 0)) := by rw [heap_setCell_other _ _ _ _ (by simp)]; exact HRR.out
          have hbx6 : (wr.setCell ⟨w.heap.size + 1 + 1, k, none⟩ (.int .i64 E)).heap[w.heap.size]? = some (.cells #[.slice xa1 a.1.length xc1, .slice xa2 a.2.length xc2] 34 (0, 0)) := by rw [heap_setCell_other _ _ _ _ (by simp; omega)]; exact HBX.out
          have hb6 := hb.setCell (p := ⟨w.heap.size + 1 + 1, k, none⟩) (by simp; omega) (.int .i64 E)
          have H6 := Lib.hid (And.intro (And.intro hr6 hrr6) (And.intro hbx6 hb6))
          clear hr6 hrr6 hbx6 hb6
          go_upto_region 9 with fail
          generalize wr.setCell ⟨w.heap.size + 1 + 1, k, none⟩ (.int .i64 E) = w6 at H6 ⊢
          have hb6 := H6.out.2.2
          clear hcold hfk
          go_wp2_with (first
            | (go_at_call 186; go_must ((refine (hasT_val _ HML.out HH.out).mono ?_); rintro e w' ⟨rfl, rfl⟩)))
          go_roundg (gk - 1)
          case rel => exact ⟨k + 1, by have := HK.out; omega, by go_num, range_all_yes HAL.out HST.out, H6.out.1.1, H6.out.1.2, H6.out.2.1, H6.out.2.2⟩
          case measure => have := HK.out; omega
        · have hEb : (E != -1) = true := by simp [hE1]
          have HST := Lib.hid (show readC m a cl = false by rw [HRD.out, shapeC, range_all_no hk9 (show stepC M cl k = false by rw [hst]; simpa using hE1)]; simp)
          clear hh hE hst hts hE1 hbit
          have hr6 := iarr_set HRT.out k E
          rw [HTS.out] at hr6
          have hrr6 : (wr.setCell ⟨w.heap.size + 1 + 1, k, none⟩ (.int .i64 E)).heap[w.heap.size + 1]? = some (.cells (iarr (reps 0 9)) 124 (0, 0)) := by rw [heap_setCell_other _ _ _ _ (by simp)]; exact HRR.out
          have hbx6 : (wr.setCell ⟨w.heap.size + 1 + 1, k, none⟩ (.int .i64 E)).heap[w.heap.size]? = some (.cells #[.slice xa1 a.1.length xc1, .slice xa2 a.2.length xc2] 34 (0, 0)) := by rw [heap_setCell_other _ _ _ _ (by simp; omega)]; exact HBX.out
          have hb6 := hb.setCell (p := ⟨w.heap.size + 1 + 1, k, none⟩) (by simp; omega) (.int .i64 E)
          have H6 := Lib.hid (And.intro (And.intro hr6 hrr6) (And.intro hbx6 hb6))
          clear hr6 hrr6 hbx6 hb6
          go_upto_region 9 with fail
          generalize wr.setCell ⟨w.heap.size + 1 + 1, k, none⟩ (.int .i64 E) = w6 at H6 ⊢
          have hb6 := H6.out.2.2
          clear hcold hfk
          go_wp2_with (first
            | (go_at_call 186; go_must ((refine (hasT_val _ HML.out HH.out).mono ?_); rintro e w' ⟨rfl, rfl⟩))
            | (refine wpList_load_row rfl 124 _ rfl (w.heap.size + 1 + 1) rfl 124 _ (0, 0) _ H6.out.1.1 Try.underlying124 rfl (by rw [sizeC, iarr_size, (tabC_len HL.out (by omega))]) ?_)
            | (refine wpList_store_row rfl 124 _ _ rfl (w.heap.size + 1) _ rfl rfl 124 _ H6.out.1.2 (by rw [sizeC, iarr_size, (tabC_len HL.out (by omega))]) (by rw [iarr_size, iarr_size, (tabC_len HL.out (by omega))]; rfl) (iarr_one _) ?_))
          have hrow := setRow_heap w6 (w.heap.size + 1) (iarr (reps 0 9)) (iarr (tabC cl (k + 1))) _ _ H6.out.1.2
          have hld := run_loadVar_row (P := Try.prog) _ (w.heap.size + 1) 124 124 (iarr (tabC cl (k + 1))) (0, 0) _ hrow Try.underlying124 rfl (by rw [sizeC, iarr_size, (tabC_len HL.out (by omega))])
          refine bodyPost_ret (v := .tuple #[.agg (iarr (tabC cl (k + 1))), .bool false]) (results_cell_tmp Try.results122 _ _ rfl hld) rfl ?_
          exact ⟨(tabC cl (k + 1)), (tabC_len HL.out (by omega)), (fun hx => by rw [HST.out] at hx; cases hx), by rw [HST.out], below_setRow hb6 (by omega) _⟩
      · have hh : hasT M (k : Int) = true := by rw [hasT, Int.toNat_natCast, hbit]; simp [isTermB]; omega
        have HH := Lib.hid hh
        obtain ⟨E, hE⟩ : ∃ E, gi cl k = E := ⟨_, rfl⟩
        have hst : stepC M cl k = (decide (0 ≤ E) && (decide (E ≤ (k : Int)) && (gi cl E.toNat == E))) := by rw [stepC, hbit, hE]; rfl
        rw [hE] at hcs hts
        have HTS := Lib.hid hts
        by_cases hE0 : E < 0
        · have HST := Lib.hid (show readC m a cl = false by rw [HRD.out, shapeC, range_all_no hk9 (show stepC M cl k = false by rw [hst, decide_eq_false (by omega)]; rfl)]; simp)
          clear hh hE hst hts hbit
          have hr6 := iarr_set HRT.out k E
          rw [HTS.out] at hr6
          have hrr6 : (wr.setCell ⟨w.heap.size + 1 + 1, k, none⟩ (.int .i64 E)).heap[w.heap.size + 1]? = some (.cells (iarr (reps 0 9)) 124 (0, 0)) := by rw [heap_setCell_other _ _ _ _ (by simp)]; exact HRR.out
          have hbx6 : (wr.setCell ⟨w.heap.size + 1 + 1, k, none⟩ (.int .i64 E)).heap[w.heap.size]? = some (.cells #[.slice xa1 a.1.length xc1, .slice xa2 a.2.length xc2] 34 (0, 0)) := by rw [heap_setCell_other _ _ _ _ (by simp; omega)]; exact HBX.out
          have hb6 := hb.setCell (p := ⟨w.heap.size + 1 + 1, k, none⟩) (by simp; omega) (.int .i64 E)
          have H6 := Lib.hid (And.intro (And.intro hr6 hrr6) (And.intro hbx6 hb6))
          clear hr6 hrr6 hbx6 hb6
          go_upto_region 9 with fail
          generalize wr.setCell ⟨w.heap.size + 1 + 1, k, none⟩ (.int .i64 E) = w6 at H6 ⊢
          have hb6 := H6.out.2.2
          clear hcold hfk
          go_wp2_with (first
            | (go_at_call 186; go_must ((refine (hasT_val _ HML.out HH.out).mono ?_); rintro e w' ⟨rfl, rfl⟩))
            | (refine wpList_load_row rfl 124 _ rfl (w.heap.size + 1 + 1) rfl 124 _ (0, 0) _ H6.out.1.1 Try.underlying124 rfl (by rw [sizeC, iarr_size, (tabC_len HL.out (by omega))]) ?_)
            | (refine wpList_store_row rfl 124 _ _ rfl (w.heap.size + 1) _ rfl rfl 124 _ H6.out.1.2 (by rw [sizeC, iarr_size, (tabC_len HL.out (by omega))]) (by rw [iarr_size, iarr_size, (tabC_len HL.out (by omega))]; rfl) (iarr_one _) ?_))
          have hrow := setRow_heap w6 (w.heap.size + 1) (iarr (reps 0 9)) (iarr (tabC cl (k + 1))) _ _ H6.out.1.2
          have hld := run_loadVar_row (P := Try.prog) _ (w.heap.size + 1) 124 124 (iarr (tabC cl (k + 1))) (0, 0) _ hrow Try.underlying124 rfl (by rw [sizeC, iarr_size, (tabC_len HL.out (by omega))])
          refine bodyPost_ret (v := .tuple #[.agg (iarr (tabC cl (k + 1))), .bool false]) (results_cell_tmp Try.results122 _ _ rfl hld) rfl ?_
          exact ⟨(tabC cl (k + 1)), (tabC_len HL.out (by omega)), (fun hx => by rw [HST.out] at hx; cases hx), by rw [HST.out], below_setRow hb6 (by omega) _⟩
        by_cases hE1 : (k : Int) < E
        · have HST := Lib.hid (show readC m a cl = false by rw [HRD.out, shapeC, range_all_no hk9 (show stepC M cl k = false by rw [hst, decide_eq_false (p := E ≤ (k : Int)) (by omega)]; simp)]; simp)
          clear hh hE hst hts hbit
          have hr6 := iarr_set HRT.out k E
          rw [HTS.out] at hr6
          have hrr6 : (wr.setCell ⟨w.heap.size + 1 + 1, k, none⟩ (.int .i64 E)).heap[w.heap.size + 1]? = some (.cells (iarr (reps 0 9)) 124 (0, 0)) := by rw [heap_setCell_other _ _ _ _ (by simp)]; exact HRR.out
          have hbx6 : (wr.setCell ⟨w.heap.size + 1 + 1, k, none⟩ (.int .i64 E)).heap[w.heap.size]? = some (.cells #[.slice xa1 a.1.length xc1, .slice xa2 a.2.length xc2] 34 (0, 0)) := by rw [heap_setCell_other _ _ _ _ (by simp; omega)]; exact HBX.out
          have hb6 := hb.setCell (p := ⟨w.heap.size + 1 + 1, k, none⟩) (by simp; omega) (.int .i64 E)
          have H6 := Lib.hid (And.intro (And.intro hr6 hrr6) (And.intro hbx6 hb6))
          clear hr6 hrr6 hbx6 hb6
          go_upto_region 9 with fail
          generalize wr.setCell ⟨w.heap.size + 1 + 1, k, none⟩ (.int .i64 E) = w6 at H6 ⊢
          have hb6 := H6.out.2.2
          clear hcold hfk
          go_wp2_with (first
            | (go_at_call 186; go_must ((refine (hasT_val _ HML.out HH.out).mono ?_); rintro e w' ⟨rfl, rfl⟩))
            | (refine wpList_load_row rfl 124 _ rfl (w.heap.size + 1 + 1) rfl 124 _ (0, 0) _ H6.out.1.1 Try.underlying124 rfl (by rw [sizeC, iarr_size, (tabC_len HL.out (by omega))]) ?_)
            | (refine wpList_store_row rfl 124 _ _ rfl (w.heap.size + 1) _ rfl rfl 124 _ H6.out.1.2 (by rw [sizeC, iarr_size, (tabC_len HL.out (by omega))]) (by rw [iarr_size, iarr_size, (tabC_len HL.out (by omega))]; rfl) (iarr_one _) ?_))
          have hrow := setRow_heap w6 (w.heap.size + 1) (iarr (reps 0 9)) (iarr (tabC cl (k + 1))) _ _ H6.out.1.2
          have hld := run_loadVar_row (P := Try.prog) _ (w.heap.size + 1) 124 124 (iarr (tabC cl (k + 1))) (0, 0) _ hrow Try.underlying124 rfl (by rw [sizeC, iarr_size, (tabC_len HL.out (by omega))])
          refine bodyPost_ret (v := .tuple #[.agg (iarr (tabC cl (k + 1))), .bool false]) (results_cell_tmp Try.results122 _ _ rfl hld) rfl ?_
          exact ⟨(tabC cl (k + 1)), (tabC_len HL.out (by omega)), (fun hx => by rw [HST.out] at hx; cases hx), by rw [HST.out], below_setRow hb6 (by omega) _⟩
        obtain ⟨n, rfl⟩ := Int.eq_ofNat_of_zero_le (show 0 ≤ E by omega)
        have hn9 : (n : Int) < 9 := by omega
        have hnk : n < k + 1 := by omega
        obtain ⟨D, hD⟩ : ∃ D, gi cl n = D := ⟨_, rfl⟩
        rw [Int.toNat_natCast, hD, decide_eq_true (by omega), decide_eq_true (by omega)] at hst
        have HD := Lib.hid hD
        by_cases hDn : D = (n : Int)
        · have hDb : (D != (n : Int)) = false := by simp [hDn]
          have HST := Lib.hid (show stepC M cl k = true by rw [hst]; simpa using hDn)
          clear hh hE hst hts hbit hD hDn
          have hr6 := iarr_set HRT.out k (n : Int)
          rw [HTS.out] at hr6
          have hrr6 : (wr.setCell ⟨w.heap.size + 1 + 1, k, none⟩ (.int .i64 (n : Int))).heap[w.heap.size + 1]? = some (.cells (iarr (reps 0 9)) 124 (0, 0)) := by rw [heap_setCell_other _ _ _ _ (by simp)]; exact HRR.out
          have hbx6 : (wr.setCell ⟨w.heap.size + 1 + 1, k, none⟩ (.int .i64 (n : Int))).heap[w.heap.size]? = some (.cells #[.slice xa1 a.1.length xc1, .slice xa2 a.2.length xc2] 34 (0, 0)) := by rw [heap_setCell_other _ _ _ _ (by simp; omega)]; exact HBX.out
          have hb6 := hb.setCell (p := ⟨w.heap.size + 1 + 1, k, none⟩) (by simp; omega) (.int .i64 (n : Int))
          have H6 := Lib.hid (And.intro (And.intro hr6 hrr6) (And.intro hbx6 hb6))
          clear hr6 hrr6 hbx6 hb6
          go_upto_region 9 with fail
          generalize wr.setCell ⟨w.heap.size + 1 + 1, k, none⟩ (.int .i64 (n : Int)) = w6 at H6 ⊢
          have hb6 := H6.out.2.2
          clear hcold hfk
          have hcn := iarr_at H6.out.1.1 n (by rw [tabC_len HL.out (by omega)]; omega)
          rw [tabC_gi HL.out hnk (by omega), HD.out] at hcn
          go_wp2_with (first
            | (go_at_call 186; go_must ((refine (hasT_val _ HML.out HH.out).mono ?_); rintro e w' ⟨rfl, rfl⟩)))
          go_roundg (gk - 1)
          case rel => exact ⟨k + 1, by have := HK.out; omega, by go_num, range_all_yes HAL.out HST.out, H6.out.1.1, H6.out.1.2, H6.out.2.1, H6.out.2.2⟩
          case measure => have := HK.out; omega
        · have hDb : (D != (n : Int)) = true := by simp [hDn]
          have HST := Lib.hid (show readC m a cl = false by rw [HRD.out, shapeC, range_all_no hk9 (show stepC M cl k = false by rw [hst]; simpa using hDn)]; simp)
          clear hh hE hst hts hbit hD hDn
          have hr6 := iarr_set HRT.out k (n : Int)
          rw [HTS.out] at hr6
          have hrr6 : (wr.setCell ⟨w.heap.size + 1 + 1, k, none⟩ (.int .i64 (n : Int))).heap[w.heap.size + 1]? = some (.cells (iarr (reps 0 9)) 124 (0, 0)) := by rw [heap_setCell_other _ _ _ _ (by simp)]; exact HRR.out
          have hbx6 : (wr.setCell ⟨w.heap.size + 1 + 1, k, none⟩ (.int .i64 (n : Int))).heap[w.heap.size]? = some (.cells #[.slice xa1 a.1.length xc1, .slice xa2 a.2.length xc2] 34 (0, 0)) := by rw [heap_setCell_other _ _ _ _ (by simp; omega)]; exact HBX.out
          have hb6 := hb.setCell (p := ⟨w.heap.size + 1 + 1, k, none⟩) (by simp; omega) (.int .i64 (n : Int))
          have H6 := Lib.hid (And.intro (And.intro hr6 hrr6) (And.intro hbx6 hb6))
          clear hr6 hrr6 hbx6 hb6
          go_upto_region 9 with fail
          generalize wr.setCell ⟨w.heap.size + 1 + 1, k, none⟩ (.int .i64 (n : Int)) = w6 at H6 ⊢
          have hb6 := H6.out.2.2
          clear hcold hfk
          have hcn := iarr_at H6.out.1.1 n (by rw [tabC_len HL.out (by omega)]; omega)
          rw [tabC_gi HL.out hnk (by omega), HD.out] at hcn
          go_wp2_with (first
            | (go_at_call 186; go_must ((refine (hasT_val _ HML.out HH.out).mono ?_); rintro e w' ⟨rfl, rfl⟩))
            | (refine wpList_load_row rfl 124 _ rfl (w.heap.size + 1 + 1) rfl 124 _ (0, 0) _ H6.out.1.1 Try.underlying124 rfl (by rw [sizeC, iarr_size, (tabC_len HL.out (by omega))]) ?_)
            | (refine wpList_store_row rfl 124 _ _ rfl (w.heap.size + 1) _ rfl rfl 124 _ H6.out.1.2 (by rw [sizeC, iarr_size, (tabC_len HL.out (by omega))]) (by rw [iarr_size, iarr_size, (tabC_len HL.out (by omega))]; rfl) (iarr_one _) ?_))
          have hrow := setRow_heap w6 (w.heap.size + 1) (iarr (reps 0 9)) (iarr (tabC cl (k + 1))) _ _ H6.out.1.2
          have hld := run_loadVar_row (P := Try.prog) _ (w.heap.size + 1) 124 124 (iarr (tabC cl (k + 1))) (0, 0) _ hrow Try.underlying124 rfl (by rw [sizeC, iarr_size, (tabC_len HL.out (by omega))])
          refine bodyPost_ret (v := .tuple #[.agg (iarr (tabC cl (k + 1))), .bool false]) (results_cell_tmp Try.results122 _ _ rfl hld) rfl ?_
          exact ⟨(tabC cl (k + 1)), (tabC_len HL.out (by omega)), (fun hx => by rw [HST.out] at hx; cases hx), by rw [HST.out], below_setRow hb6 (by omega) _⟩
    · obtain rfl : k = 9 := by have := HK.out; omega
      have hfin : readC m a cl = possC cl 8 a := by rw [HRD.out, shapeC, HL.out, HAL.out]; rfl
      have HF := Lib.hid hfin
      have hrow := HRT.out
      rw [tabC_all HL.out] at hrow
      have HROW := Lib.hid hrow
      clear hfin hrow
      have hra : RArr wr (w.heap.size + 1 + 1) cl := ⟨HL.out, hzt, fun i hi => iarr_at HROW.out i (by rw [HL.out]; exact hi)⟩
      have hrg : wr.rangeAt (w.heap.size + 1 + 1) 0 (ints cl) := by
        intro j u hj
        have hj9 : j < cl.length := by
          have := (List.getElem?_eq_some_iff.1 hj).1
          simpa [ints] using this
        rw [Nat.zero_add, hra.2.2 j (by rw [← HL.out]; exact hj9), ← hj]
        simp only [ints, List.getElem?_map, List.getElem?_eq_getElem hj9, gi_of hj9]
        rfl
      have hth : wr.there (w.heap.size + 1) 0 9 := by
        intro j hj
        rw [Nat.zero_add, iarr_at HRR.out j (by simpa [reps] using hj), frozen_of_row wr (w.heap.size + 1) j _ _ HRR.out]
        exact ⟨rfl, rfl⟩
      have hu9 := Try.underlying124
      have hs9 : (Try.prog.info? 124).map (·.size) = some (ints cl).length := by rw [sizeC]; simp [ints, HL.out]
      have hn9 : (ints cl).length = 9 := by simp [ints, HL.out]
      have h19 : ∀ u ∈ ints cl, u.oneCell' = true := by
        intro u hu
        simp [ints] at hu
        obtain ⟨_, _, rfl⟩ := hu
        rfl
      have hc0 := cell_of_row wr w.heap.size 0 _ _ _ HBX.out
      have hc1 := cell_of_row wr w.heap.size 1 _ _ _ HBX.out
      simp only [List.getElem?_toArray, List.getElem?_cons_zero, List.getElem?_cons_succ] at hc0 hc1
      obtain ⟨pb, hpb⟩ : ∃ p, possC cl 8 a = p := ⟨_, rfl⟩
      have HPB := Lib.hid hpb
      have haf := (show a.1.all factB = true ∧ a.2.all atomB = true by have := HA.out; simp only [asnB, factsB, Bool.and_eq_true] at this; exact ⟨this.1.2, this.2.2⟩)
      have HAF := Lib.hid haf
      have hke : ¬ ((9 : Nat) : Int) < (cl.length : Int) := by rw [HL.out]; omega
      clear hpb haf
      go_wp2
      go_region_held3 (fun w' => (w'.cell? ⟨w.heap.size, 0, none⟩ = some (.slice xa1 a.1.length xc1) ∧ w'.cell? ⟨w.heap.size, 1, none⟩ = some (.slice xa2 a.2.length xc2)) ∧ (w'.rangeAt (w.heap.size + 1 + 1) 0 (ints cl) ∧ w'.there (w.heap.size + 1) 0 9))
        (first | exact ⟨⟨cell_setCells (by simp) (cell_keep (by repeat (first | exact Below.refl _ _ | with_reducible assumption | exact below_alloc _ _ | (refine Below.setCell ?_ (by first | (simp; done) | (simp; omega) | omega) _) | apply bd | apply ba | apply be)) hd0), cell_setCells (by simp) (cell_keep (by repeat (first | exact Below.refl _ _ | with_reducible assumption | exact below_alloc _ _ | (refine Below.setCell ?_ (by first | (simp; done) | (simp; omega) | omega) _) | apply bd | apply ba | apply be)) hd1)⟩, World.rangeAt_setCells_apart (range_keep' (by repeat (first | exact Below.refl _ _ | with_reducible assumption | exact below_alloc _ _ | (refine Below.setCell ?_ (by first | (simp; done) | (simp; omega) | omega) _) | apply bd | apply ba | apply be)) hdr) _ _ _ (Or.inl (by simp)), World.there_setCells (there_keep (by repeat (first | exact Below.refl _ _ | with_reducible assumption | exact below_alloc _ _ | (refine Below.setCell ?_ (by first | (simp; done) | (simp; omega) | omega) _) | apply bd | apply ba | apply be)) hdt) _ _ _⟩ | exact ⟨⟨cell_keep (by repeat (first | exact Below.refl _ _ | with_reducible assumption | exact below_alloc _ _ | (refine Below.setCell ?_ (by first | (simp; done) | (simp; omega) | omega) _) | apply bd | apply ba | apply be)) hc0, cell_keep (by repeat (first | exact Below.refl _ _ | with_reducible assumption | exact below_alloc _ _ | (refine Below.setCell ?_ (by first | (simp; done) | (simp; omega) | omega) _) | apply bd | apply ba | apply be)) hc1⟩, range_keep' (by repeat (first | exact Below.refl _ _ | with_reducible assumption | exact below_alloc _ _ | (refine Below.setCell ?_ (by first | (simp; done) | (simp; omega) | omega) _) | apply bd | apply ba | apply be)) hrg, there_keep (by repeat (first | exact Below.refl _ _ | with_reducible assumption | exact below_alloc _ _ | (refine Below.setCell ?_ (by first | (simp; done) | (simp; omega) | omega) _) | apply bd | apply ba | apply be)) hth⟩)
        (first
          | (go_at_call 187; go_must (refine (possibleC_any (w.heap.size + 1 + 1) cl _ _ a 8 _ (hra.keep (by repeat (first | exact Below.refl _ _ | with_reducible assumption | exact below_alloc _ _ | (refine Below.setCell ?_ (by first | (simp; done) | (simp; omega) | omega) _) | apply bd | apply ba | apply be))) (h1.keep (bt hb (by repeat (first | exact Below.refl _ _ | with_reducible assumption | exact below_alloc _ _ | (refine Below.setCell ?_ (by first | (simp; done) | (simp; omega) | omega) _) | apply bd | apply ba | apply be)))) (h2.keep (bt hb (by repeat (first | exact Below.refl _ _ | with_reducible assumption | exact below_alloc _ _ | (refine Below.setCell ?_ (by first | (simp; done) | (simp; omega) | omega) _) | apply bd | apply ba | apply be)))) HAF.out.1 HAF.out.2).mono ?_; rw [HPB.out]; rintro e w8 ⟨rfl, hb8'⟩; have hb8 : Below wr.heap.size wr w8 := bt (by repeat (first | exact Below.refl _ _ | with_reducible assumption | exact below_alloc _ _ | (refine Below.setCell ?_ (by first | (simp; done) | (simp; omega) | omega) _) | apply bd | apply ba | apply be)) hb8'; have hd0 := cell_keep hb8 hc0; have hd1 := cell_keep hb8 hc1; have hdr := range_keep' hb8 hrg; have hdt := there_keep hb8 hth)))
      all_goals
        have hbb := below_setCells (B := w.heap.size) (g := w.heap.size + 1) (by omega) (ints cl) 0 w8 (bt hb hb8)
        have hfr := World.rangeAt_setCells_same w8 (w.heap.size + 1) 0 (ints cl) (by rw [hn9]; exact hdt)
        have hld := run_loadVar_mid (P := Try.prog) _ (w.heap.size + 1) 0 124 (ints cl) _ hfr hu9 rfl hs9
        have HLD := Lib.hid (And.intro hld hbb)
        clear hld hbb hfr hu9 hs9
        go_wp2
        refine bodyPost_ret (v := .tuple #[.agg (iarr cl), .bool pb]) (results_cell_tmp Try.results122 _ _ rfl HLD.out.1) rfl ?_
        exact ⟨cl, HL.out, fun _ => rfl, by rw [HF.out, HPB.out], HLD.out.2⟩
end Go.Proofs.Ythoingdcmdhllaa
