/- Rens: texts Rn1, Rn2, Rn3, Rn4 in one. -/
import Derived.Test.YtgfnoinkajfndaaGreatABase3
import Derived.Test.YtgfnoinkajfndaaGreatAPerms
import Derived.Test.YtgfnoinkajfndaaGreatADraw1
import Derived.Laws.Tables
import Derived.Test.YtgfnoinkajfndaaGreatABase1
import Derived.Laws.CopyOwn
import Derived.Test.YtgfnoinkajfndaaGreatACpy
import Derived.Test.YtgfnoinkajfndaaGreatADraw2
/- Walks: tables of names. -/
namespace Go.Proofs.YtgfnoinkajfndaaGreat
open Go.RowKit

abbrev iarr (l : List Int) : Array Value := (ints l).toArray
theorem iarr_size (l : List Int) : (iarr l).size = l.length := by simp [ints]
theorem iarr_one (l : List Int) : (iarr l).all (·.oneCell') = true := by
  rw [Array.all_eq_true_iff_forall_mem]
  intro x hx
  simp [ints] at hx
  obtain ⟨_, _, rfl⟩ := hx
  rfl
theorem iarr_at {w : World} {b : Nat} {T : TypeId} {l : List Int} (h : w.heap[b]? = some (.cells (iarr l) T (0, 0))) (i : Nat) (hi : i < l.length) : w.cell? ⟨b, i, none⟩ = some (.int .i64 (gi l i)) := by
  rw [cell_of_row w b i _ _ _ h]
  simp [ints, hi, gi_of]
theorem iarr_set {w : World} {b : Nat} {T : TypeId} {l : List Int} (h : w.heap[b]? = some (.cells (iarr l) T (0, 0))) (i : Nat) (x : Int) : (w.setCell ⟨b, i, none⟩ (.int .i64 x)).heap[b]? = some (.cells (iarr (l.set i x)) T (0, 0)) := by
  rw [heap_setCell_same w b i _ T _ h]
  congr 2
  simp [ints, List.map_set]

/-- A value by a table of names. -/
def nmT (tl : List Int) (v : Int) : Int := if isAddrB v = true then gi tl v.toNat else v
theorem nmT_cons (ns : List Int) (v : Int) : nmT (0 :: ns) v = nm ns v := by
  unfold nmT nm
  by_cases h : isAddrB v = true
  · rw [if_pos h, if_pos h]
    have := isAddrB_iff.1 h
    obtain ⟨k, rfl⟩ : ∃ k : Nat, v = (k : Int) + 1 := ⟨(v - 1).toNat, by omega⟩
    rw [show ((k : Int) + 1).toNat = k + 1 by omega, show ((k : Int) + 1 - 1).toNat = k by omega]
    simp [gi]
  · rw [if_neg h, if_neg h]

set_option maxHeartbeats 400000 in
theorem rename_any (b : Nat) (tl : List Int) (n : Int) (w : World) (hc : ∀ i, i < 9 → w.cell? ⟨b, i, none⟩ = some (.int .i64 (gi tl i))) :
    Calls Tryz.prog 78 #[.pointer (some ⟨b, 0, none⟩), .int .i64 n] w fun e w' => e = .returned (.int .i64 (nmT tl n)) ∧ w = w' := by
  by_cases ha : isAddrB n = true
  · have hn := isAddrB_iff.1 ha
    obtain ⟨k, rfl⟩ := Int.eq_ofNat_of_zero_le (show 0 ≤ n by omega)
    have hk := hc k (by omega)
    have h9 : (k : Int) < 9 := by omega
    clear hc
    go_enter Tryz.func78, Tryz.ntmps78
    go_wp2_with (first | (go_at_call 76; go_must (((with_reducible refine (isAddr_any _ _).mono ?_); rintro e w' ⟨rfl, rfl⟩))))
    go_ret
    exact ⟨by simp [nmT, ha], rfl⟩
  · have ha' : isAddrB n = false := by simpa using ha
    clear hc ha
    go_enter Tryz.func78, Tryz.ntmps78
    go_wp2_with (first | (go_at_call 76; go_must (((with_reducible refine (isAddr_any _ _).mono ?_); rintro e w' ⟨rfl, rfl⟩))))
    go_ret
    exact ⟨by simp [nmT, ha'], rfl⟩
end Go.Proofs.YtgfnoinkajfndaaGreat
/- Walks: readNames and the reference's test of names. -/
namespace Go.Proofs.YtgfnoinkajfndaaGreat
open Go.RowKit

theorem sizeTab : (Tryz.prog.info? 69).map (·.size) = some 9 := by kernel_rfl
/-- The table of the first k names. -/
def tabN (ns : List Int) (k : Nat) : List Int := 0 :: (ns.take k ++ reps 0 (8 - k))
theorem tabN_len {ns : List Int} (h : ns.length = 8) {k : Nat} (hk : k ≤ 8) : (tabN ns k).length = 9 := by
  simp [tabN, reps, h]; omega
theorem tabN_set {ns : List Int} (h : ns.length = 8) {k : Nat} (hk : k < 8) : (tabN ns k).set (k + 1) (gi ns k) = tabN ns (k + 1) := by
  unfold tabN
  rw [List.set_cons_succ]
  congr 1
  refine gi_ext ?_ fun i hi => ?_
  · simp [reps, h]; omega
  · rw [List.length_set] at hi
    rw [gi_set (by simp [reps, h]; omega)]
    have e1 : ∀ (l m : List Int) (j : Nat), gi (l ++ m) j = if j < l.length then gi l j else gi m (j - l.length) := by
      intro l m j
      unfold gi
      simp only [List.getD_eq_getElem?_getD, List.getElem?_append]
      split <;> rfl
    have e2 : ∀ (n j : Nat), j < n → gi (ns.take n) j = gi ns j := by
      intro n j hj
      unfold gi
      simp [hj]
    have e3 : ∀ (n j : Nat), gi (reps 0 n) j = 0 := by
      intro n j
      unfold gi reps
      simp only [List.getD_eq_getElem?_getD, List.getElem?_replicate]
      split <;> rfl
    rw [e1, e1]
    simp only [List.length_take, h, e3]
    by_cases e : k = i
    · subst e
      rw [if_pos rfl, if_pos (by omega), e2 _ _ (by omega)]
    · rw [if_neg e]
      by_cases hlt : i < k
      · rw [if_pos (by omega), if_pos (by omega), e2 _ _ hlt, e2 _ _ (by omega)]
      · rw [if_neg (by omega), if_neg (by omega)]

set_option maxHeartbeats 800000 in
theorem readNames_any (v : Value) (ns : List Int) (w : World) (h : RInts w v ns) :
    Calls Tryz.prog 30 #[v] w fun e w' => ∃ tl : List Int, tl.length = 9 ∧ (namesB ns = true → tl = 0 :: ns) ∧ e = .returned (.tuple #[.agg (iarr tl), .bool (namesB ns)]) ∧ Below w.heap.size w w' := by
  by_cases hL : ns.length = 8
  · obtain ⟨b, o, cap, rfl, _, _, hcell⟩ := h.ne (by omega)
    have hbl := World.block_lt_of_cell? w _ (hcell 0 (by omega))
    rw [hL]
    have HC := Lib.hid hcell
    have HL := Lib.hid hL
    clear hcell hL h
    go_enter Tryz.func30, Tryz.ntmps30
    go_wp2_with fail
    generalize hw0 : (w.alloc (.cells #[.int .i64 0, .int .i64 0, .int .i64 0, .int .i64 0, .int .i64 0, .int .i64 0, .int .i64 0, .int .i64 0, .int .i64 0] 69)).alloc (.cells #[.int .i64 0, .int .i64 0, .int .i64 0, .int .i64 0, .int .i64 0, .int .i64 0, .int .i64 0, .int .i64 0, .int .i64 0] 69) = w0 at *
    have hR : w0.heap[w.heap.size]? = some (.cells (iarr (reps 0 9)) 69 (0, 0)) := by rw [← hw0]; exact heap_alloc2_old _ _ _
    have hT : w0.heap[w.heap.size + 1]? = some (.cells (iarr (reps 0 9)) 69 (0, 0)) := by rw [← hw0]; exact heap_alloc2_new _ _ _
    have hbw : Below w.heap.size w w0 := by rw [← hw0]; exact ba (below_alloc _ _) _
    have hs0 : w.heap.size + 2 = w0.heap.size := by rw [← hw0]; simp
    have HS := Lib.hid hs0
    have HR := Lib.hid hR
    have HT := Lib.hid hT
    clear hw0 hs0 hR hT
    go_loopg [5, 14] 8 (fun q s i wr => ∃ k : Nat, k + q = 8 ∧ i = .int .i64 k ∧ s = .int .u16 (seenN ns k) ∧ goodTo ns k = true ∧ wr.heap[w.heap.size + 1]? = some (.cells (iarr (tabN ns k)) 69 (0, 0)) ∧ wr.heap[w.heap.size]? = some (.cells (iarr (reps 0 9)) 69 (0, 0)) ∧ Below w.heap.size w wr)
    case atStart => exact ⟨0, by omega, rfl, rfl, rfl, HT.out, HR.out, hbw⟩
    case round =>
      obtain ⟨k, hk, rfl, rfl, hgk, hrt, hrr, hb⟩ := hrel
      have HK := Lib.hid hk
      have HG := Lib.hid hgk
      have HRT := Lib.hid hrt
      have HRR := Lib.hid hrr
      have hlt := seen_lt hgk
      have hzb := hb.size
      have hzt := box_lt hrt
      clear hk hgk hrt hrr
      by_cases hk8 : k < 8
      · have hc := cell_below hb (p := ⟨b, o + k, none⟩) hbl (HC.out k (by rw [HL.out]; exact hk8))
        by_cases ha : isAddrB (gi ns k) = true
        · have hn := isAddrB_iff.1 ha
          obtain ⟨m, hm⟩ := Int.eq_ofNat_of_zero_le (show 0 ≤ gi ns k by omega)
          rw [hm] at hc ha hn
          have hm8 : m ≤ 8 := by omega
          by_cases hh : hasB (seenN ns k) (m : Int) = true
          · have hfin : namesB ns = false := by
              cases hx : goodTo ns 8 with
              | false => simp [namesB, hx]
              | true =>
                have := good_le (show k + 1 ≤ 8 by omega) hx
                rw [goodTo, hm, hh] at this
                simp at this
            have HF := Lib.hid (And.intro hfin hm)
            clear hfin hm
            go_wp2_with (first
              | (go_at_call 76; go_must (((with_reducible refine (isAddr_any _ _).mono ?_); rintro e w' ⟨rfl, rfl⟩)))
              | (go_at_call 77; go_must ((refine (cellHas_any _ _ _ hlt).mono ?_); rintro e w' ⟨rfl, rfl⟩))
              | (refine wpList_load_row rfl 69 _ rfl (w.heap.size + 1) rfl 69 _ (0, 0) _ HRT.out Tryz.underlying69 rfl (by rw [sizeTab, iarr_size, tabN_len HL.out (by omega)]) ?_)
              | (refine wpList_store_row rfl 69 _ _ rfl w.heap.size _ rfl rfl 69 _ HRR.out (by rw [sizeTab, iarr_size, tabN_len HL.out (by omega)]) (by rw [iarr_size, iarr_size, tabN_len HL.out (by omega)]; rfl) (iarr_one _) ?_))
            have hrow := setRow_heap wr w.heap.size (iarr (reps 0 9)) (iarr (tabN ns k)) _ _ HRR.out
            have hld := run_loadVar_row (P := Tryz.prog) _ w.heap.size 69 69 (iarr (tabN ns k)) (0, 0) _ hrow Tryz.underlying69 rfl (by rw [sizeTab, iarr_size, tabN_len HL.out (by omega)])
            refine bodyPost_ret (v := .tuple #[.agg (iarr (tabN ns k)), .bool false]) (results_cell_tmp Tryz.results30 _ _ rfl hld) rfl ?_
            exact ⟨tabN ns k, tabN_len HL.out (by omega), (fun hx => by rw [HF.out.1] at hx; cases hx), by rw [HF.out.1], below_setRow hb (Nat.le_refl _) _⟩
          · have hh' : hasB (seenN ns k) (m : Int) = false := by simpa using hh
            have hor := or_bit (seenN ns k) m hlt (by omega)
            have hgk1 : goodTo ns (k + 1) = true := by rw [goodTo, HG.out, hm, ha, hh']; rfl
            have hts : (tabN ns k).set (k + 1) m = tabN ns (k + 1) := by rw [← hm]; exact tabN_set HL.out hk8
            have hse : seenN ns k ||| 2 ^ m = seenN ns (k + 1) := by rw [seenN, hm]; rfl
            have HF := Lib.hid (And.intro hgk1 (And.intro hts (And.intro hse hor)))
            have hck := iarr_at HRT.out (k + 1) (by rw [tabN_len HL.out (by omega)]; omega)
            have hfk := frozen_of_row wr (w.heap.size + 1) (k + 1) _ _ HRT.out
            have hki : (k : Int) + 1 < 9 := by omega
            have hne : ¬ w.heap.size = w.heap.size + 1 := by omega
            clear hgk1 hts hse hor hh hm
            go_wp2_with (first
              | (go_at_call 76; go_must (((with_reducible refine (isAddr_any _ _).mono ?_); rintro e w' ⟨rfl, rfl⟩)))
              | (go_at_call 77; go_must ((refine (cellHas_any _ _ _ hlt).mono ?_); rintro e w' ⟨rfl, rfl⟩)))
            go_roundg (gk - 1)
            case rel =>
              refine ⟨k + 1, by have := HK.out; omega, by go_num, by rw [HF.out.2.2.2, HF.out.2.2.1], HF.out.1, ?_, ?_, ?_⟩
              · rw [← HF.out.2.1]; exact iarr_set HRT.out _ _
              · rw [heap_setCell_other _ _ _ _ (by simp)]; exact HRR.out
              · exact hb.setCell (by simp) _
            case measure => have := HK.out; omega
        · have ha' : isAddrB (gi ns k) = false := by simpa using ha
          have hfin : namesB ns = false := by
            cases hx : goodTo ns 8 with
            | false => simp [namesB, hx]
            | true =>
              have := good_le (show k + 1 ≤ 8 by omega) hx
              rw [goodTo, ha'] at this
              simp at this
          have HF := Lib.hid hfin
          clear hfin ha
          go_wp2_with (first
            | (go_at_call 76; go_must (((with_reducible refine (isAddr_any _ _).mono ?_); rintro e w' ⟨rfl, rfl⟩)))
            | (go_at_call 77; go_must ((refine (cellHas_any _ _ _ hlt).mono ?_); rintro e w' ⟨rfl, rfl⟩))
            | (refine wpList_load_row rfl 69 _ rfl (w.heap.size + 1) rfl 69 _ (0, 0) _ HRT.out Tryz.underlying69 rfl (by rw [sizeTab, iarr_size, tabN_len HL.out (by omega)]) ?_)
            | (refine wpList_store_row rfl 69 _ _ rfl w.heap.size _ rfl rfl 69 _ HRR.out (by rw [sizeTab, iarr_size, tabN_len HL.out (by omega)]) (by rw [iarr_size, iarr_size, tabN_len HL.out (by omega)]; rfl) (iarr_one _) ?_))
          have hrow := setRow_heap wr w.heap.size (iarr (reps 0 9)) (iarr (tabN ns k)) _ _ HRR.out
          have hld := run_loadVar_row (P := Tryz.prog) _ w.heap.size 69 69 (iarr (tabN ns k)) (0, 0) _ hrow Tryz.underlying69 rfl (by rw [sizeTab, iarr_size, tabN_len HL.out (by omega)])
          refine bodyPost_ret (v := .tuple #[.agg (iarr (tabN ns k)), .bool false]) (results_cell_tmp Tryz.results30 _ _ rfl hld) rfl ?_
          exact ⟨tabN ns k, tabN_len HL.out (by omega), (fun hx => by rw [HF.out] at hx; cases hx), by rw [HF.out], below_setRow hb (Nat.le_refl _) _⟩
      · obtain rfl : k = 8 := by have := HK.out; omega
        have hfin : namesB ns = true := by rw [namesB, HL.out, HG.out]; rfl
        have HF := Lib.hid hfin
        clear hfin
        go_wp2_with (first
          | (go_at_call 76; go_must (((with_reducible refine (isAddr_any _ _).mono ?_); rintro e w' ⟨rfl, rfl⟩)))
          | (go_at_call 77; go_must ((refine (cellHas_any _ _ _ hlt).mono ?_); rintro e w' ⟨rfl, rfl⟩))
          | (refine wpList_load_row rfl 69 _ rfl (w.heap.size + 1) rfl 69 _ (0, 0) _ HRT.out Tryz.underlying69 rfl (by rw [sizeTab, iarr_size, tabN_len HL.out (Nat.le_refl 8)]) ?_)
          | (refine wpList_store_row rfl 69 _ _ rfl w.heap.size _ rfl rfl 69 _ HRR.out (by rw [sizeTab, iarr_size, tabN_len HL.out (Nat.le_refl 8)]) (by rw [iarr_size, iarr_size, tabN_len HL.out (Nat.le_refl 8)]; rfl) (iarr_one _) ?_))
        have hrow := setRow_heap wr w.heap.size (iarr (reps 0 9)) (iarr (tabN ns 8)) _ _ HRR.out
        have hld := run_loadVar_row (P := Tryz.prog) _ w.heap.size 69 69 (iarr (tabN ns 8)) (0, 0) _ hrow Tryz.underlying69 rfl (by rw [sizeTab, iarr_size, tabN_len HL.out (Nat.le_refl 8)])
        refine bodyPost_ret (v := .tuple #[.agg (iarr (tabN ns 8)), .bool true]) (results_cell_tmp Tryz.results30 _ _ rfl hld) rfl ?_
        exact ⟨tabN ns 8, tabN_len HL.out (Nat.le_refl 8), fun _ => by simp [tabN, reps, List.take_of_length_le, HL.out], by rw [HF.out], below_setRow hb (Nat.le_refl _) _⟩
  · have hv : namesB ns = false := by simp [namesB, hL]
    obtain ⟨a, cap, rfl⟩ := h.form
    have hne : ((ns.length : Int) != 8) = true := by rw [bne_iff_ne]; omega
    have HV := Lib.hid hv
    clear hv hL h
    go_enter Tryz.func30, Tryz.ntmps30
    go_wp2
    refine bodyPost_ret (v := .tuple #[.agg (iarr (reps 0 9)), .bool false]) (by simp [results, Tryz.results30, go_sem]; rfl) rfl ?_
    exact ⟨reps 0 9, by simp [reps], fun hh => by rw [HV.out] at hh; (cases hh), by rw [HV.out], ba (below_alloc _ _) _⟩
end Go.Proofs.YtgfnoinkajfndaaGreat
/- Walks: renamed states. -/
namespace Go.Proofs.YtgfnoinkajfndaaGreat
open Go.RowKit

/-- A state in the making: its two rows of 8; the box of the result at bR, its own at bK. -/
structure RnSt (w0 w : World) (bR bK g1 c1 g2 c2 : Nat) (l1 l2 : List Int) : Prop where
  own : OwnSt w (bR + 1) (.slice (some ⟨g1, 0, none⟩) 8 c1) (.slice (some ⟨g2, 0, none⟩) 8 c2) l1 l2
  len1 : l1.length = 8
  len2 : l2.length = 8
  lt1 : bR < g1
  lt2 : bR < g2
  ne1 : ¬ g1 = bK
  ne2 : ¬ g2 = bK
  low : w0.heap.size ≤ bR
  ltK : bR < bK
  boxR : w.heap[bR]? = some (.cells #[.slice none 0 0, .slice none 0 0] 25 (0, 0))
  boxK : w.heap[bK]? = some (.cells #[.slice (some ⟨g1, 0, none⟩) 8 c1, .slice (some ⟨g2, 0, none⟩) 8 c2] 25 (0, 0))
  bel : Below w0.heap.size w0 w

section
variable {w0 w w' : World} {bR bK g1 c1 g2 c2 : Nat} {l1 l2 : List Int}
theorem RnSt.keep (h : RnSt w0 w bR bK g1 c1 g2 c2 l1 l2) (hb : Below w.heap.size w w') : RnSt w0 w' bR bK g1 c1 g2 c2 l1 l2 :=
  ⟨h.own.keep hb, h.len1, h.len2, h.lt1, h.lt2, h.ne1, h.ne2, h.low, h.ltK, box_keep h.boxR hb, box_keep h.boxK hb, bt h.bel hb⟩
theorem RnSt.set1 (h : RnSt w0 w bR bK g1 c1 g2 c2 l1 l2) (i : Nat) (x : Int) : RnSt w0 (w.setCell ⟨g1, i, none⟩ (.int .i64 x)) bR bK g1 c1 g2 c2 (l1.set i x) l2 := by
  have ho := h.own
  rw [← h.len1] at ho
  have hs := ho.set1 i x
  rw [h.len1] at hs
  have hlo := h.low
  have hlt := h.lt1
  exact ⟨hs, by rw [List.length_set, h.len1], h.len2, h.lt1, h.lt2, h.ne1, h.ne2, h.low, h.ltK, box_other h.boxR _ _ (by simp; omega), box_other h.boxK _ _ (by simp; exact fun e => h.ne1 e.symm), h.bel.setCell (by simp; omega) _⟩
theorem RnSt.set2 (h : RnSt w0 w bR bK g1 c1 g2 c2 l1 l2) (i : Nat) (x : Int) : RnSt w0 (w.setCell ⟨g2, i, none⟩ (.int .i64 x)) bR bK g1 c1 g2 c2 l1 (l2.set i x) := by
  have ho := h.own
  have hs : OwnSt (w.setCell ⟨g2, i, none⟩ (.int .i64 x)) (bR + 1) (.slice (some ⟨g1, 0, none⟩) 8 c1) (.slice (some ⟨g2, 0, none⟩) 8 c2) l1 (l2.set i x) := by
    have := OwnSt.set2 (l2 := l2) (cap := c2) (g := g2) (by rw [h.len2]; exact ho) i x
    rwa [h.len2] at this
  have hlo := h.low
  have hlt := h.lt2
  exact ⟨hs, h.len1, by rw [List.length_set, h.len2], h.lt1, h.lt2, h.ne1, h.ne2, h.low, h.ltK, box_other h.boxR _ _ (by simp; omega), box_other h.boxK _ _ (by simp; exact fun e => h.ne2 e.symm), h.bel.setCell (by simp; omega) _⟩
theorem RnSt.cell1 (h : RnSt w0 w bR bK g1 c1 g2 c2 l1 l2) (i : Nat) (hi : i < 8) : w.cell? ⟨g1, i, none⟩ = some (.int .i64 (gi l1 i)) ∧ w.frozen? ⟨g1, i, none⟩ = false := by
  have := h.own.one
  rw [h.len1] at this
  exact own_cell (cap := c1) (by rw [h.len1]; exact this) i (by rw [h.len1]; exact hi)
theorem RnSt.cell2 (h : RnSt w0 w bR bK g1 c1 g2 c2 l1 l2) (i : Nat) (hi : i < 8) : w.cell? ⟨g2, i, none⟩ = some (.int .i64 (gi l2 i)) ∧ w.frozen? ⟨g2, i, none⟩ = false := by
  have := h.own.two
  rw [h.len2] at this
  exact own_cell (cap := c2) (by rw [h.len2]; exact this) i (by rw [h.len2]; exact hi)
/-- At the return: the state is laid into the result's box. -/
theorem RnSt.done (h : RnSt w0 w bR bK g1 c1 g2 c2 l1 l2) :
    OwnSt ((w.setCell ⟨bR, 0, none⟩ (.slice (some ⟨g1, 0, none⟩) 8 c1)).setCell ⟨bR, 1, none⟩ (.slice (some ⟨g2, 0, none⟩) 8 c2)) w0.heap.size (.slice (some ⟨g1, 0, none⟩) 8 c1) (.slice (some ⟨g2, 0, none⟩) 8 c2) l1 l2 ∧
    Below w0.heap.size w0 ((w.setCell ⟨bR, 0, none⟩ (.slice (some ⟨g1, 0, none⟩) 8 c1)).setCell ⟨bR, 1, none⟩ (.slice (some ⟨g2, 0, none⟩) 8 c2)) := by
  have hlo := h.low
  exact ⟨((h.own.kept (fr_set _ _ _) (fun j h1 _ e => by simp at e; omega)).kept (fr_set _ _ _) (fun j h1 _ e => by simp at e; omega)).mono (by omega), (h.bel.setCell (by simp; omega) _).setCell (by simp; omega) _⟩
/-- The start: two rows, a new box of them, the result's box. -/
theorem RnSt.mk' {u : World} (ho : OwnSt u (bR + 1) (.slice (some ⟨g1, 0, none⟩) 8 c1) (.slice (some ⟨g2, 0, none⟩) 8 c2) l1 l2) (h1 : l1.length = 8) (h2 : l2.length = 8) (hlow : w0.heap.size ≤ bR)
    (hR : u.heap[bR]? = some (.cells #[.slice none 0 0, .slice none 0 0] 25 (0, 0))) (hb : Below w0.heap.size w0 u) :
    RnSt w0 (u.alloc (.cells #[.slice (some ⟨g1, 0, none⟩) 8 c1, .slice (some ⟨g2, 0, none⟩) 8 c2] 25)) bR u.heap.size g1 c1 g2 c2 l1 l2 := by
  have a1 := own_lt ho.one (k := g1) rfl
  have a2 := own_lt ho.two (k := g2) rfl
  have a3 := box_lt hR
  exact ⟨ho.keep (below_alloc _ _), h1, h2, by omega, by omega, by omega, by omega, hlow, a3, box_keep hR (below_alloc _ _), heap_alloc_new _ _, ba hb _⟩
end

/-- The values renamed up to k. -/
def renVn (ns vl : List Int) : Nat → List Int → List Int
  | 0, base => base
  | k + 1, base => (renVn ns vl k base).set k (nm ns (gi vl k))
theorem renVn_len (ns vl base : List Int) : ∀ k, (renVn ns vl k base).length = base.length
  | 0 => rfl
  | k + 1 => by rw [renVn, List.length_set, renVn_len]
theorem renVn_at {ns vl base : List Int} {i : Nat} (hi : i < base.length) : ∀ {k : Nat}, k ≤ base.length → gi (renVn ns vl k base) i = if i < k then nm ns (gi vl i) else gi base i
  | 0, _ => by simp [renVn]
  | k + 1, hk => by
    rw [renVn, gi_set (by rw [renVn_len]; omega), renVn_at hi (by omega)]
    by_cases e : k = i
    · subst e; rw [if_pos rfl, if_pos (Nat.lt_succ_self _)]
    · rw [if_neg e]
      by_cases hlt : i < k
      · rw [if_pos hlt, if_pos (by omega)]
      · rw [if_neg hlt, if_neg (by omega)]
theorem renVn_full {ns vl base : List Int} (hb : base.length = vl.length) : renVn ns vl vl.length base = renV ns vl := by
  refine gi_ext (by rw [renVn_len, renV_len, hb]) fun i hi => ?_
  rw [renVn_len, hb] at hi
  rw [renVn_at (by omega) (by omega), if_pos hi, gi_renV hi]
end Go.Proofs.YtgfnoinkajfndaaGreat
/- Walks: renameState, and the reference's. -/
namespace Go.Proofs.YtgfnoinkajfndaaGreat
open Go.RowKit

theorem box_fr {w w' : World} {S : Nat → Prop} {b : Nat} {o : Obj} (h : w.heap[b]? = some o) (hf : Fr S w w') (hn : ¬ S b) : w'.heap[b]? = some o := (hf.block _ (box_lt h) hn).trans h
set_option maxHeartbeats 1600000 in
theorem renameState_any (v1 v2 : Value) (vl hl ns : List Int) (w : World) (h1 : RInts w v1 vl) (h2 : RInts w v2 hl) (hvd : validB vl hl = true) (hn : ns.length = 8) (hg : goodTo ns 8 = true) :
    Calls Tryz.prog 31 #[.agg #[v1, v2], .agg (iarr (0 :: ns))] w fun e w' => ∃ g1 c1 g2 c2, e = .returned (.agg #[.slice (some ⟨g1, 0, none⟩) 8 c1, .slice (some ⟨g2, 0, none⟩) 8 c2]) ∧ OwnSt w' w.heap.size (.slice (some ⟨g1, 0, none⟩) 8 c1) (.slice (some ⟨g2, 0, none⟩) 8 c2) (renV ns vl) (renH ns hl) ∧ Below w.heap.size w w' := by
  have hlen := valid_len hvd
  have q1 := h1
  have q2 := h2
  obtain ⟨vb, vo, vc, rfl, _, _, vcell⟩ := h1.ne (by omega)
  obtain ⟨hb, ho, hc, rfl, _, _, hcell⟩ := h2.ne (by omega)
  have hvb := World.block_lt_of_cell? w _ (vcell 0 (by omega))
  have hhb := World.block_lt_of_cell? w _ (hcell 0 (by omega))
  rw [hlen.1] at vcell q1 ⊢
  rw [hlen.2] at hcell q2 ⊢
  have VC := Lib.hid vcell
  have HC := Lib.hid hcell
  have HLEN := Lib.hid hlen
  have HN := Lib.hid (And.intro hn hg)
  have HV := Lib.hid hvd
  have l1 : vl.length ≤ 1048576 := by omega
  have l2 : hl.length ≤ 1048576 := by omega
  have l3 : 0 < vl.length ∧ 0 < hl.length := by omega
  clear vcell hcell hlen hn hg hvd h1 h2
  go_enter Tryz.func31, Tryz.ntmps31
  go_wp2_with fail
  generalize hw0 : ((w.alloc (.cells #[.slice (some ⟨vb, vo, none⟩) 8 vc, .slice (some ⟨hb, ho, none⟩) 8 hc] 25)).alloc (.cells (iarr (0 :: ns)) 69)).alloc (.cells #[.slice none 0 0, .slice none 0 0] 25) = w0 at *
  have hbw : Below w.heap.size w w0 := by rw [← hw0]; exact ba (ba (below_alloc _ _) _) _
  have hsz : w0.heap.size = w.heap.size + 3 := by rw [← hw0]; simp
  have hc0 : w0.cell? ⟨w.heap.size, 0, none⟩ = some (.slice (some ⟨vb, vo, none⟩) 8 vc) := by rw [← hw0]; simp [go_sem]
  have hc1 : w0.cell? ⟨w.heap.size, 1, none⟩ = some (.slice (some ⟨hb, ho, none⟩) 8 hc) := by rw [← hw0]; simp [go_sem]
  have hT : w0.heap[w.heap.size + 1]? = some (.cells (iarr (0 :: ns)) 69 (0, 0)) := by rw [← hw0]; exact box_keep (heap_alloc2_new _ _ _) (below_alloc _ _)
  have hR : w0.heap[w.heap.size + 2]? = some (.cells #[.slice none 0 0, .slice none 0 0] 25 (0, 0)) := by
    rw [← hw0]; have := heap_alloc_new ((w.alloc (.cells #[.slice (some ⟨vb, vo, none⟩) 8 vc, .slice (some ⟨hb, ho, none⟩) 8 hc] 25)).alloc (.cells (iarr (0 :: ns)) 69)) (.cells #[.slice none 0 0, .slice none 0 0] 25); simpa using this
  have HT := Lib.hid hT
  have HR := Lib.hid hR
  clear hw0 hT hR
  refine (copyState_any _ _ vl hl _ (q1.keep hbw) (q2.keep hbw) l1 l2).mono ?_
  rintro e w2 ⟨u1, u2, rfl, hst, hb2⟩
  obtain ⟨g1, c1, rfl, _, _⟩ := own_at hst.one l3.1
  obtain ⟨g2, c2, rfl, _, _⟩ := own_at hst.two l3.2
  rw [HLEN.out.1, HLEN.out.2] at hst ⊢
  have HB2 := bt hbw hb2
  have hS := RnSt.mk' (w0 := w) (bR := w.heap.size + 2) (hst.mono (by omega)) HLEN.out.1 HLEN.out.2 (by omega) (box_keep HR.out hb2) HB2
  have hd0 := cell_keep (ba hb2 (.cells #[.slice (some ⟨g1, 0, none⟩) 8 c1, .slice (some ⟨g2, 0, none⟩) 8 c2] 25)) hc0
  have hd1 := cell_keep (ba hb2 (.cells #[.slice (some ⟨g1, 0, none⟩) 8 c1, .slice (some ⟨g2, 0, none⟩) 8 c2] 25)) hc1
  have hdT := box_keep HT.out (ba hb2 (.cells #[.slice (some ⟨g1, 0, none⟩) 8 c1, .slice (some ⟨g2, 0, none⟩) 8 c2] 25))
  have hz2 := hb2.size
  go_wp2
  generalize w2.alloc (.cells #[.slice (some ⟨g1, 0, none⟩) 8 c1, .slice (some ⟨g2, 0, none⟩) 8 c2] 25) = w3 at *
  have HS := Lib.hid hS
  have HD := Lib.hid (And.intro hd0 (And.intro hd1 hdT))
  clear hst hb2 hS hd0 hd1 hdT
  go_loopg [15] 8 (fun q i wr => ∃ k : Nat, k + q = 8 ∧ i = .int .i64 k ∧ RnSt w wr (w.heap.size + 2) w2.heap.size g1 c1 g2 c2 (renVn ns vl k vl) hl ∧ wr.cell? ⟨w.heap.size, 0, none⟩ = some (.slice (some ⟨vb, vo, none⟩) 8 vc) ∧ wr.cell? ⟨w.heap.size, 1, none⟩ = some (.slice (some ⟨hb, ho, none⟩) 8 hc) ∧ wr.heap[w.heap.size + 1]? = some (.cells (iarr (0 :: ns)) 69 (0, 0)))
  case atStart => exact ⟨0, by omega, rfl, HS.out, HD.out⟩
  case round =>
    obtain ⟨k, hk, rfl, hS, hd0, hd1, hdT⟩ := hrel
    have HK := Lib.hid hk
    have HT' := Lib.hid hdT
    have HSR := Lib.hid hS
    have hlt1 := hS.lt1
    have hlt2 := hS.lt2
    clear hk hdT
    by_cases hk8 : k < 8
    · have hki : (k : Int) < 8 := by omega
      have hcv := cell_below hS.bel (p := ⟨vb, vo + k, none⟩) hvb (VC.out k hk8)
      have hbx := box0 hS.boxK
      obtain ⟨hck, hfk⟩ := hS.cell1 k hk8
      have hTC : ∀ i, i < 9 → wr.cell? ⟨w.heap.size + 1, i, none⟩ = some (.int .i64 (gi (0 :: ns) i)) := fun i hi => iarr_at HT'.out i (by have := HN.out.1; simp; omega)
      have HTC := Lib.hid hTC
      clear hS hTC
      go_wp2
      go_region_held3 (fun w' => w'.cell? ⟨w2.heap.size, 0, none⟩ = some (.slice (some ⟨g1, 0, none⟩) 8 c1))
        (first | exact hbx | (refine (fr_set _ _ _).cell ?_ hbx; simp; exact fun e => HSR.out.ne1 e.symm))
        ((go_at_call 78; go_must (refine (rename_any (w.heap.size + 1) (0 :: ns) _ _ (by intro i hi; exact HTC.out i hi)).mono ?_; rintro e w' ⟨rfl, rfl⟩)))
      all_goals
        go_wp2
        go_roundg (gk - 1)
        case rel =>
          have hX := HSR.out.set1 k (nmT (0 :: ns) (gi vl k))
          have hF := fr_set wr ⟨g1, k, none⟩ (.int .i64 (nmT (0 :: ns) (gi vl k)))
          refine ⟨k + 1, by have := HK.out; omega, by go_num, ?_, ?_, ?_, ?_⟩
          · rw [renVn, ← nmT_cons]; exact hX.keep (below_drew _)
          · exact cell_keep (below_drew _) (hF.cell (by simp; omega) hd0)
          · exact cell_keep (below_drew _) (hF.cell (by simp; omega) hd1)
          · exact box_keep (box_fr HT'.out hF (by simp; omega)) (below_drew _)
        case measure => have := HK.out; omega
    · obtain rfl : k = 8 := by have := HK.out; omega
      have hS8 : RnSt w wr (w.heap.size + 2) w2.heap.size g1 c1 g2 c2 (renV ns vl) (renHn ns hl hl 0) := by
        have := HSR.out
        have e := renVn_full (ns := ns) (vl := vl) (base := vl) rfl
        rw [HLEN.out.1] at e
        rw [e] at this
        exact this
      have HS8 := Lib.hid hS8
      clear hS hS8
      obtain ⟨wo, rfl⟩ : ∃ wo : World, wo = wr := ⟨_, rfl⟩
      go_wp2
      go_loopg [30] 8 (fun q i wr => ∃ k : Nat, k + q = 8 ∧ i = .int .i64 k ∧ RnSt w wr (w.heap.size + 2) w2.heap.size g1 c1 g2 c2 (renV ns vl) (renHn ns hl hl k) ∧ wr.heap[w.heap.size + 1]? = some (.cells (iarr (0 :: ns)) 69 (0, 0)))
      case atStart => exact ⟨0, by omega, rfl, HS8.out, HT'.out⟩
      case round =>
        obtain ⟨j, hk, rfl, hS, hdT⟩ := hrel
        clear HK HSR HT'
        have HK := Lib.hid hk
        have HT' := Lib.hid hdT
        have HSR := Lib.hid hS
        clear hk hdT hd0 hd1
        by_cases hj8 : j < 8
        · have hki : (j : Int) < 8 := by omega
          have hcv := cell_below hS.bel (p := ⟨hb, ho + j, none⟩) hhb (HC.out j hj8)
          have hbx := box1 hS.boxK
          have hga := good_addr hj8 HN.out.2
          obtain ⟨m, hm⟩ : ∃ m : Nat, gi ns j = (m : Int) + 1 := ⟨(gi ns j - 1).toNat, by omega⟩
          have hm8 : m < 8 := by omega
          obtain ⟨hck, hfk⟩ := hS.cell2 m hm8
          have hTC : ∀ i, i < 9 → wr.cell? ⟨w.heap.size + 1, i, none⟩ = some (.int .i64 (gi (0 :: ns) i)) := fun i hi => iarr_at HT'.out i (by have := HN.out.1; simp; omega)
          have HTC := Lib.hid hTC
          have htc : wr.cell? ⟨w.heap.size + 1, j + 1, none⟩ = some (.int .i64 ((m : Int) + 1)) := by
            rw [hTC (j + 1) (by omega), ← hm]; simp [gi]
          have HM := Lib.hid hm
          have hmi : (m : Int) < 8 := by omega
          have e1 : IntKind.i64.wrap ((j : Int) + 1) = (j : Int) + 1 := IntWalk.i64_in _ (by omega)
          have e2 : IntKind.i64.wrap ((m : Int) + 1 - 1) = (m : Int) := by rw [Int.add_sub_cancel]; exact IntWalk.i64_in _ (by omega)
          have e3 : IntKind.i64.wrap (m : Int) = (m : Int) := IntWalk.i64_in _ (by omega)
          have e4 : ((j : Int) + 1).toNat = j + 1 := by omega
          have e5 : (j : Int) + 1 < 9 := by omega
          have e6 : (0 : Int) ≤ (j : Int) + 1 := by omega
          clear hS hTC hm hga
          go_wp2
          go_region_held3 (fun w' => w'.cell? ⟨w2.heap.size, 1, none⟩ = some (.slice (some ⟨g2, 0, none⟩) 8 c2) ∧ w'.cell? ⟨w.heap.size + 1, j + 1, none⟩ = some (.int .i64 ((m : Int) + 1)))
            (first | exact ⟨hbx, htc⟩ | (refine ⟨(fr_set _ _ _).cell ?_ hbx, (fr_set _ _ _).cell ?_ htc⟩; simp; exact fun e => HSR.out.ne2 e.symm; simp; omega))
            ((go_at_call 78; go_must (refine (rename_any (w.heap.size + 1) (0 :: ns) _ _ (by intro i hi; exact HTC.out i hi)).mono ?_; rintro e w' ⟨rfl, rfl⟩)))
          all_goals
            clear e1 e2 e3 e4 e5 e6
            go_wp2
            go_roundg (gk - 1)
            case rel =>
              have hX := HSR.out.set2 m (nmT (0 :: ns) (gi hl j))
              have hF := fr_set wr ⟨g2, m, none⟩ (.int .i64 (nmT (0 :: ns) (gi hl j)))
              refine ⟨j + 1, by have := HK.out; omega, by go_num, ?_, ?_⟩
              · rw [renHn, ← nmT_cons, HM.out, show ((m : Int) + 1 - 1).toNat = m by omega]; exact hX.keep (below_drew _)
              · exact box_keep (box_fr HT'.out hF (by simp; omega)) (below_drew _)
            case measure => have := HK.out; omega
        · obtain rfl : j = 8 := by have := HK.out; omega
          have hb0 := box0 hS.boxK
          have hb1 := box1 hS.boxK
          have hr0 := box0 hS.boxR
          have hr1 := box1 hS.boxR
          have hrz := boxz hS.boxR 0
          have hrz1 := boxz hS.boxR 1
          clear hS
          go_wp2
          obtain ⟨hO, hB⟩ := HSR.out.done
          have r := box_two (.slice (some ⟨g1, 0, none⟩) 8 c1) (.slice (some ⟨g2, 0, none⟩) 8 c2) hr0 hr1
          refine bodyPost_ret (v := .agg #[.slice (some ⟨g1, 0, none⟩) 8 c1, .slice (some ⟨g2, 0, none⟩) 8 c2]) (by simp [results, Tryz.results31, go_sem, r.1, r.2]) rfl ?_
          exact ⟨g1, c1, g2, c2, rfl, hO, hB⟩
end Go.Proofs.YtgfnoinkajfndaaGreat
