/- Rens2: texts Rn5, Rn6 in one. -/
import Derived.Test.YthoingdcmdhllaaRens
import Derived.Test.YthoingdcmdhllaaBase2
import Derived.Deep.WholeRow
/- Walks: the reference's names and renamed states. -/
namespace Go.Proofs.Ythoingdcmdhllaa
open Go.RowKit

theorem make9n (w : World) : (Instr.makeSlice 151 (.int .i64 9) (.int .i64 9)).run Try.prog w =
    .ok (.slice (some ⟨w.heap.size, 0, none⟩) 9 9) (w.alloc (.cells #[.bool false, .bool false, .bool false, .bool false, .bool false, .bool false, .bool false, .bool false, .bool false] 4)) := by kernel_rfl
theorem good_bad {ns : List Int} {k m : Nat} (hk : k < m) (h : isAddrB (gi ns k) = false ∨ hasB (seenN ns k) (gi ns k) = true) : goodTo ns m = false := by
  cases hx : goodTo ns m with
  | false => rfl
  | true =>
    have := good_le (show k + 1 ≤ m from hk) hx
    rw [goodTo] at this
    rcases h with h | h <;> rw [h] at this <;> simp at this
theorem names_bad {ns : List Int} {k : Nat} (hk : k < ns.length) (h : isAddrB (gi ns k) = false ∨ hasB (seenN ns k) (gi ns k) = true) : namesB ns = false := by
  by_cases h8 : ns.length = 8
  · rw [namesB, good_bad (show k < 8 by omega) h, Bool.and_false]
  · simp [namesB, h8]
theorem own_flags_mk {w : World} {b m : Nat} (h : w.heap[b]? = some (.cells (flagsOf m).toArray 4 (0, 0))) (i : Nat) (hi : i < 9) : w.cell? ⟨b, i, none⟩ = some (.bool (m.testBit i)) := by
  rw [cell_of_row w b i _ _ _ h]
  simpa using flags_at m i hi

set_option maxHeartbeats 1600000 in
theorem l15Names_any (v : Value) (ns : List Int) (w : World) (h : RInts w v ns) :
    Calls Try.prog 75 #[v] w fun e w' => e = .returned (.bool (namesB ns)) ∧ Below w.heap.size w w' := by
  have hm := h.len
  unfold maxLen at hm
  obtain ⟨a, cap, rfl, hcell⟩ := h.cells
  have HC := Lib.hid hcell
  have hmk := make9n
  clear hcell h
  go_enter Try.func75, Try.ntmps75
  go_wp2
  have hF0 : (w.alloc (.cells #[.bool false, .bool false, .bool false, .bool false, .bool false, .bool false, .bool false, .bool false, .bool false] 4)).heap[w.heap.size]? = some (.cells (flagsOf 0).toArray 4 (0, 0)) := heap_alloc_new _ _
  go_loopg [4] ns.length (fun q i wr => ∃ k : Nat, k + q = ns.length ∧ i = .int .i64 k ∧ goodTo ns k = true ∧ wr.heap[w.heap.size]? = some (.cells (flagsOf (seenN ns k)).toArray 4 (0, 0)) ∧ Below w.heap.size w wr)
  case atStart => exact ⟨0, by omega, rfl, rfl, hF0, below_alloc _ _⟩
  case round =>
    obtain ⟨k, hk, rfl, hgk, hfl, hb⟩ := hrel
    have HK := Lib.hid hk
    have HG := Lib.hid hgk
    have HFL := Lib.hid hfl
    have hlt := seen_lt hgk
    have hzt := box_lt hfl
    clear hk hgk hfl hF0
    by_cases hkn : k < ns.length
    · obtain ⟨b, o, rfl, hbl, hc0⟩ := HC.out k hkn
      have hc := cell_below hb (p := ⟨b, o + k, none⟩) hbl hc0
      have hki : (k : Int) < (ns.length : Int) := by omega
      clear hc0
      by_cases ha : isAddrB (gi ns k) = true
      · have hn := isAddrB_iff.1 ha
        obtain ⟨m, hm'⟩ := Int.eq_ofNat_of_zero_le (show 0 ≤ gi ns k by omega)
        rw [hm'] at hc hn
        have hm8 : m < 9 := by omega
        have hmi : (m : Int) < 9 := by omega
        have hfb := own_flags_mk HFL.out m hm8
        have hb1 : hasB (seenN ns k) (gi ns k) = (seenN ns k).testBit m := by rw [hasB, ha, hm']; rfl
        by_cases hh : (seenN ns k).testBit m = true
        · rw [hh] at hfb
          have hfin := names_bad hkn (.inr (hb1.trans hh))
          have HF := Lib.hid hfin
          clear hfin hm' hb1 hh ha
          go_wp2
          go_ret
          exact ⟨by rw [HF.out]; rfl, hb⟩
        · have hh' : (seenN ns k).testBit m = false := by simpa using hh
          rw [hh'] at hfb
          have hfz := frozen_of_row wr w.heap.size m _ _ HFL.out
          have hg1 : goodTo ns (k + 1) = true := by rw [goodTo, HG.out, ha, hb1, hh']; rfl
          have HF := Lib.hid (And.intro hg1 hm')
          clear hg1 hm' hb1 hh ha hh'
          go_wp2
          go_roundg (gk - 1)
          case rel =>
            refine ⟨k + 1, by have := HK.out; omega, by go_num, HF.out.1, ?_, hb.setCell (by simp) _⟩
            rw [heap_setCell_same _ _ _ _ _ _ HFL.out, seenN, HF.out.2, Int.toNat_natCast, ← flags_set _ m hm8]
            simp
          case measure => have := HK.out; omega
      · have ha' : isAddrB (gi ns k) = false := by simpa using ha
        have hfin := names_bad hkn (.inl ha')
        have HF := Lib.hid hfin
        rw [isAddrB_iff] at ha
        clear hfin ha'
        by_cases h1 : gi ns k < 1
        · clear ha
          go_wp2
          go_ret
          exact ⟨by rw [HF.out]; rfl, hb⟩
        · have h8 : 8 < gi ns k := by omega
          have h1' : 1 ≤ gi ns k := by omega
          clear ha h1
          go_wp2
          go_ret
          exact ⟨by rw [HF.out]; rfl, hb⟩
    · obtain rfl : k = ns.length := by have := HK.out; omega
      have hfin : namesB ns = ((ns.length : Int) == 8) := by
        by_cases h8 : ns.length = 8
        · have := HG.out
          rw [h8] at this
          simp [namesB, h8, this]
        · rw [show ((ns.length : Int) == 8) = false by rw [beq_eq_false_iff_ne]; omega]
          simp [namesB, h8]
      have HF := Lib.hid hfin
      clear hfin
      go_wp2
      go_ret
      exact ⟨by rw [HF.out]; rfl, hb⟩
set_option maxHeartbeats 1600000 in
theorem l15Rename_any (v1 v2 v3 : Value) (vl hl ns : List Int) (w : World) (h1 : RInts w v1 vl) (h2 : RInts w v2 hl) (h3 : RInts w v3 ns) (hvd : validB vl hl = true) (hn : ns.length = 8) (hg : goodTo ns 8 = true) :
    Calls Try.prog 76 #[.agg #[v1, v2], v3] w fun e w' => ∃ g1 c1 g2 c2, e = .returned (.agg #[.slice (some ⟨g1, 0, none⟩) 8 c1, .slice (some ⟨g2, 0, none⟩) 8 c2]) ∧ OwnSt w' w.heap.size (.slice (some ⟨g1, 0, none⟩) 8 c1) (.slice (some ⟨g2, 0, none⟩) 8 c2) (renV ns vl) (renH ns hl) ∧ Below w.heap.size w w' := by
  have hlen := valid_len hvd
  have q3 := h3
  obtain ⟨vb, vo, vc, rfl, _, _, vcell⟩ := h1.ne (by omega)
  obtain ⟨hb, ho, hc, rfl, _, _, hcell⟩ := h2.ne (by omega)
  obtain ⟨nb, no, nc, rfl, _, _, ncell⟩ := h3.ne (by omega)
  have hvb := World.block_lt_of_cell? w _ (vcell 0 (by omega))
  have hhb := World.block_lt_of_cell? w _ (hcell 0 (by omega))
  have hnb := World.block_lt_of_cell? w _ (ncell 0 (by omega))
  rw [hlen.1] at vcell ⊢
  rw [hlen.2] at hcell ⊢
  rw [hn] at ncell q3 ⊢
  have VC := Lib.hid vcell
  have HC := Lib.hid hcell
  have NC := Lib.hid ncell
  have HLEN := Lib.hid hlen
  have HN := Lib.hid (And.intro hn hg)
  have HV := Lib.hid hvd
  clear vcell hcell ncell hlen hn hg hvd h1 h2 h3
  go_enter Try.func76, Try.ntmps76
  go_wp2_with fail
  generalize hw0 : (w.alloc (.cells #[.slice (some ⟨vb, vo, none⟩) 8 vc, .slice (some ⟨hb, ho, none⟩) 8 hc] 25)).alloc (.cells #[.slice none 0 0, .slice none 0 0] 25) = w0 at *
  have hbw : Below w.heap.size w w0 := by rw [← hw0]; exact ba (below_alloc _ _) _
  have hsz : w0.heap.size = w.heap.size + 2 := by rw [← hw0]; simp
  have hc0 : w0.cell? ⟨w.heap.size, 0, none⟩ = some (.slice (some ⟨vb, vo, none⟩) 8 vc) := by rw [← hw0]; simp [go_sem]
  have hc1 : w0.cell? ⟨w.heap.size, 1, none⟩ = some (.slice (some ⟨hb, ho, none⟩) 8 hc) := by rw [← hw0]; simp [go_sem]
  have hR : w0.heap[w.heap.size + 1]? = some (.cells #[.slice none 0 0, .slice none 0 0] 25 (0, 0)) := by rw [← hw0]; exact heap_alloc2_new _ _ _
  have HR := Lib.hid hR
  clear hw0 hR
  refine (l2Blank_any _).mono ?_
  rintro e w2 ⟨u1, u2, rfl, hst, hb2⟩
  obtain ⟨g1, c1, rfl, _, _⟩ := own_at hst.one (by simp [reps])
  obtain ⟨g2, c2, rfl, _, _⟩ := own_at hst.two (by simp [reps])
  rw [reps_len, reps_len] at hst ⊢
  have HB2 := bt hbw hb2
  have hS := RnSt.mk' (w0 := w) (bR := w.heap.size + 1) (hst.mono (by omega)) (reps_len 0 8) (reps_len (-1) 8) (by omega) (box_keep HR.out hb2) HB2
  have hd0 := cell_keep (ba hb2 (.cells #[.slice (some ⟨g1, 0, none⟩) 8 c1, .slice (some ⟨g2, 0, none⟩) 8 c2] 25)) hc0
  have hd1 := cell_keep (ba hb2 (.cells #[.slice (some ⟨g1, 0, none⟩) 8 c1, .slice (some ⟨g2, 0, none⟩) 8 c2] 25)) hc1
  have hz2 := hb2.size
  go_wp2
  generalize w2.alloc (.cells #[.slice (some ⟨g1, 0, none⟩) 8 c1, .slice (some ⟨g2, 0, none⟩) 8 c2] 25) = w3 at *
  have HS := Lib.hid hS
  have HD := Lib.hid (And.intro hd0 hd1)
  clear hst hb2 hS hd0 hd1
  go_loopg [6] 8 (fun q i wr => ∃ k : Nat, k + q = 8 ∧ i = .int .i64 k ∧ RnSt w wr (w.heap.size + 1) w2.heap.size g1 c1 g2 c2 (renVn ns vl k (reps 0 8)) (reps (-1) 8) ∧ wr.cell? ⟨w.heap.size, 0, none⟩ = some (.slice (some ⟨vb, vo, none⟩) 8 vc) ∧ wr.cell? ⟨w.heap.size, 1, none⟩ = some (.slice (some ⟨hb, ho, none⟩) 8 hc))
  case atStart => exact ⟨0, by omega, rfl, HS.out, HD.out⟩
  case round =>
    obtain ⟨k, hk, rfl, hS, hd0, hd1⟩ := hrel
    have HK := Lib.hid hk
    have HSR := Lib.hid hS
    have hlt1 := hS.lt1
    have hlt2 := hS.lt2
    clear hk
    by_cases hk8 : k < 8
    · have hki : (k : Int) < 8 := by omega
      have hcv := cell_below hS.bel (p := ⟨vb, vo + k, none⟩) hvb (VC.out k hk8)
      have hbx := box0 hS.boxK
      obtain ⟨hck, hfk⟩ := hS.cell1 k hk8
      have hv8 := (valid_vat HV.out hk8).2
      have q3r := q3.kept (Below.chg hS.bel) (fun j hj e => by simp [Value.ownBlock] at hj; omega)
      clear hS
      go_wp2
      go_region_held3 (fun w' => (w'.cell? ⟨w2.heap.size, 0, none⟩ = some (.slice (some ⟨g1, 0, none⟩) 8 c1) ∧ w'.cell? ⟨w.heap.size, 0, none⟩ = some (.slice (some ⟨vb, vo, none⟩) 8 vc)) ∧ w'.cell? ⟨vb, vo + k, none⟩ = some (.int .i64 (gi vl k)))
        (first | exact ⟨⟨hbx, hd0⟩, hcv⟩ | (refine ⟨⟨(fr_set _ _ _).cell ?_ hbx, (fr_set _ _ _).cell ?_ hd0⟩, (fr_set _ _ _).cell ?_ hcv⟩; simp; exact fun e => HSR.out.ne1 e.symm; simp; omega; simp; omega))
        ((go_at_call 154; go_must (refine (l15Name_any _ ns _ _ (by first | exact q3r | exact q3r.keep (below_drew _)) (by rw [HN.out.1]; omega) hv8).mono ?_; rintro e w' ⟨rfl, rfl⟩)))
      all_goals
        go_wp2
        go_roundg (gk - 1)
        case rel =>
          have hX := HSR.out.set1 k (nm ns (gi vl k))
          have hF := fr_set wr ⟨g1, k, none⟩ (.int .i64 (nm ns (gi vl k)))
          refine ⟨k + 1, by have := HK.out; omega, by go_num, ?_, ?_, ?_⟩
          · rw [renVn]; exact hX.keep (below_drew _)
          · exact cell_keep (below_drew _) (hF.cell (by simp; omega) hd0)
          · exact cell_keep (below_drew _) (hF.cell (by simp; omega) hd1)
        case measure => have := HK.out; omega
    · obtain rfl : k = 8 := by have := HK.out; omega
      have hS8 : RnSt w wr (w.heap.size + 1) w2.heap.size g1 c1 g2 c2 (renV ns vl) (renHn ns hl (reps (-1) 8) 0) := by
        have := HSR.out
        have e := renVn_full (ns := ns) (vl := vl) (base := reps 0 8) (by rw [reps_len, HLEN.out.1])
        rw [HLEN.out.1] at e
        rw [e] at this
        exact this
      have HS8 := Lib.hid hS8
      have HD8 := Lib.hid hd1
      clear hS hS8 hd0 hd1
      obtain ⟨wo, rfl⟩ : ∃ wo : World, wo = wr := ⟨_, rfl⟩
      go_wp2
      go_loopg [7] 8 (fun q i wr => ∃ k : Nat, k + q = 8 ∧ i = .int .i64 k ∧ RnSt w wr (w.heap.size + 1) w2.heap.size g1 c1 g2 c2 (renV ns vl) (renHn ns hl (reps (-1) 8) k) ∧ wr.cell? ⟨w.heap.size, 1, none⟩ = some (.slice (some ⟨hb, ho, none⟩) 8 hc))
      case atStart => exact ⟨0, by omega, rfl, HS8.out, HD8.out⟩
      case round =>
        obtain ⟨j, hk, rfl, hS, hd1⟩ := hrel
        clear HK HSR HS8 HD8
        have HK := Lib.hid hk
        have HSR := Lib.hid hS
        clear hk
        by_cases hj8 : j < 8
        · have hki : (j : Int) < 8 := by omega
          have hcv := cell_below hS.bel (p := ⟨hb, ho + j, none⟩) hhb (HC.out j hj8)
          have hbx := box1 hS.boxK
          have hga := good_addr hj8 HN.out.2
          obtain ⟨m, hm⟩ : ∃ m : Nat, gi ns j = (m : Int) + 1 := ⟨(gi ns j - 1).toNat, by omega⟩
          have hm8 : m < 8 := by omega
          obtain ⟨hck, hfk⟩ := hS.cell2 m hm8
          have hnc := cell_below hS.bel (p := ⟨nb, no + j, none⟩) hnb (NC.out j hj8)
          rw [hm] at hnc
          have hv8 := (valid_hat HV.out hj8).2
          have q3r := q3.kept (Below.chg hS.bel) (fun j hj e => by simp [Value.ownBlock] at hj; omega)
          have HM := Lib.hid hm
          have hmi : (m : Int) < 8 := by omega
          have e2 : IntKind.i64.wrap ((m : Int) + 1 - 1) = (m : Int) := by rw [Int.add_sub_cancel]; exact IntWalk.i64_in _ (by omega)
          have e3 : IntKind.i64.wrap (m : Int) = (m : Int) := IntWalk.i64_in _ (by omega)
          clear hS hm hga
          go_wp2
          go_region_held3 (fun w' => ((w'.cell? ⟨w2.heap.size, 1, none⟩ = some (.slice (some ⟨g2, 0, none⟩) 8 c2) ∧ w'.cell? ⟨w.heap.size, 1, none⟩ = some (.slice (some ⟨hb, ho, none⟩) 8 hc)) ∧ w'.cell? ⟨hb, ho + j, none⟩ = some (.int .i64 (gi hl j))) ∧ w'.cell? ⟨nb, no + j, none⟩ = some (.int .i64 ((m : Int) + 1)))
            (first | exact ⟨⟨⟨hbx, hd1⟩, hcv⟩, hnc⟩ | (refine ⟨⟨⟨(fr_set _ _ _).cell ?_ hbx, (fr_set _ _ _).cell ?_ hd1⟩, (fr_set _ _ _).cell ?_ hcv⟩, (fr_set _ _ _).cell ?_ hnc⟩; simp; exact fun e => HSR.out.ne2 e.symm; simp; omega; simp; omega; simp; omega))
            ((go_at_call 154; go_must (refine (l15Name_any _ ns _ _ (by first | exact q3r | exact q3r.keep (below_drew _)) (by rw [HN.out.1]; omega) hv8).mono ?_; rintro e w' ⟨rfl, rfl⟩)))
          all_goals
            clear e2 e3
            go_wp2
            go_roundg (gk - 1)
            case rel =>
              have hX := HSR.out.set2 m (nm ns (gi hl j))
              have hF := fr_set wr ⟨g2, m, none⟩ (.int .i64 (nm ns (gi hl j)))
              refine ⟨j + 1, by have := HK.out; omega, by go_num, ?_, ?_⟩
              · rw [renHn, HM.out, show ((m : Int) + 1 - 1).toNat = m by omega]; exact hX.keep (below_drew _)
              · exact cell_keep (below_drew _) (hF.cell (by simp; omega) hd1)
            case measure => have := HK.out; omega
        · obtain rfl : j = 8 := by have := HK.out; omega
          have hb0 := box0 hS.boxK
          have hb1 := box1 hS.boxK
          have hr0 := box0 hS.boxR
          have hr1 := box1 hS.boxR
          have hrz := boxz hS.boxR 0
          have hrz1 := boxz hS.boxR 1
          clear hS
          go_wp2
          obtain ⟨hO, hB⟩ := HSR.out.done
          have r := box_two (.slice (some ⟨g1, 0, none⟩) 8 c1) (.slice (some ⟨g2, 0, none⟩) 8 c2) hr0 hr1
          refine bodyPost_ret (v := .agg #[.slice (some ⟨g1, 0, none⟩) 8 c1, .slice (some ⟨g2, 0, none⟩) 8 c2]) (by simp [results, Try.results76, go_sem, r.1, r.2]) rfl ?_
          rw [renHn_base (reps_len (-1) 8) HLEN.out.2 HN.out.2] at hO
          exact ⟨g1, c1, g2, c2, rfl, hO, hB⟩
end Go.Proofs.Ythoingdcmdhllaa
/- Walks: RenameState, and the reference's. -/
namespace Go.Proofs.Ythoingdcmdhllaa
open Go.RowKit

def renOk (vl hl ns : List Int) : Bool := validB vl hl && namesB ns
def renSV (vl hl ns : List Int) : List Int := if renOk vl hl ns = true then renV ns vl else []
def renSH (vl hl ns : List Int) : List Int := if renOk vl hl ns = true then renH ns hl else []
theorem renS_len (vl hl ns : List Int) : (renSV vl hl ns).length ≤ 8 ∧ (renSH vl hl ns).length ≤ 8 := by
  unfold renSV renSH
  split
  · rename_i h
    have hv : validB vl hl = true := by simp [renOk] at h; exact h.1
    have := valid_len hv
    rw [renV_len, renH_len]; omega
  · simp
theorem ownSt_kept {w w' : World} {B : Nat} {v1 v2 : Value} {l1 l2 : List Int} {S : Nat → Prop} (h : OwnSt w B v1 v2 l1 l2) (hf : Fr S w w') (h1 : ∀ k, some k = v1.ownBlock → ¬ S k) (h2 : ∀ k, some k = v2.ownBlock → ¬ S k) : OwnSt w' B v1 v2 l1 l2 :=
  ⟨own_kept h.one hf h1, own_kept h.two hf h2, h.apart⟩
theorem ownSt_nil (w : World) (B : Nat) : OwnSt w B (.slice none 0 0) (.slice none 0 0) [] [] := ⟨World.ownsRow_nil _ _ _ _, World.ownsRow_nil _ _ _ _, fun k hk => by simp [Value.ownBlock] at hk⟩
theorem names_len {ns : List Int} (h : namesB ns = true) : ns.length = 8 ∧ goodTo ns 8 = true := by
  simpa [namesB] using h
/-- A new state in the result's box. -/
theorem st_done {w w' : World} {bR g1 c1 g2 c2 : Nat} {l1 l2 : List Int} (hst : OwnSt w' (bR + 1) (.slice (some ⟨g1, 0, none⟩) 8 c1) (.slice (some ⟨g2, 0, none⟩) 8 c2) l1 l2) (hb : Below w.heap.size w w') (hlo : w.heap.size ≤ bR) :
    OwnSt ((w'.setCell ⟨bR, 0, none⟩ (.slice (some ⟨g1, 0, none⟩) 8 c1)).setCell ⟨bR, 1, none⟩ (.slice (some ⟨g2, 0, none⟩) 8 c2)) w.heap.size (.slice (some ⟨g1, 0, none⟩) 8 c1) (.slice (some ⟨g2, 0, none⟩) 8 c2) l1 l2 ∧
    Below w.heap.size w ((w'.setCell ⟨bR, 0, none⟩ (.slice (some ⟨g1, 0, none⟩) 8 c1)).setCell ⟨bR, 1, none⟩ (.slice (some ⟨g2, 0, none⟩) 8 c2)) :=
  ⟨((hst.kept (fr_set _ _ _) (fun j h1 _ e => by simp at e; omega)).kept (fr_set _ _ _) (fun j h1 _ e => by simp at e; omega)).mono (by omega), (hb.setCell (by simp; omega) _).setCell (by simp; omega) _⟩

set_option maxHeartbeats 1600000 in
theorem renameStateI_any (v1 v2 v3 : Value) (vl hl ns : List Int) (w : World) (h1 : RInts w v1 vl) (h2 : RInts w v2 hl) (h3 : RInts w v3 ns) :
    Calls Try.prog 16 #[.agg #[v1, v2], v3] w fun e w' => ∃ u1 u2, e = .returned (.tuple #[.agg #[u1, u2], .bool (renOk vl hl ns)]) ∧ OwnSt w' w.heap.size u1 u2 (renSV vl hl ns) (renSH vl hl ns) ∧ Below w.heap.size w w' := by
  by_cases hv : validB vl hl = true
  · by_cases hn : namesB ns = true
    · have hok : renOk vl hl ns = true := by rw [renOk, hv, hn]; rfl
      have hV : renSV vl hl ns = renV ns vl := if_pos hok
      have hH : renSH vl hl ns = renH ns hl := if_pos hok
      rw [hok, hV, hH]
      have HNL := Lib.hid (names_len hn)
      have HV := Lib.hid hv
      clear hok hV hH
      go_enter Try.func16, Try.ntmps16
      go_wp2_with (first
        | (go_at_call 20; go_must (((with_reducible refine (stateValid_any _ _ _ _ _ (by repeat (first | with_reducible assumption | exact (own_ints (by assumption)).1 | apply rints_ext | apply rints_alloc | apply rints_drew)) (by repeat (first | with_reducible assumption | exact (own_ints (by assumption)).1 | apply rints_ext | apply rints_alloc | apply rints_drew))).mono ?_); rintro e w' ⟨rfl, hb⟩; (first | obtain ⟨x, rfl⟩ := to_ext2 hb | obtain ⟨x, rfl⟩ := to_ext hb); clear hb)))
        | (go_at_call 72; go_must (((with_reducible refine (readNames_any _ _ _ (by repeat (first | with_reducible assumption | exact (own_ints (by assumption)).1 | apply rints_ext | apply rints_alloc | apply rints_drew))).mono ?_); rintro e w' ⟨tl, htl, hte, rfl, hb⟩; (first | obtain ⟨x, rfl⟩ := to_ext2 hb | obtain ⟨x, rfl⟩ := to_ext hb); clear hb; have HTL := Lib.hid (And.intro htl hte); clear htl hte)))
        | (refine wpList_store_row rfl 104 _ _ rfl _ _ rfl rfl 104 _ (heap_alloc_new _ _) (by rw [sizeTab, iarr_size, HTL.out.1]) (by rw [iarr_size, HTL.out.1]; rfl) (iarr_one _) ?_; rw [World.setRow_alloc_new])
        | (refine wpList_load_row rfl 104 _ rfl _ rfl 104 _ (0, 0) _ (heap_alloc_new _ _) Try.underlying104 rfl (by rw [sizeTab, iarr_size, HTL.out.1]) ?_))
      obtain rfl : tl = 0 :: ns := HTL.out.2 hn
      refine (renameState_any _ _ vl hl ns _ (by repeat (first | with_reducible assumption | exact (own_ints (by assumption)).1 | apply rints_ext | apply rints_alloc | apply rints_drew)) (by repeat (first | with_reducible assumption | exact (own_ints (by assumption)).1 | apply rints_ext | apply rints_alloc | apply rints_drew)) HV.out HNL.out.1 HNL.out.2).mono ?_
      rintro e w2 ⟨g1, c1, g2, c2, rfl, hst, hb⟩
      have ha0 := cell_keep hb (p := ⟨w.heap.size + 1, 0, none⟩) (v := .slice none 0 0) (by simp [go_sem])
      have ha1 := cell_keep hb (p := ⟨w.heap.size + 1, 1, none⟩) (v := .slice none 0 0) (by simp [go_sem])
      have haz : ∀ i, w2.frozen? ⟨w.heap.size + 1, i, none⟩ = false := fun i => (hb.frozen (p := ⟨w.heap.size + 1, i, none⟩) (by simp [go_sem])).trans (by simp [go_sem])
      have hle := le_ext _ x
      simp at hle
      have hst1 := hst.mono (B' := w.heap.size + 1 + 1) (by first | (simp; done) | (simp; omega))
      have hbb := bt (bt (bt (ba (below_alloc w _) _) (ext_below _ x)) (below_alloc _ _)) hb
      have HD := Lib.hid (st_done hst1 hbb (by omega))
      clear hst hst1 hb hbb hle
      go_wp2
      have r := box_two (.slice (some ⟨g1, 0, none⟩) 8 c1) (.slice (some ⟨g2, 0, none⟩) 8 c2) ha0 ha1
      refine bodyPost_ret (v := .tuple #[.agg #[.slice (some ⟨g1, 0, none⟩) 8 c1, .slice (some ⟨g2, 0, none⟩) 8 c2], .bool true]) (by simp [results, Try.results16, go_sem, r.1, r.2]) rfl ?_
      exact ⟨_, _, rfl, HD.out⟩
    · have hn' : namesB ns = false := by simpa using hn
      have hok : renOk vl hl ns = false := by rw [renOk, hn', Bool.and_false]
      rw [renSV, renSH, hok]
      clear hok hn
      go_enter Try.func16, Try.ntmps16
      go_wp2_with (first
        | (go_at_call 20; go_must (((with_reducible refine (stateValid_any _ _ _ _ _ (by repeat (first | with_reducible assumption | exact (own_ints (by assumption)).1 | apply rints_ext | apply rints_alloc | apply rints_drew)) (by repeat (first | with_reducible assumption | exact (own_ints (by assumption)).1 | apply rints_ext | apply rints_alloc | apply rints_drew))).mono ?_); rintro e w' ⟨rfl, hb⟩; (first | obtain ⟨x, rfl⟩ := to_ext2 hb | obtain ⟨x, rfl⟩ := to_ext hb); clear hb)))
        | (go_at_call 72; go_must (((with_reducible refine (readNames_any _ _ _ (by repeat (first | with_reducible assumption | exact (own_ints (by assumption)).1 | apply rints_ext | apply rints_alloc | apply rints_drew))).mono ?_); rintro e w' ⟨tl, htl, hte, rfl, hb⟩; (first | obtain ⟨x, rfl⟩ := to_ext2 hb | obtain ⟨x, rfl⟩ := to_ext hb); clear hb; have HTL := Lib.hid (And.intro htl hte); clear htl hte)))
        | (refine wpList_store_row rfl 104 _ _ rfl _ _ rfl rfl 104 _ (heap_alloc_new _ _) (by rw [sizeTab, iarr_size, HTL.out.1]) (by rw [iarr_size, HTL.out.1]; rfl) (iarr_one _) ?_; rw [World.setRow_alloc_new]))
      refine bodyPost_ret (v := .tuple #[.agg #[.slice none 0 0, .slice none 0 0], .bool false]) (by simp [results, Try.results16, go_sem]) rfl ?_
      exact ⟨_, _, rfl, ownSt_nil _ _, (by repeat (first | exact Below.refl _ _ | with_reducible assumption | exact below_alloc _ _ | (refine Below.setCell ?_ (by first | (simp; done) | (simp; omega) | omega) _) | apply bd | apply ba | apply be))⟩
  · have hv' : validB vl hl = false := by simpa using hv
    have hok : renOk vl hl ns = false := by rw [renOk, hv', Bool.false_and]
    rw [renSV, renSH, hok]
    clear hok hv
    go_enter Try.func16, Try.ntmps16
    go_wp2_with ((go_at_call 20; go_must (((with_reducible refine (stateValid_any _ _ _ _ _ (by repeat (first | with_reducible assumption | exact (own_ints (by assumption)).1 | apply rints_ext | apply rints_alloc | apply rints_drew)) (by repeat (first | with_reducible assumption | exact (own_ints (by assumption)).1 | apply rints_ext | apply rints_alloc | apply rints_drew))).mono ?_); rintro e w' ⟨rfl, hb⟩; (first | obtain ⟨x, rfl⟩ := to_ext2 hb | obtain ⟨x, rfl⟩ := to_ext hb); clear hb))))
    refine bodyPost_ret (v := .tuple #[.agg #[.slice none 0 0, .slice none 0 0], .bool false]) (by simp [results, Try.results16, go_sem]) rfl ?_
    exact ⟨_, _, rfl, ownSt_nil _ _, (by repeat (first | exact Below.refl _ _ | with_reducible assumption | exact below_alloc _ _ | (refine Below.setCell ?_ (by first | (simp; done) | (simp; omega) | omega) _) | apply bd | apply ba | apply be))⟩
set_option maxHeartbeats 1600000 in
theorem renameStateS_any (v1 v2 v3 : Value) (vl hl ns : List Int) (w : World) (h1 : RInts w v1 vl) (h2 : RInts w v2 hl) (h3 : RInts w v3 ns) :
    Calls Try.prog 17 #[.agg #[v1, v2], v3] w fun e w' => ∃ u1 u2, e = .returned (.tuple #[.agg #[u1, u2], .bool (renOk vl hl ns)]) ∧ OwnSt w' w.heap.size u1 u2 (renSV vl hl ns) (renSH vl hl ns) ∧ Below w.heap.size w w' := by
  by_cases hv : validB vl hl = true
  · by_cases hn : namesB ns = true
    · have hok : renOk vl hl ns = true := by rw [renOk, hv, hn]; rfl
      have hV : renSV vl hl ns = renV ns vl := if_pos hok
      have hH : renSH vl hl ns = renH ns hl := if_pos hok
      rw [hok, hV, hH]
      have HNL := Lib.hid (names_len hn)
      have HV := Lib.hid hv
      clear hok hV hH
      go_enter Try.func17, Try.ntmps17
      go_wp2_with (first
        | (go_at_call 74; go_must (((with_reducible refine (specStateValid_any _ _ _ _ _ (by repeat (first | with_reducible assumption | exact (own_ints (by assumption)).1 | apply rints_ext | apply rints_alloc | apply rints_drew)) (by repeat (first | with_reducible assumption | exact (own_ints (by assumption)).1 | apply rints_ext | apply rints_alloc | apply rints_drew))).mono ?_); rintro e w' ⟨rfl, hb⟩; (first | obtain ⟨x, rfl⟩ := to_ext2 hb | obtain ⟨x, rfl⟩ := to_ext hb); clear hb)))
        | (go_at_call 75; go_must (((with_reducible refine (l15Names_any _ _ _ (by repeat (first | with_reducible assumption | exact (own_ints (by assumption)).1 | apply rints_ext | apply rints_alloc | apply rints_drew))).mono ?_); rintro e w' ⟨rfl, hb⟩; (first | obtain ⟨x, rfl⟩ := to_ext2 hb | obtain ⟨x, rfl⟩ := to_ext hb); clear hb))))
      refine (l15Rename_any _ _ _ vl hl ns _ (by repeat (first | with_reducible assumption | exact (own_ints (by assumption)).1 | apply rints_ext | apply rints_alloc | apply rints_drew)) (by repeat (first | with_reducible assumption | exact (own_ints (by assumption)).1 | apply rints_ext | apply rints_alloc | apply rints_drew)) (by repeat (first | with_reducible assumption | exact (own_ints (by assumption)).1 | apply rints_ext | apply rints_alloc | apply rints_drew)) HV.out HNL.out.1 HNL.out.2).mono ?_
      rintro e w2 ⟨g1, c1, g2, c2, rfl, hst, hb⟩
      have ha0 := cell_keep hb (p := ⟨w.heap.size + 1, 0, none⟩) (v := .slice none 0 0) (by simp [go_sem])
      have ha1 := cell_keep hb (p := ⟨w.heap.size + 1, 1, none⟩) (v := .slice none 0 0) (by simp [go_sem])
      have haz : ∀ i, w2.frozen? ⟨w.heap.size + 1, i, none⟩ = false := fun i => (hb.frozen (p := ⟨w.heap.size + 1, i, none⟩) (by simp [go_sem])).trans (by simp [go_sem])
      have hle := le_ext _ x
      simp at hle
      have hst1 := hst.mono (B' := w.heap.size + 1 + 1) (by first | (simp; done) | (simp; omega) | omega)
      have hbb := bt (bt (ba (below_alloc w _) _) (ext_below _ x)) hb
      have HD := Lib.hid (st_done hst1 hbb (by omega))
      clear hst hst1 hb hbb hle
      go_wp2
      have r := box_two (.slice (some ⟨g1, 0, none⟩) 8 c1) (.slice (some ⟨g2, 0, none⟩) 8 c2) ha0 ha1
      refine bodyPost_ret (v := .tuple #[.agg #[.slice (some ⟨g1, 0, none⟩) 8 c1, .slice (some ⟨g2, 0, none⟩) 8 c2], .bool true]) (by simp [results, Try.results17, go_sem, r.1, r.2]) rfl ?_
      exact ⟨_, _, rfl, HD.out⟩
    · have hn' : namesB ns = false := by simpa using hn
      have hok : renOk vl hl ns = false := by rw [renOk, hn', Bool.and_false]
      rw [renSV, renSH, hok]
      clear hok hn
      go_enter Try.func17, Try.ntmps17
      go_wp2_with (first
        | (go_at_call 74; go_must (((with_reducible refine (specStateValid_any _ _ _ _ _ (by repeat (first | with_reducible assumption | exact (own_ints (by assumption)).1 | apply rints_ext | apply rints_alloc | apply rints_drew)) (by repeat (first | with_reducible assumption | exact (own_ints (by assumption)).1 | apply rints_ext | apply rints_alloc | apply rints_drew))).mono ?_); rintro e w' ⟨rfl, hb⟩; (first | obtain ⟨x, rfl⟩ := to_ext2 hb | obtain ⟨x, rfl⟩ := to_ext hb); clear hb)))
        | (go_at_call 75; go_must (((with_reducible refine (l15Names_any _ _ _ (by repeat (first | with_reducible assumption | exact (own_ints (by assumption)).1 | apply rints_ext | apply rints_alloc | apply rints_drew))).mono ?_); rintro e w' ⟨rfl, hb⟩; (first | obtain ⟨x, rfl⟩ := to_ext2 hb | obtain ⟨x, rfl⟩ := to_ext hb); clear hb))))
      refine bodyPost_ret (v := .tuple #[.agg #[.slice none 0 0, .slice none 0 0], .bool false]) (by simp [results, Try.results17, go_sem]) rfl ?_
      exact ⟨_, _, rfl, ownSt_nil _ _, (by repeat (first | exact Below.refl _ _ | with_reducible assumption | exact below_alloc _ _ | (refine Below.setCell ?_ (by first | (simp; done) | (simp; omega) | omega) _) | apply bd | apply ba | apply be))⟩
  · have hv' : validB vl hl = false := by simpa using hv
    have hok : renOk vl hl ns = false := by rw [renOk, hv', Bool.false_and]
    rw [renSV, renSH, hok]
    clear hok hv
    go_enter Try.func17, Try.ntmps17
    go_wp2_with ((go_at_call 74; go_must (((with_reducible refine (specStateValid_any _ _ _ _ _ (by repeat (first | with_reducible assumption | exact (own_ints (by assumption)).1 | apply rints_ext | apply rints_alloc | apply rints_drew)) (by repeat (first | with_reducible assumption | exact (own_ints (by assumption)).1 | apply rints_ext | apply rints_alloc | apply rints_drew))).mono ?_); rintro e w' ⟨rfl, hb⟩; (first | obtain ⟨x, rfl⟩ := to_ext2 hb | obtain ⟨x, rfl⟩ := to_ext hb); clear hb))))
    refine bodyPost_ret (v := .tuple #[.agg #[.slice none 0 0, .slice none 0 0], .bool false]) (by simp [results, Try.results17, go_sem]) rfl ?_
    exact ⟨_, _, rfl, ownSt_nil _ _, (by repeat (first | exact Below.refl _ _ | with_reducible assumption | exact below_alloc _ _ | (refine Below.setCell ?_ (by first | (simp; done) | (simp; omega) | omega) _) | apply bd | apply ba | apply be))⟩
end Go.Proofs.Ythoingdcmdhllaa
