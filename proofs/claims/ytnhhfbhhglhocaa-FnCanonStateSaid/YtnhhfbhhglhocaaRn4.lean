/- Walks: renameState, and the reference's. -/
import Derived.Test.YtnhhfbhhglhocaaRn3
namespace Go.Proofs.Ytnhhfbhhglhocaa
open Go.RowKit

theorem box_fr {w w' : World} {S : Nat → Prop} {b : Nat} {o : Obj} (h : w.heap[b]? = some o) (hf : Fr S w w') (hn : ¬ S b) : w'.heap[b]? = some o := (hf.block _ (box_lt h) hn).trans h
set_option maxHeartbeats 1600000 in
theorem renameState_any (v1 v2 : Value) (vl hl ns : List Int) (w : World) (h1 : RInts w v1 vl) (h2 : RInts w v2 hl) (hvd : validB vl hl = true) (hn : ns.length = 8) (hg : goodTo ns 8 = true) :
    Calls Try.prog 68 #[.agg #[v1, v2], .agg (iarr (0 :: ns))] w fun e w' => ∃ g1 c1 g2 c2, e = .returned (.agg #[.slice (some ⟨g1, 0, none⟩) 8 c1, .slice (some ⟨g2, 0, none⟩) 8 c2]) ∧ OwnSt w' w.heap.size (.slice (some ⟨g1, 0, none⟩) 8 c1) (.slice (some ⟨g2, 0, none⟩) 8 c2) (renV ns vl) (renH ns hl) ∧ Below w.heap.size w w' := by
  have hlen := valid_len hvd
  have q1 := h1
  have q2 := h2
  obtain ⟨vb, vo, vc, rfl, _, _, vcell⟩ := h1.ne (by omega)
  obtain ⟨hb, ho, hc, rfl, _, _, hcell⟩ := h2.ne (by omega)
  have hvb := World.block_lt_of_cell? w _ (vcell 0 (by omega))
  have hhb := World.block_lt_of_cell? w _ (hcell 0 (by omega))
  rw [hlen.1] at vcell q1 ⊢
  rw [hlen.2] at hcell q2 ⊢
  have VC := Lib.hid vcell
  have HC := Lib.hid hcell
  have HLEN := Lib.hid hlen
  have HN := Lib.hid (And.intro hn hg)
  have HV := Lib.hid hvd
  have l1 : vl.length ≤ 1048576 := by omega
  have l2 : hl.length ≤ 1048576 := by omega
  have l3 : 0 < vl.length ∧ 0 < hl.length := by omega
  clear vcell hcell hlen hn hg hvd h1 h2
  go_enter Try.func68, Try.ntmps68
  go_wp2_with fail
  generalize hw0 : ((w.alloc (.cells #[.slice (some ⟨vb, vo, none⟩) 8 vc, .slice (some ⟨hb, ho, none⟩) 8 hc] 34)).alloc (.cells (iarr (0 :: ns)) 88)).alloc (.cells #[.slice none 0 0, .slice none 0 0] 34) = w0 at *
  have hbw : Below w.heap.size w w0 := by rw [← hw0]; exact ba (ba (below_alloc _ _) _) _
  have hsz : w0.heap.size = w.heap.size + 3 := by rw [← hw0]; simp
  have hc0 : w0.cell? ⟨w.heap.size, 0, none⟩ = some (.slice (some ⟨vb, vo, none⟩) 8 vc) := by rw [← hw0]; simp [go_sem]
  have hc1 : w0.cell? ⟨w.heap.size, 1, none⟩ = some (.slice (some ⟨hb, ho, none⟩) 8 hc) := by rw [← hw0]; simp [go_sem]
  have hT : w0.heap[w.heap.size + 1]? = some (.cells (iarr (0 :: ns)) 88 (0, 0)) := by rw [← hw0]; exact box_keep (heap_alloc2_new _ _ _) (below_alloc _ _)
  have hR : w0.heap[w.heap.size + 2]? = some (.cells #[.slice none 0 0, .slice none 0 0] 34 (0, 0)) := by
    rw [← hw0]; have := heap_alloc_new ((w.alloc (.cells #[.slice (some ⟨vb, vo, none⟩) 8 vc, .slice (some ⟨hb, ho, none⟩) 8 hc] 34)).alloc (.cells (iarr (0 :: ns)) 88)) (.cells #[.slice none 0 0, .slice none 0 0] 34); simpa using this
  have HT := Lib.hid hT
  have HR := Lib.hid hR
  clear hw0 hT hR
  refine (copyState_any _ _ vl hl _ (q1.keep hbw) (q2.keep hbw) l1 l2).mono ?_
  rintro e w2 ⟨u1, u2, rfl, hst, hb2⟩
  obtain ⟨g1, c1, rfl, _, _⟩ := own_at hst.one l3.1
  obtain ⟨g2, c2, rfl, _, _⟩ := own_at hst.two l3.2
  rw [HLEN.out.1, HLEN.out.2] at hst ⊢
  have HB2 := bt hbw hb2
  have hS := RnSt.mk' (w0 := w) (bR := w.heap.size + 2) (hst.mono (by omega)) HLEN.out.1 HLEN.out.2 (by omega) (box_keep HR.out hb2) HB2
  have hd0 := cell_keep (ba hb2 (.cells #[.slice (some ⟨g1, 0, none⟩) 8 c1, .slice (some ⟨g2, 0, none⟩) 8 c2] 34)) hc0
  have hd1 := cell_keep (ba hb2 (.cells #[.slice (some ⟨g1, 0, none⟩) 8 c1, .slice (some ⟨g2, 0, none⟩) 8 c2] 34)) hc1
  have hdT := box_keep HT.out (ba hb2 (.cells #[.slice (some ⟨g1, 0, none⟩) 8 c1, .slice (some ⟨g2, 0, none⟩) 8 c2] 34))
  have hz2 := hb2.size
  go_wp2
  generalize w2.alloc (.cells #[.slice (some ⟨g1, 0, none⟩) 8 c1, .slice (some ⟨g2, 0, none⟩) 8 c2] 34) = w3 at *
  have HS := Lib.hid hS
  have HD := Lib.hid (And.intro hd0 (And.intro hd1 hdT))
  clear hst hb2 hS hd0 hd1 hdT
  go_loopg [15] 8 (fun q i wr => ∃ k : Nat, k + q = 8 ∧ i = .int .i64 k ∧ RnSt w wr (w.heap.size + 2) w2.heap.size g1 c1 g2 c2 (renVn ns vl k vl) hl ∧ wr.cell? ⟨w.heap.size, 0, none⟩ = some (.slice (some ⟨vb, vo, none⟩) 8 vc) ∧ wr.cell? ⟨w.heap.size, 1, none⟩ = some (.slice (some ⟨hb, ho, none⟩) 8 hc) ∧ wr.heap[w.heap.size + 1]? = some (.cells (iarr (0 :: ns)) 88 (0, 0)))
  case atStart => exact ⟨0, by omega, rfl, HS.out, HD.out⟩
  case round =>
    obtain ⟨k, hk, rfl, hS, hd0, hd1, hdT⟩ := hrel
    have HK := Lib.hid hk
    have HT' := Lib.hid hdT
    have HSR := Lib.hid hS
    have hlt1 := hS.lt1
    have hlt2 := hS.lt2
    clear hk hdT
    by_cases hk8 : k < 8
    · have hki : (k : Int) < 8 := by omega
      have hcv := cell_below hS.bel (p := ⟨vb, vo + k, none⟩) hvb (VC.out k hk8)
      have hbx := box0 hS.boxK
      obtain ⟨hck, hfk⟩ := hS.cell1 k hk8
      have hTC : ∀ i, i < 9 → wr.cell? ⟨w.heap.size + 1, i, none⟩ = some (.int .i64 (gi (0 :: ns) i)) := fun i hi => iarr_at HT'.out i (by have := HN.out.1; simp; omega)
      have HTC := Lib.hid hTC
      clear hS hTC
      go_wp2
      go_region_held3 (fun w' => w'.cell? ⟨w2.heap.size, 0, none⟩ = some (.slice (some ⟨g1, 0, none⟩) 8 c1))
        (first | exact hbx | (refine (fr_set _ _ _).cell ?_ hbx; simp; exact fun e => HSR.out.ne1 e.symm))
        ((go_at_call 128; go_must (refine (rename_any (w.heap.size + 1) (0 :: ns) _ _ (by intro i hi; exact HTC.out i hi)).mono ?_; rintro e w' ⟨rfl, rfl⟩)))
      all_goals
        go_wp2
        go_roundg (gk - 1)
        case rel =>
          have hX := HSR.out.set1 k (nmT (0 :: ns) (gi vl k))
          have hF := fr_set wr ⟨g1, k, none⟩ (.int .i64 (nmT (0 :: ns) (gi vl k)))
          refine ⟨k + 1, by have := HK.out; omega, by go_num, ?_, ?_, ?_, ?_⟩
          · rw [renVn, ← nmT_cons]; exact hX.keep (below_drew _)
          · exact cell_keep (below_drew _) (hF.cell (by simp; omega) hd0)
          · exact cell_keep (below_drew _) (hF.cell (by simp; omega) hd1)
          · exact box_keep (box_fr HT'.out hF (by simp; omega)) (below_drew _)
        case measure => have := HK.out; omega
    · obtain rfl : k = 8 := by have := HK.out; omega
      have hS8 : RnSt w wr (w.heap.size + 2) w2.heap.size g1 c1 g2 c2 (renV ns vl) (renHn ns hl hl 0) := by
        have := HSR.out
        have e := renVn_full (ns := ns) (vl := vl) (base := vl) rfl
        rw [HLEN.out.1] at e
        rw [e] at this
        exact this
      have HS8 := Lib.hid hS8
      clear hS hS8
      obtain ⟨wo, rfl⟩ : ∃ wo : World, wo = wr := ⟨_, rfl⟩
      go_wp2
      go_loopg [30] 8 (fun q i wr => ∃ k : Nat, k + q = 8 ∧ i = .int .i64 k ∧ RnSt w wr (w.heap.size + 2) w2.heap.size g1 c1 g2 c2 (renV ns vl) (renHn ns hl hl k) ∧ wr.heap[w.heap.size + 1]? = some (.cells (iarr (0 :: ns)) 88 (0, 0)))
      case atStart => exact ⟨0, by omega, rfl, HS8.out, HT'.out⟩
      case round =>
        obtain ⟨j, hk, rfl, hS, hdT⟩ := hrel
        clear HK HSR HT'
        have HK := Lib.hid hk
        have HT' := Lib.hid hdT
        have HSR := Lib.hid hS
        clear hk hdT hd0 hd1
        by_cases hj8 : j < 8
        · have hki : (j : Int) < 8 := by omega
          have hcv := cell_below hS.bel (p := ⟨hb, ho + j, none⟩) hhb (HC.out j hj8)
          have hbx := box1 hS.boxK
          have hga := good_addr hj8 HN.out.2
          obtain ⟨m, hm⟩ : ∃ m : Nat, gi ns j = (m : Int) + 1 := ⟨(gi ns j - 1).toNat, by omega⟩
          have hm8 : m < 8 := by omega
          obtain ⟨hck, hfk⟩ := hS.cell2 m hm8
          have hTC : ∀ i, i < 9 → wr.cell? ⟨w.heap.size + 1, i, none⟩ = some (.int .i64 (gi (0 :: ns) i)) := fun i hi => iarr_at HT'.out i (by have := HN.out.1; simp; omega)
          have HTC := Lib.hid hTC
          have htc : wr.cell? ⟨w.heap.size + 1, j + 1, none⟩ = some (.int .i64 ((m : Int) + 1)) := by
            rw [hTC (j + 1) (by omega), ← hm]; simp [gi]
          have HM := Lib.hid hm
          have hmi : (m : Int) < 8 := by omega
          have e1 : IntKind.i64.wrap ((j : Int) + 1) = (j : Int) + 1 := IntWalk.i64_in _ (by omega)
          have e2 : IntKind.i64.wrap ((m : Int) + 1 - 1) = (m : Int) := by rw [Int.add_sub_cancel]; exact IntWalk.i64_in _ (by omega)
          have e3 : IntKind.i64.wrap (m : Int) = (m : Int) := IntWalk.i64_in _ (by omega)
          have e4 : ((j : Int) + 1).toNat = j + 1 := by omega
          have e5 : (j : Int) + 1 < 9 := by omega
          have e6 : (0 : Int) ≤ (j : Int) + 1 := by omega
          clear hS hTC hm hga
          go_wp2
          go_region_held3 (fun w' => w'.cell? ⟨w2.heap.size, 1, none⟩ = some (.slice (some ⟨g2, 0, none⟩) 8 c2) ∧ w'.cell? ⟨w.heap.size + 1, j + 1, none⟩ = some (.int .i64 ((m : Int) + 1)))
            (first | exact ⟨hbx, htc⟩ | (refine ⟨(fr_set _ _ _).cell ?_ hbx, (fr_set _ _ _).cell ?_ htc⟩; simp; exact fun e => HSR.out.ne2 e.symm; simp; omega))
            ((go_at_call 128; go_must (refine (rename_any (w.heap.size + 1) (0 :: ns) _ _ (by intro i hi; exact HTC.out i hi)).mono ?_; rintro e w' ⟨rfl, rfl⟩)))
          all_goals
            clear e1 e2 e3 e4 e5 e6
            go_wp2
            go_roundg (gk - 1)
            case rel =>
              have hX := HSR.out.set2 m (nmT (0 :: ns) (gi hl j))
              have hF := fr_set wr ⟨g2, m, none⟩ (.int .i64 (nmT (0 :: ns) (gi hl j)))
              refine ⟨j + 1, by have := HK.out; omega, by go_num, ?_, ?_⟩
              · rw [renHn, ← nmT_cons, HM.out, show ((m : Int) + 1 - 1).toNat = m by omega]; exact hX.keep (below_drew _)
              · exact box_keep (box_fr HT'.out hF (by simp; omega)) (below_drew _)
            case measure => have := HK.out; omega
        · obtain rfl : j = 8 := by have := HK.out; omega
          have hb0 := box0 hS.boxK
          have hb1 := box1 hS.boxK
          have hr0 := box0 hS.boxR
          have hr1 := box1 hS.boxR
          have hrz := boxz hS.boxR 0
          have hrz1 := boxz hS.boxR 1
          clear hS
          go_wp2
          obtain ⟨hO, hB⟩ := HSR.out.done
          have r := box_two (.slice (some ⟨g1, 0, none⟩) 8 c1) (.slice (some ⟨g2, 0, none⟩) 8 c2) hr0 hr1
          refine bodyPost_ret (v := .agg #[.slice (some ⟨g1, 0, none⟩) 8 c1, .slice (some ⟨g2, 0, none⟩) 8 c2]) (by simp [results, Try.results68, go_sem, r.1, r.2]) rfl ?_
          exact ⟨g1, c1, g2, c2, rfl, hO, hB⟩
end Go.Proofs.Ytnhhfbhhglhocaa
