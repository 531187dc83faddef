/- Walks: the proof of a case: the program. -/
import Derived.Test.YthoingdcmdhllaaPrv2
import Derived.Test.YthoingdcmdhllaaCase14
namespace Go.Proofs.Ythoingdcmdhllaa
open Go.RowKit

set_option maxHeartbeats 1600000 in
theorem listC_any (cl : List Int) (w : World) (hc : cl.length = 9) :
    Calls Try.prog 125 #[.agg (iarr cl)] w fun e w' => ∃ v, e = .returned v ∧ w'.ownsRow w.heap.size 3 1 v cl.length (ints cl) ∧ Below w.heap.size w w' := by
  have hrow := heap_alloc_new w (.cells (iarr cl) 124)
  have hA := rarr_row' hrow hc
  have hI : RInts (w.alloc (.cells (iarr cl) 124)) (.slice (some ⟨w.heap.size, 0, none⟩) 9 9) cl := by
    refine .inr ⟨w.heap.size, 0, 9, by rw [hc], by omega, by unfold maxLen; omega, fun i hi => ?_⟩
    rw [Nat.zero_add]
    exact hA.2.2 i (by omega)
  have HI := Lib.hid hI
  have HC := Lib.hid hc
  clear hI hA hrow hc
  go_enter Try.func125, Try.ntmps125
  go_wp2_with fail
  refine (copyInts_any _ cl _ HI.out (by have := HC.out; omega)).mono ?_
  rintro e w1 ⟨rfl, hown, hb⟩
  simp only [World.size_alloc] at hown
  go_wp2
  go_returns
  exact ⟨_, rfl, own_mono hown (by omega), bt (below_alloc _ _) hb⟩
set_option maxRecDepth 100000 in
set_option maxHeartbeats 6400000 in
theorem proveCaseI_any {S1 S2 S3 S4 : Nat → Prop} (v1 v2 u1 u2 cv : Value) (a b : Asn) (cl : List Int) (w : World) (h1 : RL w S1 v1 a.1) (h2 : RL w S2 v2 a.2) (k1 : RL w S3 u1 b.1) (k2 : RL w S4 u2 b.2) (j1 : RInts w cv cl) :
    Calls Try.prog 50 #[.agg #[v1, v2], .agg #[u1, u2], cv] w fun e w' => ∃ y1 y2, e = .returned (.tuple #[.agg #[y1, y2], .bool (provC a b cl).isSome]) ∧ OA w' w.heap.size y1 y2 (proveR a b cl) ∧ Below w.heap.size w w' := by
  obtain ⟨xa1, xc1, rfl⟩ := h1.form
  obtain ⟨xa2, xc2, rfl⟩ := h2.form
  obtain ⟨ya1, yc1, rfl⟩ := k1.form
  obtain ⟨ya2, yc2, rfl⟩ := k2.form
  obtain ⟨za1, zc1, rfl⟩ := j1.form
  obtain ⟨W, hWe⟩ : ∃ W, W = ((w.alloc (.cells #[.slice xa1 a.1.length xc1, .slice xa2 a.2.length xc2] 34)).alloc (.cells #[.slice ya1 b.1.length yc1, .slice ya2 b.2.length yc2] 34)).alloc (.cells #[.slice none 0 0, .slice none 0 0] 73) := ⟨_, rfl⟩
  have hW : Below w.heap.size w W := by rw [hWe]; exact (by repeat (first | exact Below.refl _ _ | with_reducible assumption | exact below_alloc _ _ | (refine Below.setCell ?_ (by first | (simp; done) | (simp; omega) | omega) _) | apply bd | apply ba | apply be))
  have hc0 : W.cell? ⟨w.heap.size, 0, none⟩ = some (.slice xa1 a.1.length xc1) := by rw [hWe]; simp [go_sem]
  have hc1 : W.cell? ⟨w.heap.size, 1, none⟩ = some (.slice xa2 a.2.length xc2) := by rw [hWe]; simp [go_sem]
  have hd0 : W.cell? ⟨w.heap.size + 1, 0, none⟩ = some (.slice ya1 b.1.length yc1) := by rw [hWe]; simp [go_sem]
  have hd1 : W.cell? ⟨w.heap.size + 1, 1, none⟩ = some (.slice ya2 b.2.length yc2) := by rw [hWe]; simp [go_sem]
  have hR : W.heap[w.heap.size + 1 + 1]? = some (.cells #[.slice none 0 0, .slice none 0 0] 73 (0, 0)) := by
    rw [hWe]
    have := heap_alloc_new ((w.alloc (.cells #[.slice xa1 a.1.length xc1, .slice xa2 a.2.length xc2] 34)).alloc (.cells #[.slice ya1 b.1.length yc1, .slice ya2 b.2.length yc2] 34)) (.cells #[.slice none 0 0, .slice none 0 0] 73)
    simpa only [World.size_alloc] using this
  have HWE := Lib.hid hWe
  have HX := Lib.hid (And.intro (And.intro hc0 hc1) (And.intro (And.intro hd0 hd1) (And.intro hR hW)))
  clear hWe hc0 hc1 hd0 hd1 hR hW
  have NIL : ∀ (w' : World), provC a b cl = none → Below w.heap.size w w' → ∃ y1 y2, (Ending.returned (.tuple #[.agg #[.slice none 0 0, .slice none 0 0], .bool false])) = .returned (.tuple #[.agg #[y1, y2], .bool (provC a b cl).isSome]) ∧ OA w' w.heap.size y1 y2 (proveR a b cl) ∧ Below w.heap.size w w' := by
    intro w' hn hb
    have hr : proveR a b cl = ([], []) := by rw [proveR, hn]
    rw [hn, hr]
    exact ⟨_, _, rfl, ⟨[], [], OL.nil _ _, OL.nil _ _, List.nodup_nil⟩, hb⟩
  have HN := Lib.hid NIL
  clear NIL
  cases ha : asnB a with
  | false =>
    have HV := Lib.hid ha
    have HP := Lib.hid (show provC a b cl = none by rw [provC, if_neg (by rw [ha]; simp)])
    clear ha
    go_enter Try.func50, Try.ntmps50
    go_upto_region 1 with fail
    rw [← HWE.out]
    obtain ⟨⟨hc0, hc1⟩, ⟨hd0, hd1⟩, hR, hW⟩ := HX.out
    go_wp2_with fail
    refine (cb (asnValidI_any _ _ a _ (h1.keep hW) (h2.keep hW)) HV.out).mono ?_
    rintro e w1 ⟨rfl, hb⟩
    have hR1 := box_keep hR hb
    have r0 := box0 hR1
    have r1 := box1 hR1
    have rz0 := boxz hR1 0
    have rz1 := boxz hR1 1
    have hzz := box_lt hR1
    have HB := Lib.hid (bt hW hb)
    clear hb hR hW hc0 hc1 hd0 hd1
    go_wp2
    refine bodyPost_ret (v := .tuple #[.agg #[.slice none 0 0, .slice none 0 0], .bool false]) (by simp [results, Try.results50, go_sem, r0, r1]) rfl ?_
    exact HN.out _ HP.out (HB.out.trans (by repeat (first | exact Below.refl _ _ | with_reducible assumption | exact below_alloc _ _ | (refine Below.setCell ?_ (by first | (simp; done) | (simp; omega) | omega) _) | apply bd | apply ba | apply be)))
  | true =>
    cases hb0 : asnB b with
    | false =>
      have HV := Lib.hid (And.intro ha hb0)
      have HP := Lib.hid (show provC a b cl = none by rw [provC, if_neg (by rw [hb0]; simp)])
      clear ha hb0
      go_enter Try.func50, Try.ntmps50
      go_upto_region 1 with fail
      rw [← HWE.out]
      obtain ⟨⟨hc0, hc1⟩, ⟨hd0, hd1⟩, hR, hW⟩ := HX.out
      go_wp2_with fail
      refine (cb (asnValidI_any _ _ a _ (h1.keep hW) (h2.keep hW)) HV.out.1).mono ?_
      rintro e w1 ⟨rfl, hb⟩
      replace hR := box_keep hR hb
      replace hc0 := cell_keep hb hc0; replace hc1 := cell_keep hb hc1; replace hd0 := cell_keep hb hd0; replace hd1 := cell_keep hb hd1; replace hW := bt hW hb; clear hb
      go_wp2_with fail
      refine (cb (asnValidI_any _ _ b _ (k1.keep hW) (k2.keep hW)) HV.out.2).mono ?_
      rintro e w1 ⟨rfl, hb⟩
      have hR1 := box_keep hR hb
      have r0 := box0 hR1
      have r1 := box1 hR1
      have rz0 := boxz hR1 0
      have rz1 := boxz hR1 1
      have hzz := box_lt hR1
      have HB := Lib.hid (bt hW hb)
      clear hb hR hW hc0 hc1 hd0 hd1
      go_wp2
      refine bodyPost_ret (v := .tuple #[.agg #[.slice none 0 0, .slice none 0 0], .bool false]) (by simp [results, Try.results50, go_sem, r0, r1]) rfl ?_
      exact HN.out _ HP.out (HB.out.trans (by repeat (first | exact Below.refl _ _ | with_reducible assumption | exact below_alloc _ _ | (refine Below.setCell ?_ (by first | (simp; done) | (simp; omega) | omega) _) | apply bd | apply ba | apply be)))
    | true =>
      obtain ⟨rb, hrb⟩ : ∃ r, readC (termsM b) a cl = r := ⟨_, rfl⟩
      obtain ⟨rm, hrm⟩ : ∃ r, matchC a b cl = r := ⟨_, rfl⟩
      have hpv : provC a b cl = if rb = true then rm else none := by
        rw [provC, ha, hb0, hrb, hrm]; simp
      have HPV := Lib.hid hpv
      have HV := Lib.hid (And.intro ha hb0)
      have HRB := Lib.hid hrb
      have HRM := Lib.hid hrm
      have htm := termsM_lt b
      clear ha hb0 hrb hrm hpv
      go_enter Try.func50, Try.ntmps50
      go_upto_region 1 with fail
      rw [← HWE.out]
      obtain ⟨⟨hc0, hc1⟩, ⟨hd0, hd1⟩, hR, hW⟩ := HX.out
      go_wp2_with fail
      refine (cb (asnValidI_any _ _ a _ (h1.keep hW) (h2.keep hW)) HV.out.1).mono ?_
      rintro e w1 ⟨rfl, hb⟩
      replace hR := box_keep hR hb
      replace hc0 := cell_keep hb hc0; replace hc1 := cell_keep hb hc1; replace hd0 := cell_keep hb hd0; replace hd1 := cell_keep hb hd1; replace hW := bt hW hb; clear hb
      go_wp2_with fail
      refine (cb (asnValidI_any _ _ b _ (k1.keep hW) (k2.keep hW)) HV.out.2).mono ?_
      rintro e w1 ⟨rfl, hb⟩
      replace hR := box_keep hR hb
      replace hc0 := cell_keep hb hc0; replace hc1 := cell_keep hb hc1; replace hd0 := cell_keep hb hd0; replace hd1 := cell_keep hb hd1; replace hW := bt hW hb; clear hb
      go_upto_region 3 with fail
      have HW1 := Lib.hid (And.intro (And.intro hc0 hc1) (And.intro (And.intro hd0 hd1) (And.intro hR hW)))
      go_cut [8, 9] from 20 (fun pp ok wc => ∃ (g : Nat) (x0 x1 x2 x3 x4 x5 x6 x7 x8 : Int), pp = .pointer (some ⟨g, 0, none⟩) ∧ ok = .bool rb ∧ RArr wc g [x0, x1, x2, x3, x4, x5, x6, x7, x8] ∧ (rb = true → [x0, x1, x2, x3, x4, x5, x6, x7, x8] = cl) ∧ Below w1.heap.size w1 wc)
      case first =>
        have l0 : w.heap.size < w1.heap.size := World.block_lt_of_cell? w1 _ hc0
        have l1 : w.heap.size + 1 < w1.heap.size := World.block_lt_of_cell? w1 _ hd0
        have m0 : ¬ w.heap.size = w1.heap.size := Nat.ne_of_lt l0
        have m1 : ¬ w.heap.size + 1 = w1.heap.size := Nat.ne_of_lt l1
        have hu9 := Try.underlying124
        go_region_held3 (fun w' => (w'.cell? ⟨w.heap.size, 0, none⟩ = some (.slice xa1 a.1.length xc1) ∧ w'.cell? ⟨w.heap.size, 1, none⟩ = some (.slice xa2 a.2.length xc2)) ∧ (w'.cell? ⟨w.heap.size + 1, 0, none⟩ = some (.slice ya1 b.1.length yc1) ∧ w'.cell? ⟨w.heap.size + 1, 1, none⟩ = some (.slice ya2 b.2.length yc2)))
          (first | exact ⟨⟨cell_setCells (Nat.ne_of_lt (by show w.heap.size < _; omega)) (cell_keep (by repeat (first | exact Below.refl _ _ | with_reducible assumption | exact below_alloc _ _ | (refine Below.setCell ?_ (by first | (simp; done) | (simp; omega) | omega) _) | apply bd | apply ba | apply be)) f0), cell_setCells (Nat.ne_of_lt (by show w.heap.size < _; omega)) (cell_keep (by repeat (first | exact Below.refl _ _ | with_reducible assumption | exact below_alloc _ _ | (refine Below.setCell ?_ (by first | (simp; done) | (simp; omega) | omega) _) | apply bd | apply ba | apply be)) f1)⟩, ⟨cell_setCells (Nat.ne_of_lt (by show w.heap.size + 1 < _; omega)) (cell_keep (by repeat (first | exact Below.refl _ _ | with_reducible assumption | exact below_alloc _ _ | (refine Below.setCell ?_ (by first | (simp; done) | (simp; omega) | omega) _) | apply bd | apply ba | apply be)) f2), cell_setCells (Nat.ne_of_lt (by show w.heap.size + 1 < _; omega)) (cell_keep (by repeat (first | exact Below.refl _ _ | with_reducible assumption | exact below_alloc _ _ | (refine Below.setCell ?_ (by first | (simp; done) | (simp; omega) | omega) _) | apply bd | apply ba | apply be)) f3)⟩⟩ | exact ⟨⟨cell_keep (by repeat (first | exact Below.refl _ _ | with_reducible assumption | exact below_alloc _ _ | (refine Below.setCell ?_ (by first | (simp; done) | (simp; omega) | omega) _) | apply bd | apply ba | apply be)) hc0, cell_keep (by repeat (first | exact Below.refl _ _ | with_reducible assumption | exact below_alloc _ _ | (refine Below.setCell ?_ (by first | (simp; done) | (simp; omega) | omega) _) | apply bd | apply ba | apply be)) hc1⟩, ⟨cell_keep (by repeat (first | exact Below.refl _ _ | with_reducible assumption | exact below_alloc _ _ | (refine Below.setCell ?_ (by first | (simp; done) | (simp; omega) | omega) _) | apply bd | apply ba | apply be)) hd0, cell_keep (by repeat (first | exact Below.refl _ _ | with_reducible assumption | exact below_alloc _ _ | (refine Below.setCell ?_ (by first | (simp; done) | (simp; omega) | omega) _) | apply bd | apply ba | apply be)) hd1⟩⟩)
          (first
            | (go_at_call 123; (with_reducible refine (termsIn_any _ _ b _ (k1.keep (bt hW (by repeat (first | exact Below.refl _ _ | with_reducible assumption | exact below_alloc _ _ | (refine Below.setCell ?_ (by first | (simp; done) | (simp; omega) | omega) _) | apply bd | apply ba | apply be)))) (k2.keep (bt hW (by repeat (first | exact Below.refl _ _ | with_reducible assumption | exact below_alloc _ _ | (refine Below.setCell ?_ (by first | (simp; done) | (simp; omega) | omega) _) | apply bd | apply ba | apply be))))).mono ?_); rintro e w2 ⟨rfl, hb2'⟩; have hb2 : Below w1.heap.size w1 w2 := bt (by repeat (first | exact Below.refl _ _ | with_reducible assumption | exact below_alloc _ _ | (refine Below.setCell ?_ (by first | (simp; done) | (simp; omega) | omega) _) | apply bd | apply ba | apply be)) hb2'; have hsz2 := hb2.size; (try have hz2 := zero9 (new9 _ _) hb2'); (try have hz2 := zero9 (new9' _ _) hb2'); (try have hz2 := zero9 (heap_alloc_new _ _) hb2'))
            | (go_at_call 122; (with_reducible refine (readCase9_any _ _ _ a _ cl rb _ (h1.keep (bt hW (by repeat (first | exact Below.refl _ _ | with_reducible assumption | exact below_alloc _ _ | (refine Below.setCell ?_ (by first | (simp; done) | (simp; omega) | omega) _) | apply bd | apply ba | apply be)))) (h2.keep (bt hW (by repeat (first | exact Below.refl _ _ | with_reducible assumption | exact below_alloc _ _ | (refine Below.setCell ?_ (by first | (simp; done) | (simp; omega) | omega) _) | apply bd | apply ba | apply be)))) (j1.keep (bt hW (by repeat (first | exact Below.refl _ _ | with_reducible assumption | exact below_alloc _ _ | (refine Below.setCell ?_ (by first | (simp; done) | (simp; omega) | omega) _) | apply bd | apply ba | apply be)))) HV.out.1 htm HRB.out).mono ?_); rintro e w3 ⟨x0, x1, x2, x3, x4, x5, x6, x7, x8, hx, rfl, hb3'⟩; have hb3 : Below w1.heap.size w1 w3 := bt (bt hb2 (by repeat (first | exact Below.refl _ _ | with_reducible assumption | exact below_alloc _ _ | (refine Below.setCell ?_ (by first | (simp; done) | (simp; omega) | omega) _) | apply bd | apply ba | apply be))) hb3'; have hsz3 := hb3.size; (try have ht3 := there9 (And.intro (fun i (hi : i < 9) => cell_keep hb3' (hz2.1 i hi)) (fun i => (hb3'.frozen (p := ⟨w1.heap.size, i, none⟩) (World.block_lt_of_cell? w2 ⟨w1.heap.size, 0, none⟩ (hz2.1 0 (by decide)))).trans (hz2.2 i)))); (try have ht3 := there9 (zero9 (new9 _ _) hb3')); (try have ht3 := there9 (zero9 (new9' _ _) hb3')); (try have ht3 := there9 (zero9 (heap_alloc_new _ _) hb3')); have htc := there9n w3; have hs9 := size9 x0 x1 x2 x3 x4 x5 x6 x7 x8; have h19 := one9 x0 x1 x2 x3 x4 x5 x6 x7 x8; have hn9 : ([.int .i64 x0, .int .i64 x1, .int .i64 x2, .int .i64 x3, .int .i64 x4, .int .i64 x5, .int .i64 x6, .int .i64 x7, .int .i64 x8] : List Value).length = 9 := rfl; have f0 := cell_keep hb3 HW1.out.1.1; have f1 := cell_keep hb3 HW1.out.1.2; have f2 := cell_keep hb3 HW1.out.2.1.1; have f3 := cell_keep hb3 HW1.out.2.1.2))
        all_goals
          have HZ := Lib.hid (And.intro hx hb3)
          go_wp2
          go_meet
          case rel =>
            refine ⟨_, x0, x1, x2, x3, x4, x5, x6, x7, x8, rfl, rfl, ?_, HZ.out.1, ?_⟩
            · exact arr_of_range (World.rangeAt_setCells_same _ _ 0 [.int .i64 x0, .int .i64 x1, .int .i64 x2, .int .i64 x3, .int .i64 x4, .int .i64 x5, .int .i64 x6, .int .i64 x7, .int .i64 x8] (by first | exact htc | exact ht3))
            · exact below_setCells (B := w1.heap.size) (by omega) _ _ _ (bt HZ.out.2 (by repeat (first | exact Below.refl _ _ | with_reducible assumption | exact below_alloc _ _ | (refine Below.setCell ?_ (by first | (simp; done) | (simp; omega) | omega) _) | apply bd | apply ba | apply be)))
      case rest =>
        obtain ⟨g, x0, x1, x2, x3, x4, x5, x6, x7, x8, rfl, rfl, hA, htl, hb⟩ := hcut
        replace hR := box_keep hR hb
        replace hc0 := cell_keep hb hc0; replace hc1 := cell_keep hb hc1; replace hd0 := cell_keep hb hd0; replace hd1 := cell_keep hb hd1; replace hW := bt hW hb; clear hb
        cases rb with
        | false =>
          have hP : provC a b cl = none := by rw [HPV.out]; rfl
          have HP := Lib.hid hP
          have r0 := box0 hR
          have r1 := box1 hR
          have rz0 := boxz hR 0
          have rz1 := boxz hR 1
          have hzz := box_lt hR
          have HB := Lib.hid hW
          clear hW hP hc0 hc1 hd0 hd1 hA htl
          go_wp2
          refine bodyPost_ret (v := .tuple #[.agg #[.slice none 0 0, .slice none 0 0], .bool false]) (by simp [results, Try.results50, go_sem, r0, r1]) rfl ?_
          exact HN.out _ HP.out (HB.out.trans (by repeat (first | exact Below.refl _ _ | with_reducible assumption | exact below_alloc _ _ | (refine Below.setCell ?_ (by first | (simp; done) | (simp; omega) | omega) _) | apply bd | apply ba | apply be)))
        | true =>
          have hcl : [x0, x1, x2, x3, x4, x5, x6, x7, x8] = cl := htl rfl
          have HCL := Lib.hid hcl
          have cells9 : (((wc.cell? ⟨g, 0, none⟩ = some (.int .i64 x0) ∧ wc.cell? ⟨g, 1, none⟩ = some (.int .i64 x1)) ∧ (wc.cell? ⟨g, 2, none⟩ = some (.int .i64 x2) ∧ wc.cell? ⟨g, 3, none⟩ = some (.int .i64 x3))) ∧ ((wc.cell? ⟨g, 4, none⟩ = some (.int .i64 x4) ∧ wc.cell? ⟨g, 5, none⟩ = some (.int .i64 x5)) ∧ (wc.cell? ⟨g, 6, none⟩ = some (.int .i64 x6) ∧ wc.cell? ⟨g, 7, none⟩ = some (.int .i64 x7)))) ∧ wc.cell? ⟨g, 8, none⟩ = some (.int .i64 x8) :=
            ⟨⟨⟨⟨hA.2.2 0 (by decide), hA.2.2 1 (by decide)⟩, ⟨hA.2.2 2 (by decide), hA.2.2 3 (by decide)⟩⟩, ⟨⟨hA.2.2 4 (by decide), hA.2.2 5 (by decide)⟩, ⟨hA.2.2 6 (by decide), hA.2.2 7 (by decide)⟩⟩⟩, hA.2.2 8 (by decide)⟩
          obtain ⟨⟨⟨⟨y0, y1⟩, ⟨y2, y3⟩⟩, ⟨⟨y4, y5⟩, ⟨y6, y7⟩⟩⟩, y8⟩ := cells9
          have HA := Lib.hid hA
          clear htl hcl hA
          go_wp2_with fail
          refine (matchCase_any _ _ _ _ a b [x0, x1, x2, x3, x4, x5, x6, x7, x8] rm _ (h1.keep hW) (h2.keep hW) (k1.keep hW) (k2.keep hW) HV.out.1 HV.out.2 rfl (by rw [HCL.out]; exact HRM.out)).mono ?_
          rintro e w5 ⟨vu, rfl, hO, hb5⟩
          have hzc := box_lt hR
          have hs5 := hb5.size
          replace hR := box_keep hR hb5
          have hA5 := HA.out.keep hb5
          have c9 : (((w5.cell? ⟨g, 0, none⟩ = some (.int .i64 x0) ∧ w5.cell? ⟨g, 1, none⟩ = some (.int .i64 x1)) ∧ (w5.cell? ⟨g, 2, none⟩ = some (.int .i64 x2) ∧ w5.cell? ⟨g, 3, none⟩ = some (.int .i64 x3))) ∧ ((w5.cell? ⟨g, 4, none⟩ = some (.int .i64 x4) ∧ w5.cell? ⟨g, 5, none⟩ = some (.int .i64 x5)) ∧ (w5.cell? ⟨g, 6, none⟩ = some (.int .i64 x6) ∧ w5.cell? ⟨g, 7, none⟩ = some (.int .i64 x7)))) ∧ w5.cell? ⟨g, 8, none⟩ = some (.int .i64 x8) :=
            ⟨⟨⟨⟨cell_keep hb5 y0, cell_keep hb5 y1⟩, ⟨cell_keep hb5 y2, cell_keep hb5 y3⟩⟩, ⟨⟨cell_keep hb5 y4, cell_keep hb5 y5⟩, ⟨cell_keep hb5 y6, cell_keep hb5 y7⟩⟩⟩, cell_keep hb5 y8⟩
          clear y0 y1 y2 y3 y4 y5 y6 y7 y8 hA5
          replace hW := bt hW hb5; clear hb5
          cases rm with
          | none =>
            have hP : provC a b cl = none := by rw [HPV.out]; rfl
            have HP := Lib.hid hP
            have r0 := box0 hR
            have r1 := box1 hR
            have rz0 := boxz hR 0
            have rz1 := boxz hR 1
            have hzz := box_lt hR
            have HB := Lib.hid hW
            clear hW hP hc0 hc1 hd0 hd1 hO
            go_wp2
            refine bodyPost_ret (v := .tuple #[.agg #[.slice none 0 0, .slice none 0 0], .bool false]) (by simp [results, Try.results50, go_sem, r0, r1]) rfl ?_
            exact HN.out _ HP.out (HB.out.trans (by repeat (first | exact Below.refl _ _ | with_reducible assumption | exact below_alloc _ _ | (refine Below.setCell ?_ (by first | (simp; done) | (simp; omega) | omega) _) | apply bd | apply ba | apply be)))
          | some us =>
            have hP : provC a b cl = some us := by rw [HPV.out]; rfl
            have HP := Lib.hid (And.intro hP (show proveR a b cl = (cl, us) by rw [proveR, hP]))
            have hO5 := hO us rfl
            obtain ⟨ua, uc, rfl⟩ := hO5.form
            obtain ⟨⟨⟨⟨y0, y1⟩, ⟨y2, y3⟩⟩, ⟨⟨y4, y5⟩, ⟨y6, y7⟩⟩⟩, y8⟩ := c9
            have HO := Lib.hid (And.intro hO5 hW)
            clear hO hO5 hP hW
            go_wp2_with fail
            refine (listC_any [x0, x1, x2, x3, x4, x5, x6, x7, x8] _ rfl).mono ?_
            rintro e w6 ⟨vl, rfl, hown, hb6⟩
            obtain ⟨la, lc, rfl, _⟩ := own_form hown
            replace hR := box_keep hR hb6
            have hzR := box_lt hR
            have hO6 := HO.out.1.keep hb6
            have hW6 := bt HO.out.2 hb6
            have r0 := box0 hR
            have r1 := box1 hR
            have rz0 := boxz hR 0
            have rz1 := boxz hR 1
            have hs6 := hb6.size
            have hFF : Fr (fun j => j = w.heap.size + 1 + 1) w6 ((w6.setCell ⟨w.heap.size + 1 + 1, 0, none⟩ (.slice la 9 lc)).setCell ⟨w.heap.size + 1 + 1, 1, none⟩ (.slice ua us.length uc)) := (fr_set w6 ⟨w.heap.size + 1 + 1, 0, none⟩ (.slice la 9 lc)).then (fr_set _ ⟨w.heap.size + 1 + 1, 1, none⟩ (.slice ua us.length uc)) fun _ _ e => e
            obtain ⟨f2, hL2, hn2⟩ := HO.out.1
            have hlt2 := hL2.lt
            have hl2 := (hL2.keep hb6).okept hFF (fun k hk e => by have := (hlt2 k hk).1; omega)
            have hl1 := (ints_OL hown).okept hFF (fun k hk e => by have := (own_lt hown (mem_ownBlock.1 hk)).1; omega)
            have hOA : OA ((w6.setCell ⟨w.heap.size + 1 + 1, 0, none⟩ (.slice la 9 lc)).setCell ⟨w.heap.size + 1 + 1, 1, none⟩ (.slice ua us.length uc)) w.heap.size (.slice la 9 lc) (.slice ua us.length uc) ([x0, x1, x2, x3, x4, x5, x6, x7, x8], us) :=
              ⟨_, f2, hl1.mono (by omega), hl2.mono (by omega), List.nodup_append.2 ⟨nodup_own _, hn2, fun k hk j hj e => by
                have h1 := (own_lt hown (mem_ownBlock.1 hk)).1
                have h2 := (hlt2 j hj).2
                omega⟩⟩
            have HE := Lib.hid (And.intro hOA (hW6.trans (hFF.below hW6.size fun k hk e => by omega)))
            clear hFF hOA hl1 hl2 hL2 hlt2 hown hO6 hW6 hb6 hR
            go_wp2
            refine bodyPost_ret (v := .tuple #[.agg #[.slice la 9 lc, .slice ua us.length uc], .bool true]) (by simp [results, Try.results50, go_sem, r0, r1]) rfl ?_
            exact ⟨_, _, by rw [HP.out.1]; rfl, by rw [HP.out.2, ← HCL.out]; exact HE.out.1, HE.out.2⟩
/-- The same, the flag by a name. -/
def provB (a b : Asn) (cl : List Int) : Bool := (provC a b cl).isSome
theorem proveI_any {S1 S2 S3 S4 S5 : Nat → Prop} (v1 v2 u1 u2 cv : Value) (a b : Asn) (cl : List Int) (w : World) (h1 : RL w S1 v1 a.1) (h2 : RL w S2 v2 a.2) (k1 : RL w S3 u1 b.1) (k2 : RL w S4 u2 b.2) (j1 : RL w S5 cv cl) :
    Calls Try.prog 50 #[.agg #[v1, v2], .agg #[u1, u2], cv] w fun e w' => ∃ y1 y2, e = .returned (.tuple #[.agg #[y1, y2], .bool (provB a b cl)]) ∧ OA w' w.heap.size y1 y2 (proveR a b cl) ∧ Below w.heap.size w w' :=
  proveCaseI_any v1 v2 u1 u2 cv a b cl w h1 h2 k1 k2 j1.ints
theorem proveS_any {S1 S2 S3 S4 S5 : Nat → Prop} (v1 v2 u1 u2 cv : Value) (a b : Asn) (cl : List Int) (w : World) (h1 : RL w S1 v1 a.1) (h2 : RL w S2 v2 a.2) (k1 : RL w S3 u1 b.1) (k2 : RL w S4 u2 b.2) (j1 : RL w S5 cv cl) :
    Calls Try.prog 48 #[.agg #[v1, v2], .agg #[u1, u2], cv] w fun e w' => ∃ y1 y2, e = .returned (.tuple #[.agg #[y1, y2], .bool (provB a b cl)]) ∧ (RL w' (fun k => w.heap.size ≤ k) y1 (proveR a b cl).1 ∧ RL w' (fun k => w.heap.size ≤ k) y2 (proveR a b cl).2) ∧ Below w.heap.size w w' :=
  proveCaseS_any v1 v2 u1 u2 cv a b cl w h1 h2 k1 k2 j1.ints
end Go.Proofs.Ythoingdcmdhllaa
