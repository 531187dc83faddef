/- ChkA: texts Chk1, Chk2 in one. -/
import Derived.Test.YtapoillhgimdiaaRData2
import Derived.Test.YtapoillhgimdiaaRData1
import Derived.Deep.Cut
import Derived.Handy
import Derived.Test.YtapoillhgimdiaaRAllA
import Derived.Test.YtapoillhgimdiaaRCase13
/- Walks: equal lists of numbers: the reference (l2Ints). -/
namespace Go.Proofs.Ytapoillhgimdiaa
open Go.RowKit

set_option maxRecDepth 100000 in
set_option maxHeartbeats 1600000 in
theorem l2Ints_any (v1 v2 : Value) (l1 l2 : List Int) (w : World) (h1 : RInts w v1 l1) (h2 : RInts w v2 l2) :
    Calls Try.prog 160 #[v1, v2] w fun e w' => e = .returned (.bool (decide (l1 = l2))) ∧ Below w.heap.size w w' := by
  have hm1 := h1.len
  have hm2 := h2.len
  unfold maxLen at hm1 hm2
  obtain ⟨a1, c1, rfl, hf1⟩ := h1.cells
  obtain ⟨a2, c2, rfl, hf2⟩ := h2.cells
  by_cases hl : l1.length = l2.length
  · have HL := Lib.hid hl
    have F1 := Lib.hid hf1
    have F2 := Lib.hid hf2
    have hne : ((l1.length : Int) != (l2.length : Int)) = false := by simp [hl]
    clear hl hf1 hf2 h1 h2
    go_enter Try.func160, Try.ntmps160
    go_wp2
    go_loopg [5] l1.length (fun q i wr => ∃ k : Nat, k + q = l1.length ∧ i = .int .i64 k ∧ l1.take k = l2.take k ∧ Below w.heap.size w wr)
    case atStart => exact ⟨0, by omega, rfl, by simp, Below.refl _ _⟩
    case round =>
      obtain ⟨k, hk, rfl, ht, hb⟩ := hrel
      have HK := Lib.hid hk
      have HT := Lib.hid ht
      clear hk ht
      by_cases hk8 : k < l1.length
      · have hk2 : k < l2.length := by have := HL.out; omega
        obtain ⟨b1, o1, rfl, hbl1, hc1⟩ := F1.out k hk8
        obtain ⟨b2, o2, rfl, hbl2, hc2⟩ := F2.out k hk2
        replace hc1 := cell_keep hb hc1
        replace hc2 := cell_keep hb hc2
        have z1 := World.block_lt_of_cell? wr _ hc1
        have z2 := World.block_lt_of_cell? wr _ hc2
        simp only at z1 z2
        have i1 : (k : Int) < (l1.length : Int) := by omega
        have i2 : (k : Int) < (l2.length : Int) := by omega
        have HB := Lib.hid hb
        by_cases he : gi l1 k = gi l2 k
        · have hne2 : (gi l1 k != gi l2 k) = false := by simp [he]
          have HE := Lib.hid he
          clear he hb
          go_wp2
          refine wp_region_ext (by kernel_rfl) (by kernel_rfl) ?_
          repeat (go_big_quiet_step ((fail)))
          refine wpQuiet_nil ?_
          intro w5 hb5
          go_wp2
          go_roundg (gk - 1)
          case rel => exact ⟨k + 1, by have := HK.out; omega, by go_num, take_eq_succ hk8 hk2 HT.out HE.out, bt HB.out hb5⟩
          case measure => have := HK.out; omega
        · have hne2 : (gi l1 k != gi l2 k) = true := by simpa using he
          have hfin : decide (l1 = l2) = false := by simpa using ne_of_gi he
          have HF := Lib.hid hfin
          clear he hfin hb
          go_wp2
          refine wp_region_ext (by kernel_rfl) (by kernel_rfl) ?_
          repeat (go_big_quiet_step ((fail)))
          refine wpQuiet_nil ?_
          intro w5 hb5
          go_wp2
          go_returns
          exact ⟨by rw [HF.out]; rfl, bt HB.out hb5⟩
      · obtain rfl : k = l1.length := by have := HK.out; omega
        have hfin : decide (l1 = l2) = true := by
          have := HT.out
          rw [List.take_length, HL.out, List.take_length] at this
          simpa using this
        have HF := Lib.hid hfin
        clear hfin HT
        go_wp2
        go_returns
        exact ⟨by rw [HF.out]; rfl, hb⟩
  · have hne : ((l1.length : Int) != (l2.length : Int)) = true := by simp; omega
    have HF := Lib.hid (show decide (l1 = l2) = false by rw [decide_eq_false_iff_not]; intro e; exact hl (by rw [e]))
    clear hl
    go_enter Try.func160, Try.ntmps160
    go_wp2
    go_returns
    exact ⟨by rw [HF.out]; rfl, Below.refl _ _⟩
end Go.Proofs.Ytapoillhgimdiaa
/- Walks: the check of the proofs of all cases: the reference. -/
namespace Go.Proofs.Ytapoillhgimdiaa
open Go.RowKit

/-- Are these the proofs of all cases? -/
def chkL (a b : Asn) (ps : List CPf) : Bool := decide (ps.map Prod.fst = casesL (bothM a b) a) && ps.all (checkC a b)
def chkE (a b : Asn) (ps : List CPf) : Bool := asnB a && (asnB b && chkL a b ps)
theorem case_read {a b : Asn} {cl : List Int} (h : cl ∈ casesL (bothM a b) a) : readC (termsM b) a cl = true := by
  have hm := mem_cases.1 h
  rw [readC, Bool.and_eq_true]
  exact hm
theorem map_take_gd {ps : List CPf} {k : Nat} (h : k < ps.length) : (ps.take (k + 1)).map Prod.fst = (ps.take k).map Prod.fst ++ [(gd ps k).1] := by
  rw [take_gd h, List.map_append]; rfl
theorem all_take_gd {ps : List CPf} {p : CPf → Bool} {k : Nat} (h : k < ps.length) : (ps.take (k + 1)).all p = ((ps.take k).all p && p (gd ps k)) := by
  rw [take_gd h, List.all_append]; simp
theorem chk_long {a b : Asn} {ps : List CPf} (h : (casesL (bothM a b) a).length < ps.length) : chkL a b ps = false := by
  rw [chkL, Bool.and_eq_false_iff]
  left
  rw [decide_eq_false_iff_not]
  intro e
  have := congrArg List.length e
  rw [List.length_map] at this
  omega
theorem chk_ne {a b : Asn} {ps : List CPf} {k : Nat} (hk : k < ps.length) (hc : k < (casesL (bothM a b) a).length) (h : (gd ps k).1 ≠ gd (casesL (bothM a b) a) k) : chkL a b ps = false := by
  rw [chkL, Bool.and_eq_false_iff]
  left
  rw [decide_eq_false_iff_not]
  intro e
  apply h
  rw [gd_of hk, gd_of hc]
  have h2 : (ps.map Prod.fst)[k]? = (casesL (bothM a b) a)[k]? := by rw [e]
  rw [List.getElem?_map, List.getElem?_eq_getElem hk, List.getElem?_eq_getElem hc] at h2
  simpa using h2
theorem chk_no {a b : Asn} {ps : List CPf} {k : Nat} (hk : k < ps.length) (h : checkC a b (gd ps k) = false) : chkL a b ps = false := by
  rw [chkL, Bool.and_eq_false_iff]
  right
  rw [List.all_eq_false]
  exact ⟨gd ps k, gd_mem hk, by rw [h]; decide⟩
theorem chk_end {a b : Asn} {ps : List CPf} (h1 : ps.map Prod.fst = (casesL (bothM a b) a).take ps.length) (h2 : ps.all (checkC a b) = true) :
    chkL a b ps = decide (ps.length = (casesL (bothM a b) a).length) := by
  rw [chkL, h2, Bool.and_true]
  by_cases e : ps.length = (casesL (bothM a b) a).length
  · rw [e, List.take_length] at h1
    simp [h1, e]
  · rw [decide_eq_false e, decide_eq_false_iff_not]
    intro e2
    have := congrArg List.length e2
    rw [List.length_map] at this
    exact e this
set_option maxRecDepth 100000 in
set_option maxHeartbeats 6400000 in
theorem checkEntS_any {S1 S2 S3 S4 S5 : Nat → Prop} (v1 v2 u1 u2 pv : Value) (a b : Asn) (ps : List CPf) (w : World) (h1 : RL w S1 v1 a.1) (h2 : RL w S2 v2 a.2) (k1 : RL w S3 u1 b.1) (k2 : RL w S4 u2 b.2) (j : RL w S5 pv ps) :
    Calls Try.prog 75 #[.agg #[v1, v2], .agg #[u1, u2], pv] w fun e w' => e = .returned (.bool (chkE a b ps)) ∧ Below w.heap.size w w' := by
  obtain ⟨xa1, xc1, rfl⟩ := h1.form
  obtain ⟨xa2, xc2, rfl⟩ := h2.form
  obtain ⟨ya1, yc1, rfl⟩ := k1.form
  obtain ⟨ya2, yc2, rfl⟩ := k2.form
  obtain ⟨pa, pc, rfl⟩ := j.form
  have hpm := j.len
  unfold maxLen at hpm
  obtain ⟨W, hWe⟩ : ∃ W, W = (w.alloc (.cells #[.slice xa1 a.1.length xc1, .slice xa2 a.2.length xc2] 33)).alloc (.cells #[.slice ya1 b.1.length yc1, .slice ya2 b.2.length yc2] 33) := ⟨_, rfl⟩
  have hW : Below w.heap.size w W := by rw [hWe]; exact Bl
  have hc0 : W.cell? ⟨w.heap.size, 0, none⟩ = some (.slice xa1 a.1.length xc1) := by rw [hWe]; simp [go_sem]
  have hc1 : W.cell? ⟨w.heap.size, 1, none⟩ = some (.slice xa2 a.2.length xc2) := by rw [hWe]; simp [go_sem]
  have hd0 : W.cell? ⟨w.heap.size + 1, 0, none⟩ = some (.slice ya1 b.1.length yc1) := by rw [hWe]; simp [go_sem]
  have hd1 : W.cell? ⟨w.heap.size + 1, 1, none⟩ = some (.slice ya2 b.2.length yc2) := by rw [hWe]; simp [go_sem]
  have HWE := Lib.hid hWe
  have HX := Lib.hid (And.intro (And.intro hc0 hc1) (And.intro (And.intro hd0 hd1) hW))
  clear hWe hc0 hc1 hd0 hd1 hW
  cases ha : asnB a with
  | false =>
    have HV := Lib.hid ha
    have HR := Lib.hid (show chkE a b ps = false by rw [chkE, ha]; rfl)
    clear ha
    go_enter Try.func75, Try.ntmps75
    go_upto_region 1 with fail
    rw [← HWE.out]
    obtain ⟨⟨hc0, hc1⟩, ⟨hd0, hd1⟩, hW⟩ := HX.out
    go_wp2_with fail
    refine (cb (asnValidS_any _ _ a _ (h1.keep hW) (h2.keep hW)) HV.out).mono ?_
    rintro e w1 ⟨rfl, hb⟩
    go_wp2
    go_returns
    exact ⟨by rw [HR.out]; rfl, bt hW hb⟩
  | true =>
    cases hb0 : asnB b with
    | false =>
      have HV := Lib.hid (And.intro ha hb0)
      have HR := Lib.hid (show chkE a b ps = false by rw [chkE, ha, hb0]; rfl)
      clear ha hb0
      go_enter Try.func75, Try.ntmps75
      go_upto_region 1 with fail
      rw [← HWE.out]
      obtain ⟨⟨hc0, hc1⟩, ⟨hd0, hd1⟩, hW⟩ := HX.out
      go_wp2_with fail
      refine (cb (asnValidS_any _ _ a _ (h1.keep hW) (h2.keep hW)) HV.out.1).mono ?_
      rintro e w1 ⟨rfl, hb⟩
      replace hc0 := cell_keep hb hc0; replace hc1 := cell_keep hb hc1; replace hd0 := cell_keep hb hd0; replace hd1 := cell_keep hb hd1; replace hW := bt hW hb; clear hb
      go_wp2_with fail
      refine (cb (asnValidS_any _ _ b _ (k1.keep hW) (k2.keep hW)) HV.out.2).mono ?_
      rintro e w1 ⟨rfl, hb⟩
      go_wp2
      go_returns
      exact ⟨by rw [HR.out]; rfl, bt hW hb⟩
    | true =>
      have HV := Lib.hid (And.intro ha hb0)
      have HR := Lib.hid (show chkE a b ps = chkL a b ps by rw [chkE, ha, hb0]; rfl)
      obtain ⟨cs, hcs⟩ : ∃ cs, casesL (bothM a b) a = cs := ⟨_, rfl⟩
      have HCS := Lib.hid hcs
      clear ha hb0 hcs
      go_enter Try.func75, Try.ntmps75
      go_upto_region 1 with fail
      rw [← HWE.out]
      obtain ⟨⟨hc0, hc1⟩, ⟨hd0, hd1⟩, hW⟩ := HX.out
      go_wp2_with fail
      refine (cb (asnValidS_any _ _ a _ (h1.keep hW) (h2.keep hW)) HV.out.1).mono ?_
      rintro e w1 ⟨rfl, hb⟩
      replace hc0 := cell_keep hb hc0; replace hc1 := cell_keep hb hc1; replace hd0 := cell_keep hb hd0; replace hd1 := cell_keep hb hd1; replace hW := bt hW hb; clear hb
      go_wp2_with fail
      refine (cb (asnValidS_any _ _ b _ (k1.keep hW) (k2.keep hW)) HV.out.2).mono ?_
      rintro e w1 ⟨rfl, hb⟩
      replace hc0 := cell_keep hb hc0; replace hc1 := cell_keep hb hc1; replace hd0 := cell_keep hb hd0; replace hd1 := cell_keep hb hd1; replace hW := bt hW hb; clear hb
      go_wp2
      go_region_held3 (fun w' => (w'.cell? ⟨w.heap.size, 0, none⟩ = some (.slice xa1 a.1.length xc1) ∧ w'.cell? ⟨w.heap.size, 1, none⟩ = some (.slice xa2 a.2.length xc2)) ∧ (w'.cell? ⟨w.heap.size + 1, 0, none⟩ = some (.slice ya1 b.1.length yc1) ∧ w'.cell? ⟨w.heap.size + 1, 1, none⟩ = some (.slice ya2 b.2.length yc2)))
        (exact ⟨⟨cell_keep Bl hc0, cell_keep Bl hc1⟩, ⟨cell_keep Bl hd0, cell_keep Bl hd1⟩⟩)
        (first
          | (go_at_call 88; go_must ((with_reducible refine (l6Both_any _ _ _ _ a b _ (h1.keep (bt hW Bl)) (h2.keep (bt hW Bl)) (k1.keep (bt hW Bl)) (k2.keep (bt hW Bl)) HV.out.1 HV.out.2).mono ?_); rintro e w2 ⟨vT, rfl, hT, hbT'⟩; have hbT : Below w1.heap.size w1 w2 := bt Bl hbT'; have HT := Lib.hid hT; clear hT))
          | (go_at_call 87; go_must ((with_reducible refine (l5All_any _ _ _ (bothM a b) _ _ a _ (h1.keep (bt hW (bt hbT Bl))) (h2.keep (bt hW (bt hbT Bl))) (own_keep HT.out Bl) HV.out.1 (cov_both a b) (both_zero a b) (fun j hj => both_pos hj)).mono ?_); rintro e w3 ⟨vC, rfl, hC, hbC'⟩; have hbC : Below w1.heap.size w1 w3 := bt (bt hbT Bl) hbC')))
      all_goals
        rw [HCS.out] at hC
        obtain ⟨ca, cc, rfl⟩ := hC.form
        have hCr := hC.read
        have hcm := hCr.len
        unfold maxLen at hcm
        replace hc0 := cell_keep hbC hc0
        replace hc1 := cell_keep hbC hc1
        replace hd0 := cell_keep hbC hd0
        replace hd1 := cell_keep hbC hd1
        replace hW := bt hW hbC
        have HC := Lib.hid (And.intro hCr.any (And.intro (And.intro (And.intro hc0 hc1) (And.intro hd0 hd1)) hW))
        clear hbT hbT' hbC hbC' hC hCr hc0 hc1 hd0 hd1 hW HT
        go_wp2
        go_loopg [8] ps.length (fun q i wr => ∃ k : Nat, k + q = ps.length ∧ i = .int .i64 k ∧ (k ≤ cs.length ∧ (ps.take k).map Prod.fst = cs.take k ∧ (ps.take k).all (checkC a b) = true) ∧ Below w3.heap.size w3 wr)
        case atStart => exact ⟨0, by omega, rfl, ⟨by omega, by simp, by simp⟩, Below.refl _ _⟩
        case round =>
          obtain ⟨k, hk, rfl, hinv, hb⟩ := hrel
          have HK := Lib.hid hk
          have HI := Lib.hid hinv
          clear hk hinv
          have hW := bt HC.out.2.2 hb
          have hc0 := cell_keep hb HC.out.2.1.1.1
          have hc1 := cell_keep hb HC.out.2.1.1.2
          have hd0 := cell_keep hb HC.out.2.1.2.1
          have hd1 := cell_keep hb HC.out.2.1.2.2
          have z0 := World.block_lt_of_cell? wr _ hc0
          have z1 := World.block_lt_of_cell? wr _ hd0
          simp only at z0 z1
          by_cases hk8 : k < ps.length
          · have i1 : (k : Int) < (ps.length : Int) := by omega
            obtain ⟨pa', pc', hpe, _, _, hpf⟩ := (j.keep hW).cpfAt
            simp only [Value.slice.injEq] at hpe
            obtain ⟨rfl, _, rfl⟩ := hpe
            obtain ⟨b1, o1, x1, x2, rfl, _, hz1, hp1, hp2, r1, r2⟩ := hpf k hk8
            obtain ⟨x1a, x1c, rfl⟩ := r1.form
            obtain ⟨x2a, x2c, rfl⟩ := r2.form
            have q1 := h1.keep hW
            have q2 := h2.keep hW
            have q3 := k1.keep hW
            have q4 := k2.keep hW
            clear hpf
            by_cases hkc : k < cs.length
            rotate_left
            · have hge : (k : Int) ≥ (cs.length : Int) := by omega
              have HN := Lib.hid (show chkL a b ps = false from chk_long (by rw [HCS.out]; omega))
              clear hkc
              go_wp2
              refine wp_region_ext (by kernel_rfl) (by kernel_rfl) ?_
              repeat (go_big_quiet_step ((fail)))
              refine wpQuiet_nil ?_
              intro w5 hb5
              go_wp2
              go_returns
              exact ⟨by rw [HR.out, HN.out]; rfl, bt hW hb5⟩
            have i2 : (k : Int) < (cs.length : Int) := by omega
            have i3 : ¬ ((cs.length : Int) ≤ (k : Int)) := by omega
            have i4 : ¬ (cs.length ≤ k) := by omega
            obtain ⟨ca', cc', hce, _, _, hcf⟩ := (HC.out.1.keep hb).listAt
            simp only [Value.slice.injEq] at hce
            obtain ⟨rfl, _, rfl⟩ := hce
            obtain ⟨b2, o2, x3, rfl, _, hz2, hp3, r3⟩ := hcf k hkc
            obtain ⟨x3a, x3c, rfl⟩ := r3.form
            clear hcf
            by_cases he : (gd ps k).1 = gd cs k
            rotate_left
            · have HEQ := Lib.hid (show decide ((gd ps k).1 = gd cs k) = false from decide_eq_false he)
              have HN := Lib.hid (show chkL a b ps = false from chk_ne hk8 (by rw [HCS.out]; exact hkc) (by rw [HCS.out]; exact he))
              clear he
              go_wp2
              refine wp_region_ext (by kernel_rfl) (by kernel_rfl) ?_
              repeat (go_big_quiet_step ((first
                | (go_at_call 160; exact ext_c (cb (l2Ints_any _ _ (gd ps k).1 (gd cs k) _ (r1.keep Bl).ints (r3.keep Bl).ints) HEQ.out)))))
              refine wpQuiet_nil ?_
              intro w5 hb5
              go_wp2
              go_returns
              exact ⟨by rw [HR.out, HN.out]; rfl, bt hW hb5⟩
            have hrd : readC (termsM b) a (gd ps k).1 = true := case_read (by rw [HCS.out, he]; exact gd_mem hkc)
            have HL9 := Lib.hid (read_len hrd)
            have HEQ := Lib.hid (show decide ((gd ps k).1 = gd cs k) = true from decide_eq_true he)
            have HEE := Lib.hid he
            have hsp := checkC_spec HV.out.1 HV.out.2 hrd
            cases hck : checkC a b (gd ps k) with
            | false =>
              have HCK := Lib.hid (hsp.symm.trans hck)
              have HN := Lib.hid (show chkL a b ps = false from chk_no hk8 hck)
              clear he hrd hsp hck
              go_wp2
              refine wp_region_ext (by kernel_rfl) (by kernel_rfl) ?_
              repeat (go_big_quiet_step ((first
                | (go_at_call 160; exact ext_c (cb (l2Ints_any _ _ (gd ps k).1 (gd cs k) _ (r1.keep Bl).ints (r3.keep Bl).ints) HEQ.out))
                | (go_at_call 116; exact ext_c (cb (l16Check_any _ _ _ _ _ _ a b (gd ps k) _ (q1.keep Bl) (q2.keep Bl) (q3.keep Bl) (q4.keep Bl) (r1.keep Bl) (r2.keep Bl) HV.out.1 HV.out.2 HL9.out) HCK.out)))))
              refine wpQuiet_nil ?_
              intro w5 hb5
              go_wp2
              go_returns
              exact ⟨by rw [HR.out, HN.out]; rfl, bt hW hb5⟩
            | true =>
              have HCK := Lib.hid (hsp.symm.trans hck)
              have HN := Lib.hid (show k + 1 ≤ cs.length ∧ (ps.take (k + 1)).map Prod.fst = cs.take (k + 1) ∧ (ps.take (k + 1)).all (checkC a b) = true from
                ⟨by omega, by rw [map_take_gd hk8, take_gd hkc, HI.out.2.1, he], by rw [all_take_gd hk8, HI.out.2.2, hck]; rfl⟩)
              have HB := Lib.hid hb
              clear he hrd hsp hck hb
              go_wp2
              refine wp_region_ext (by kernel_rfl) (by kernel_rfl) ?_
              repeat (go_big_quiet_step ((first
                | (go_at_call 160; exact ext_c (cb (l2Ints_any _ _ (gd ps k).1 (gd cs k) _ (r1.keep Bl).ints (r3.keep Bl).ints) HEQ.out))
                | (go_at_call 116; exact ext_c (cb (l16Check_any _ _ _ _ _ _ a b (gd ps k) _ (q1.keep Bl) (q2.keep Bl) (q3.keep Bl) (q4.keep Bl) (r1.keep Bl) (r2.keep Bl) HV.out.1 HV.out.2 HL9.out) HCK.out)))))
              refine wpQuiet_nil ?_
              intro w5 hb5
              go_wp2
              go_roundg (gk - 1)
              case rel => exact ⟨k + 1, by have := HK.out; omega, by go_num, HN.out, bt HB.out hb5⟩
              case measure => have := HK.out; omega
          · obtain rfl : k = ps.length := by have := HK.out; omega
            have HN := Lib.hid (show chkL a b ps = decide (ps.length = cs.length) by
              have h2 := HI.out.2
              rw [List.take_length] at h2
              rw [chk_end (by rw [HCS.out]; exact h2.1) h2.2, HCS.out])
            have HE := Lib.hid (show ((ps.length : Int) == (cs.length : Int)) = decide (ps.length = cs.length) by
              by_cases e : ps.length = cs.length
              · simp [e]
              · rw [decide_eq_false e, beq_eq_false_iff_ne]; omega)
            go_wp2
            go_returns
            exact ⟨by rw [HR.out, HN.out, ← HE.out]; rfl, hW⟩
end Go.Proofs.Ytapoillhgimdiaa
