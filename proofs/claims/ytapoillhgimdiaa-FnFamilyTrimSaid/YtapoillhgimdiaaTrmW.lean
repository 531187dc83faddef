/- Walks: a family is trimmed, in the program and in the reference. -/
import Derived.Test.YtapoillhgimdiaaTrm
import Derived.Test.YtapoillhgimdiaaFam3
import Derived.Handy
set_option linter.unusedSimpArgs false
set_option linter.unusedVariables false
namespace Go.Proofs.Ytapoillhgimdiaa
open Go.RowKit

theorem step_same (l : List Asn) (i : Nat) : stepN l i i = true := by rw [stepN, decide_eq_true rfl]; rfl
theorem step_far {l : List Asn} {i k : Nat} (h : entB (gd l i) (gd l k) = false) : stepN l i k = true := by rw [stepN, h]; simp
theorem step_low {l : List Asn} {i k : Nat} (hne : ¬ k = i) (h : entB (gd l i) (gd l k) = true) (hl : ¬ i < k) : stepN l i k = false := by
  rw [stepN, h, decide_eq_false hne, decide_eq_false hl]; rfl
theorem step_high {l : List Asn} {i k : Nat} (hne : ¬ k = i) (h : entB (gd l i) (gd l k) = true) (hl : i < k) : stepN l i k = entB (gd l k) (gd l i) := by
  rw [stepN, h, decide_eq_false hne, decide_eq_true hl]; simp
theorem need_stop {l : List Asn} {i k : Nat} (hk : k < l.length) (h : stepN l i k = false) : needTo l i l.length = false := by
  rw [needTo, List.all_eq_false]; exact ⟨k, List.mem_range.2 hk, by rw [h]; decide⟩
set_option maxRecDepth 100000 in
set_option maxHeartbeats 6400000 in
theorem needed_any {S : Nat → Prop} (v : Value) (l : List Asn) (i : Nat) (w : World) (h : RL w S v l) (hi : i < l.length) :
    Calls Try.prog 134 #[v, .int .i64 i] w fun e w' => e = .returned (.bool (needB l i)) ∧ Below w.heap.size w w' := by
  have hm := h.len
  unfold maxLen at hm
  obtain ⟨a, c, rfl, _, _, hf⟩ := h.asnAt
  have F1 := Lib.hid hf
  clear hf h
  obtain ⟨b0, o0, x1, x2, rfl, _, hbl0, hq1, hq2, s1, s2⟩ := F1.out i hi
  obtain ⟨xa1, xc1, rfl⟩ := s1.form
  obtain ⟨xa2, xc2, rfl⟩ := s2.form
  obtain ⟨t, ht⟩ : ∃ t, consB (gd l i) = t := ⟨_, rfl⟩
  have HT := Lib.hid ht
  have hii : (i : Int) < (l.length : Int) := by omega
  clear ht
  go_enter Try.func134, Try.ntmps134
  go_wp2_with fail
  refine (cb (consistentI_any _ _ (gd l i) _ s1 s2) HT.out).mono ?_
  rintro e w1 ⟨rfl, hb⟩
  cases t with
  | false =>
    have HN := Lib.hid (show needB l i = false by rw [needB, HT.out]; rfl)
    go_wp2
    go_returns
    exact ⟨by rw [HN.out]; rfl, hb⟩
  | true =>
    have HN := Lib.hid (show needB l i = needTo l i l.length by rw [needB, HT.out, Bool.true_and])
    have HW := Lib.hid hb
    clear hb
    go_wp2
    go_loopg [15] l.length (fun q x wr => ∃ k : Nat, k + q = l.length ∧ x = .int .i64 k ∧ needTo l i k = true ∧ Below w.heap.size w wr)
    case atStart => exact ⟨0, by omega, rfl, rfl, HW.out⟩
    case round =>
      obtain ⟨k, hk, rfl, hn, hW⟩ := hrel
      have HK := Lib.hid hk
      have HD := Lib.hid hn
      clear hk hn
      by_cases hk8 : k < l.length
      · obtain ⟨b1, o1, u1, u2, hbe, _, hbl1, hp1, hp2, r1, r2⟩ := F1.out k hk8
        simp only [Option.some.injEq, Addr.mk.injEq, and_true] at hbe
        obtain ⟨rfl, rfl⟩ := hbe
        obtain ⟨ua1, uc1, rfl⟩ := r1.form
        obtain ⟨ua2, uc2, rfl⟩ := r2.form
        have hs0 := hW.size
        have hzb : b0 < wr.heap.size := by omega
        have i1 : (k : Int) < (l.length : Int) := by omega
        replace hp1 := cell_keep hW hp1; replace hp2 := cell_keep hW hp2
        have hz1 := cell_keep hW hq1; have hz2 := cell_keep hW hq2
        by_cases hki : k = i
        · subst hki
          have HS := Lib.hid (step_same l k)
          go_wp2
          refine wp_region_ext (by kernel_rfl) (by kernel_rfl) ?_
          repeat (go_big_quiet_step (fail))
          refine wpQuiet_nil ?_
          intro w5 hb5
          replace hb5 := bt (ba hW _) hb5
          go_wp2
          go_roundg (gk - 1)
          case rel => exact ⟨k + 1, by have := HK.out; omega, by go_num, by rw [need_more, HD.out, HS.out]; rfl, hb5⟩
          case measure => have := HK.out; omega
        · have hki1 : ((k : Int) == (i : Int)) = false := by rw [beq_eq_false_iff_ne]; omega
          have q1 := (s1.keep hW).alloc (.cells #[.slice ua1 (gd l k).1.length uc1, .slice ua2 (gd l k).2.length uc2] 33)
          have q2 := (s2.keep hW).alloc (.cells #[.slice ua1 (gd l k).1.length uc1, .slice ua2 (gd l k).2.length uc2] 33)
          have q3 := (r1.keep hW).alloc (.cells #[.slice ua1 (gd l k).1.length uc1, .slice ua2 (gd l k).2.length uc2] 33)
          have q4 := (r2.keep hW).alloc (.cells #[.slice ua1 (gd l k).1.length uc1, .slice ua2 (gd l k).2.length uc2] 33)
          obtain ⟨e1, he1⟩ : ∃ t, entB (gd l i) (gd l k) = t := ⟨_, rfl⟩
          have HE1 := Lib.hid he1
          have HKI := Lib.hid hki
          clear he1
          go_wp2
          refine wp_region_ext (by kernel_rfl) (by kernel_rfl) ?_
          repeat (go_big_quiet_step ((go_at_call 38; with_reducible exact ext_c (cb (entailsI_any _ _ _ _ (gd l i) (gd l k) _ (q1.keep (ext_below _ _)) (q2.keep (ext_below _ _)) (q3.keep (ext_below _ _)) (q4.keep (ext_below _ _))) HE1.out))))
          refine wpQuiet_nil ?_
          intro w5 hb5
          have hx1 := cell_keep hb5 (p := ⟨wr.heap.size, 0, none⟩) (v := .slice ua1 (gd l k).1.length uc1) (by simp)
          have hx2 := cell_keep hb5 (p := ⟨wr.heap.size, 1, none⟩) (v := .slice ua2 (gd l k).2.length uc2) (by simp)
          replace q1 := q1.keep hb5; replace q2 := q2.keep hb5; replace q3 := q3.keep hb5; replace q4 := q4.keep hb5
          have hb6 := bt (below_alloc wr _) hb5
          replace hz1 := cell_keep hb6 hz1; replace hz2 := cell_keep hb6 hz2
          have hzx := World.block_lt_of_cell? w5 _ hx1
          simp only at hzx
          have hzb5 : b0 < w5.heap.size := by omega
          have hW5 := bt hW hb6
          clear hb5 hb6
          cases e1 with
          | false =>
            have HS := Lib.hid (step_far HE1.out)
            go_wp2
            go_roundg (gk - 1)
            case rel => exact ⟨k + 1, by have := HK.out; omega, by go_num, by rw [need_more, HD.out, HS.out]; rfl, hW5⟩
            case measure => have := HK.out; omega
          | true =>
            by_cases hlt : k < i
            · have hlt1 : (k : Int) < (i : Int) := by omega
              have HS := Lib.hid (need_stop hk8 (step_low HKI.out HE1.out (by omega)))
              go_wp2
              refine wp_region_ext (by kernel_rfl) (by kernel_rfl) ?_
              repeat (go_big_quiet_step (fail))
              refine wpQuiet_nil ?_
              intro w7 hb7
              replace hb7 := bt hW5 hb7
              go_wp2
              go_returns
              exact ⟨by rw [HN.out, HS.out]; rfl, hb7⟩
            · have hlt1 : ¬ (k : Int) < (i : Int) := by omega
              obtain ⟨e2, he2⟩ : ∃ t, entB (gd l k) (gd l i) = t := ⟨_, rfl⟩
              have HS := Lib.hid (And.intro he2 (show stepN l i k = e2 from (step_high HKI.out HE1.out (by have := HKI.out; omega)).trans he2))
              clear he2
              go_wp2
              refine wp_region_ext (by kernel_rfl) (by kernel_rfl) ?_
              repeat (go_big_quiet_step ((go_at_call 38; with_reducible exact ext_c (cb (entailsI_any _ _ _ _ (gd l k) (gd l i) _ (q3.keep (ext_below _ _)) (q4.keep (ext_below _ _)) (q1.keep (ext_below _ _)) (q2.keep (ext_below _ _))) HS.out.1))))
              refine wpQuiet_nil ?_
              intro w7 hb7
              replace hb7 := bt hW5 hb7
              cases e2 with
              | false =>
                have HS2 := Lib.hid (need_stop hk8 HS.out.2)
                go_wp2
                go_returns
                exact ⟨by rw [HN.out, HS2.out]; rfl, hb7⟩
              | true =>
                go_wp2
                go_roundg (gk - 1)
                case rel => exact ⟨k + 1, by have := HK.out; omega, by go_num, by rw [need_more, HD.out, HS.out.2]; rfl, hb7⟩
                case measure => have := HK.out; omega
      · obtain rfl : k = l.length := by have := HK.out; omega
        go_wp2
        go_returns
        exact ⟨by rw [HN.out, HD.out]; rfl, hW⟩
set_option maxRecDepth 100000 in
set_option maxHeartbeats 6400000 in
theorem familyTrimI_any {S : Nat → Prop} (v : Value) (l : List Asn) (w : World) (h : RL w S v l) :
    Calls Try.prog 53 #[v] w fun e w' => ∃ u, e = .returned (.tuple #[u, .bool (famB l)]) ∧ OO w' w.heap.size u (trimR l) ∧ Below w.heap.size w w' := by
  have hm := h.len
  unfold maxLen at hm
  have hR := Lib.hid h
  obtain ⟨a, c, rfl, _, _, hf⟩ := h.asnAt
  have F1 := Lib.hid hf
  clear hf h
  cases ha : famB l
  · have HF := Lib.hid (And.intro (show trimR l = [] by simp [trimR, ha]) ha)
    clear ha
    go_enter Try.func53, Try.ntmps53
    go_wp2_with fail
    refine (cb (famValidI_any _ l _ hR.out) HF.out.2).mono ?_
    rintro e w1 ⟨rfl, hb1⟩
    go_wp2
    go_ret2
    exact ⟨_, rfl, by rw [HF.out.1]; exact ⟨[], OL.nil _ _, by simp⟩, hb1⟩
  have hfl := fam_len ha
  have HF := Lib.hid (And.intro (show trimR l = trimTo l l.length by simp [trimR, ha, trimL]) (And.intro ha (fmSz_of ha)))
  clear ha
  go_enter Try.func53, Try.ntmps53
  go_wp2_with fail
  refine (cb (famValidI_any _ l _ hR.out) HF.out.2.1).mono ?_
  rintro e w1 ⟨rfl, hb1⟩
  have HW := Lib.hid hb1
  clear hb1
  go_wp2
  go_loopg [4, 12] l.length (fun q x i wr => ∃ k : Nat, k + q = l.length ∧ i = .int .i64 k ∧ PL wr w.heap.size x (trimTo l k).length (trimTo l k) (trimTo l k).length ∧ Below w.heap.size w wr)
  case atStart => exact ⟨0, by omega, rfl, by rw [trim_zero]; exact PL.nil _ _, HW.out⟩
  case round =>
    obtain ⟨k, hk, rfl, hP, hb⟩ := hrel
    have HK := Lib.hid hk
    clear hk
    by_cases hk8 : k < l.length
    · obtain ⟨b1, o1, u1, u2, rfl, _, hbl1, hp1, hp2, r1, r2⟩ := F1.out k hk8
      obtain ⟨ua1, uc1, rfl⟩ := r1.form
      obtain ⟨ua2, uc2, rfl⟩ := r2.form
      replace hp1 := cell_keep hb hp1
      replace hp2 := cell_keep hb hp2
      have hki : (k : Int) < (l.length : Int) := by omega
      have hs := hb.size
      have hzb : b1 < wr.heap.size := by omega
      have hse := HF.out.2.2 _ (gd_mem hk8)
      obtain ⟨t, ht⟩ : ∃ t, needB l k = t := ⟨_, rfl⟩
      have HT := Lib.hid ht
      have hlk := trimTo_len l k
      clear ht
      have HP := Lib.hid hP
      clear hP
      go_wp2_with fail
      refine (cb (needed_any _ l k _ (hR.out.keep (bt hb Bl)) hk8) HT.out).mono ?_
      rintro e w3 ⟨rfl, hb3⟩
      have hx1 := cell_keep hb3 (p := ⟨wr.heap.size, 0, none⟩) (v := .slice ua1 (gd l k).1.length uc1) (by simp)
      have hx2 := cell_keep hb3 (p := ⟨wr.heap.size, 1, none⟩) (v := .slice ua2 (gd l k).2.length uc2) (by simp)
      have hb4 := bt (below_alloc wr _) hb3
      have hzx := World.block_lt_of_cell? w3 _ hx1
      simp only at hzx
      have hb3w := bt hb hb4
      clear hb3
      cases t with
      | false =>
        have HTN := Lib.hid (trim_no HT.out)
        have hPn := HP.out.keep hb4
        rw [← HTN.out] at hPn
        have HPN := Lib.hid hPn
        clear hPn
        go_wp2
        go_roundg (gk - 1)
        case rel => exact ⟨k + 1, by have := HK.out; omega, by go_num, HPN.out, hb3w⟩
        case measure => have := HK.out; omega
      | true =>
        have HTY := Lib.hid (trim_yes HT.out)
        obtain ⟨xs, fps, hr, hfl2, hnd, ho⟩ := HP.out.keep hb4
        have HQ := Lib.hid (And.intro hr (And.intro hfl2 (And.intro hnd ho)))
        clear hr hfl2 hnd ho
        go_wp2_with fail
        refine (copyAssertion_any _ _ (gd l k) _ (r1.keep (bt hb3w Bl)) (r2.keep (bt hb3w Bl)) hse.1 hse.2).mono ?_
        rintro e w5 ⟨z1, z2, rfl, ⟨f1, f2, q1, q2, qn⟩, hb5⟩
        obtain ⟨za1, zc1, rfl⟩ := q1.read.form
        obtain ⟨za2, zc2, rfl⟩ := q2.read.form
        have hbw := bt hb3w hb5
        have hzz := hbw.size
        have hs3 := hb3w.size
        have ho2 : Own.own w5 (w3.heap.size) (gd l k) [.slice za1 (gd l k).1.length zc1, .slice za2 (gd l k).2.length zc2] (f1 ++ f2) := ⟨[_], [_], f1, f2, rfl, rfl, ⟨_, rfl, q1.mono (by simp)⟩, ⟨_, rfl, q2.mono (by simp)⟩⟩
        have hown5 := own_keep (own_keep HQ.out.1 hb5) (below_alloc w5 (.cells #[.slice za1 (gd l k).1.length zc1, .slice za2 (gd l k).2.length zc2] 33))
        have HO2 := Lib.hid (And.intro ho2 (And.intro qn hb5))
        clear ho2 qn q1 q2 hb5
        go_wp2_with (at_builtin; refine app_cells (n := (trimTo l k).length) (m := 1) (news := [.slice za1 (gd l k).1.length zc1, .slice za2 (gd l k).2.length zc2]) rfl (.tmp 20) (.tmp 23) _ rfl (B := w.heap.size) ti_asn rfl hown5 rfl rfl (news2 _ _ _ _) (one2 _ _ _ _ _ _) (by omega) (by simp; omega) ?_; intro v' w7 hr7 hf7 hl7)
        have hbb := below_own hown5 hf7 (ba hbw _) (by simp; omega)
        have hPn := PL.app (m := [gd l k]) (fps2 := [f1 ++ f2]) HQ.out.1 HQ.out.2.1 HQ.out.2.2.1 HQ.out.2.2.2 (ba HO2.out.2.2 _) (fun i hi => by
          obtain rfl : i = 0 := by simpa using hi
          exact Own.okept HO2.out.1 (Below.fr (below_alloc _ _)) fun _ _ h => h) rfl (by simpa using HO2.out.2.1) hs3 hf7 hr7 hl7
        rw [← HTY.out] at hPn
        have HPN := Lib.hid hPn
        clear hPn hr7 hf7 hl7 hown5
        go_wp2
        go_roundg (gk - 1)
        case rel => exact ⟨k + 1, by have := HK.out; omega, by go_num, HPN.out, hbb⟩
        case measure => have := HK.out; omega
    · obtain rfl : k = l.length := by have := HK.out; omega
      have HPN := Lib.hid hP.done
      clear hP
      go_wp2
      go_ret2
      exact ⟨_, rfl, by rw [HF.out.1]; exact HPN.out, hb⟩
set_option maxRecDepth 100000 in
set_option maxHeartbeats 6400000 in
theorem familyTrimS_any {S : Nat → Prop} (v : Value) (l : List Asn) (w : World) (h : RL w S v l) :
    Calls Try.prog 51 #[v] w fun e w' => ∃ u, e = .returned (.tuple #[u, .bool (famB l)]) ∧ RL w' (fun _ => True) u (trimR l) ∧ Below w.heap.size w w' := by
  have hm := h.len
  unfold maxLen at hm
  have hR := Lib.hid h
  obtain ⟨a, c, rfl, _, _, hf⟩ := h.asnAt
  have F1 := Lib.hid hf
  clear hf h
  cases ha : famB l
  · have HF := Lib.hid (And.intro (show trimR l = [] by simp [trimR, ha]) ha)
    clear ha
    go_enter Try.func51, Try.ntmps51
    go_wp2_with fail
    refine (cb (famValidS_any _ l _ (hR.out.keep Bl)) HF.out.2).mono ?_
    rintro e w1 ⟨rfl, hb1⟩
    replace hb1 := bt (below_alloc w _) hb1
    go_wp2
    go_ret2
    exact ⟨_, rfl, by rw [HF.out.1]; exact .inl ⟨_, _, rfl, rfl, by decide, by simp⟩, hb1⟩
  have hfl := fam_len ha
  have HF := Lib.hid (And.intro (show trimR l = trimTo l l.length by simp [trimR, ha, trimL]) (And.intro ha (fmSz_of ha)))
  clear ha
  go_enter Try.func51, Try.ntmps51
  go_wp2_with fail
  refine (cb (famValidS_any _ l _ (hR.out.keep Bl)) HF.out.2.1).mono ?_
  rintro e w1 ⟨rfl, hb1⟩
  have HW := Lib.hid (And.intro (own_keep (own_emp w w.heap.size 33 (Dat.sz Asn) (Nat.le_refl _)) hb1) (bt (below_alloc w _) hb1))
  clear hb1
  go_wp2
  go_loopg [4, 5] l.length (fun q x i wr => ∃ k : Nat, k + q = l.length ∧ i = .int .i64 k ∧ TR wr w.heap.size 33 x (trimTo l k) ∧ Below w.heap.size w wr)
  case atStart => exact ⟨0, by omega, rfl, TR.of HW.out.1, HW.out.2⟩
  case round =>
    obtain ⟨i, hk, rfl, hT, hb⟩ := hrel
    have HI := Lib.hid hk
    clear hk
    by_cases hi8 : i < l.length
    · obtain ⟨b0, o0, x1, x2, rfl, _, hbl0, hq1, hq2, s1, s2⟩ := F1.out i hi8
      obtain ⟨xa1, xc1, rfl⟩ := s1.form
      obtain ⟨xa2, xc2, rfl⟩ := s2.form
      obtain ⟨t, ht⟩ : ∃ t, consB (gd l i) = t := ⟨_, rfl⟩
      have HC := Lib.hid ht
      have hii : (i : Int) < (l.length : Int) := by omega
      have hlk := trimTo_len l i
      have hse := HF.out.2.2 _ (gd_mem hi8)
      clear ht
      have hz1 := cell_keep hb hq1; have hz2 := cell_keep hb hq2
      obtain ⟨gO, hgO⟩ : ∃ g, g = gk := ⟨_, rfl⟩
      have HGO := Lib.hid hgO
      clear hgO
      obtain ⟨wo, rfl⟩ : ∃ wo : World, wo = wr := ⟨_, rfl⟩
      have HO := Lib.hid (And.intro hT hb)
      have hs := hb.size
      have hzb : b0 < wo.heap.size := by omega
      obtain ⟨va, vn, vc, rfl⟩ := hT.rl.forms
      have q1 := s1.keep hb; have q2 := s2.keep hb
      clear hT hb
      go_wp2_with fail
      refine (cb (consistentS_any _ _ (gd l i) _ q1 q2) HC.out).mono ?_
      rintro e w1 ⟨rfl, hb1⟩
      have HW1 := Lib.hid hb1
      clear hb1 q1 q2 hz1 hz2
      go_wp2
      go_loopg [6, 7] l.length (fun q x kk wr => ∃ (k : Nat) (b : Bool), k + q = l.length ∧ x = .bool b ∧ kk = .int .i64 k ∧ (b = (t && needTo l i k)) ∧ Below wo.heap.size wo wr)
      case atStart => exact ⟨0, t, by omega, rfl, rfl, by simp [needTo], HW1.out⟩
      case round =>
        obtain ⟨k, b, hk, rfl, rfl, hn, hb⟩ := hrel
        have HK := Lib.hid hk
        have HD := Lib.hid hn
        clear hk hn
        cases b with
        | false =>
          have HN := Lib.hid (show needB l i = false by
            have h := HD.out
            rw [needB, HC.out]
            cases t with
            | false => rfl
            | true =>
              rw [Bool.true_and] at h ⊢
              exact need_no h.symm (by have := HK.out; omega))
          have HTN := Lib.hid (trim_no HN.out)
          have hTn := HO.out.1.keep hb
          rw [← HTN.out] at hTn
          have HX := Lib.hid (And.intro hTn (bt HO.out.2 hb))
          clear hTn hb
          by_cases hk8 : (k : Int) < (l.length : Int)
          · go_wp2
            go_roundg (gO - 1)
            case rel => exact ⟨i + 1, by have := HI.out; have := HGO.out; omega, by go_num, HX.out.1, HX.out.2⟩
            case measure => have := HI.out; have := HGO.out; omega
          · go_wp2
            go_roundg (gO - 1)
            case rel => exact ⟨i + 1, by have := HI.out; have := HGO.out; omega, by go_num, HX.out.1, HX.out.2⟩
            case measure => have := HI.out; have := HGO.out; omega
        | true =>
          have HD2 := Lib.hid (show t = true ∧ needTo l i k = true by have h := HD.out; rw [eq_comm, Bool.and_eq_true] at h; exact h)
          have hs0 := hb.size
          have hzb2 : b0 < wr.heap.size := by omega
          have hz1 := cell_keep (bt HO.out.2 hb) hq1; have hz2 := cell_keep (bt HO.out.2 hb) hq2
          have q1 := s1.keep (bt HO.out.2 hb); have q2 := s2.keep (bt HO.out.2 hb)
          by_cases hk8 : k < l.length
          · obtain ⟨b1, o1, u1, u2, hbe, _, hbl1, hp1, hp2, r1, r2⟩ := F1.out k hk8
            simp only [Option.some.injEq, Addr.mk.injEq, and_true] at hbe
            obtain ⟨rfl, rfl⟩ := hbe
            obtain ⟨ua1, uc1, rfl⟩ := r1.form
            obtain ⟨ua2, uc2, rfl⟩ := r2.form
            have i1 : (k : Int) < (l.length : Int) := by omega
            replace hp1 := cell_keep (bt HO.out.2 hb) hp1; replace hp2 := cell_keep (bt HO.out.2 hb) hp2
            have q3 := r1.keep (bt HO.out.2 hb); have q4 := r2.keep (bt HO.out.2 hb)
            by_cases hki : k = i
            · subst hki
              have HS := Lib.hid (step_same l k)
              go_wp2
              refine wp_region_ext (by kernel_rfl) (by kernel_rfl) ?_
              repeat (go_big_quiet_step (fail))
              refine wpQuiet_nil ?_
              intro w5 hb5
              replace hb5 := bt hb hb5
              go_wp2
              go_roundg (gk - 1)
              case rel => exact ⟨k + 1, true, by have := HK.out; omega, rfl, by go_num, by rw [need_more, HD2.out.2, HS.out, HD2.out.1]; rfl, hb5⟩
              case measure => have := HK.out; omega
            · have hki1 : ((k : Int) == (i : Int)) = false := by rw [beq_eq_false_iff_ne]; omega
              obtain ⟨e1, he1⟩ : ∃ t, entB (gd l i) (gd l k) = t := ⟨_, rfl⟩
              have HE1 := Lib.hid he1
              have HKI := Lib.hid hki
              clear he1
              go_wp2
              refine wp_region_ext (by kernel_rfl) (by kernel_rfl) ?_
              repeat (go_big_quiet_step ((go_at_call 86; with_reducible exact ext_c (cb (entailsS_any _ _ _ _ (gd l i) (gd l k) _ (q1.keep (ext_below _ _)) (q2.keep (ext_below _ _)) (q3.keep (ext_below _ _)) (q4.keep (ext_below _ _))) HE1.out))))
              refine wpQuiet_nil ?_
              intro w5 hb5
              replace q1 := q1.keep hb5; replace q2 := q2.keep hb5; replace q3 := q3.keep hb5; replace q4 := q4.keep hb5
              replace hz1 := cell_keep hb5 hz1; replace hz2 := cell_keep hb5 hz2; replace hp1 := cell_keep hb5 hp1; replace hp2 := cell_keep hb5 hp2
              have hzb5 : b0 < w5.heap.size := by have := hb5.size; omega
              have hW5 := bt hb hb5
              clear hb5
              cases e1 with
              | false =>
                have HS := Lib.hid (step_far HE1.out)
                go_wp2
                go_roundg (gk - 1)
                case rel => exact ⟨k + 1, true, by have := HK.out; omega, rfl, by go_num, by rw [need_more, HD2.out.2, HS.out, HD2.out.1]; rfl, hW5⟩
                case measure => have := HK.out; omega
              | true =>
                by_cases hlt : i < k
                · have hlt1 : (i : Int) < (k : Int) := by omega
                  obtain ⟨e2, he2⟩ : ∃ t, entB (gd l k) (gd l i) = t := ⟨_, rfl⟩
                  have HS := Lib.hid (And.intro he2 (show stepN l i k = e2 from (step_high HKI.out HE1.out hlt).trans he2))
                  clear he2
                  go_wp2
                  refine wp_region_ext (by kernel_rfl) (by kernel_rfl) ?_
                  repeat (go_big_quiet_step ((go_at_call 86; with_reducible exact ext_c (cb (entailsS_any _ _ _ _ (gd l k) (gd l i) _ (q3.keep (ext_below _ _)) (q4.keep (ext_below _ _)) (q1.keep (ext_below _ _)) (q2.keep (ext_below _ _))) HS.out.1))))
                  refine wpQuiet_nil ?_
                  intro w7 hb7
                  replace hb7 := bt hW5 hb7
                  go_wp2
                  go_roundg (gk - 1)
                  case rel => exact ⟨k + 1, e2, by have := HK.out; omega, rfl, by go_num, by rw [need_more, HD2.out.2, HS.out.2, HD2.out.1]; rfl, hb7⟩
                  case measure => have := HK.out; omega
                · have hlt1 : ¬ (i : Int) < (k : Int) := by omega
                  have HS := Lib.hid (step_low HKI.out HE1.out hlt)
                  go_wp2
                  refine wp_region_ext (by kernel_rfl) (by kernel_rfl) ?_
                  repeat (go_big_quiet_step (fail))
                  refine wpQuiet_nil ?_
                  intro w7 hb7
                  replace hb7 := bt hW5 hb7
                  go_wp2
                  go_roundg (gk - 1)
                  case rel => exact ⟨k + 1, false, by have := HK.out; omega, rfl, by go_num, by rw [need_more, HD2.out.2, HS.out, HD2.out.1]; rfl, hb7⟩
                  case measure => have := HK.out; omega
          · obtain rfl : k = l.length := by have := HK.out; omega
            have HN := Lib.hid (show needB l i = true by rw [needB, HC.out, HD2.out.1, HD2.out.2]; rfl)
            have HTY := Lib.hid (trim_yes HN.out)
            have HT := Lib.hid (HO.out.1.keep hb)
            have hvl := HT.out.lt
            have hbo := bt HO.out.2 hb
            go_wp2_with fail
            refine (l3Copy_any _ _ (gd l i) _ q1 q2 hse).mono ?_
            rintro e w5 ⟨z1, z2, rfl, p1, p2, hb5⟩
            obtain ⟨za1, zn1, zc1, rfl⟩ := p1.forms
            obtain ⟨za2, zn2, zc2, rfl⟩ := p2.forms
            have hbw := bt hbo hb5
            obtain ⟨xs, hr, hx⟩ := (HT.out.keep hb5).keep (below_alloc w5 (.cells #[.slice za1 zn1 zc1, .slice za2 zn2 zc2] 33))
            have hzz := hbw.size
            have hzo := hbo.size
            have HQ := Lib.hid (And.intro (And.intro p1 p2) hx)
            clear p1 p2 hx q1 q2
            go_wp2_with (at_builtin; refine app_cells (n := (trimTo l i).length) (m := 1) (news := [.slice za1 zn1 zc1, .slice za2 zn2 zc2]) rfl (.tmp 63) (.tmp 69) _ rfl (B := w.heap.size) ti_asn rfl hr rfl rfl (news2 _ _ _ _) (one2 _ _ _ _ _ _) (by omega) (by simp; omega) ?_; intro v' w7 hr7 hf7 hl7)
            have hbb := below_own hr hf7 (ba hbw _) (by simp; omega)
            have hTn := TR.app (m := [gd l i]) hr HQ.out.2 hf7 hr7 hl7 (fun i hi => by
              obtain rfl : i = 0 := by simpa using hi
              refine rd_asn_mk ((HQ.out.1.1.alloc _).more fun j _ hj => ⟨by omega, fun he => ?_⟩) ((HQ.out.1.2.alloc _).more fun j _ hj => ⟨by omega, fun he => ?_⟩)
              · have := hvl j he; omega
              · have := hvl j he; omega)
            rw [← HTY.out] at hTn
            have HTN := Lib.hid hTn
            clear hTn hr7 hf7 hl7 hr
            go_wp2
            go_roundg (gO - 1)
            case rel => exact ⟨i + 1, by have := HI.out; have := HGO.out; omega, by go_num, HTN.out, hbb⟩
            case measure => have := HI.out; have := HGO.out; omega
    · obtain rfl : i = l.length := by have := HI.out; omega
      have HTN := Lib.hid hT.rl.any
      clear hT
      go_wp2
      go_ret2
      exact ⟨_, rfl, by rw [HF.out.1]; exact HTN.out, hb⟩
theorem trimR_size {l : List Asn} (_h : Mk.size l ≤ 1048576) : Mk.size (trimR l) ≤ 1048576 := trim_size
end Go.Proofs.Ytapoillhgimdiaa
