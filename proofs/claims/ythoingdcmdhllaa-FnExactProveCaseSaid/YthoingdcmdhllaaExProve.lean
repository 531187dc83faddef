/- The walk of the law FnExactProveCase. (Printed by gen_exs.py.) -/
import Derived.Test.YthoingdcmdhllaaPrv3
import Derived.Test.YthoingdcmdhllaaCase15
import Derived.Test.YthoingdcmdhllaaData3
import Derived.Test.YthoingdcmdhllaaWeak
import Derived.Deep.RegionHeld3
import Derived.Deep.Cut
namespace Go.Proofs.Ythoingdcmdhllaa
open Go.RowKit

set_option maxRecDepth 100000 in
set_option maxHeartbeats 12800000 in
theorem fnExactProveCase_walk {S01 S02 S11 S12 S2 : Nat → Prop} (v01 v02 v11 v12 v2 : Value) (l0 : Asn) (l1 : Asn) (l2 : List Int) (w : World) (h01 : RL w S01 v01 l0.1) (h02 : RL w S02 v02 l0.2) (h11 : RL w S11 v11 l1.1) (h12 : RL w S12 v12 l1.2) (h2 : RL w S2 v2 l2) :
    Calls Try.prog 9 #[.agg #[v01, v02], .agg #[v11, v12], v2] w fun e w' => e = .returned (.bool true) ∧ Below w.heap.size w w' := by
  obtain ⟨va01, vc01, rfl⟩ := h01.form
  obtain ⟨va02, vc02, rfl⟩ := h02.form
  obtain ⟨va11, vc11, rfl⟩ := h11.form
  obtain ⟨va12, vc12, rfl⟩ := h12.form
  obtain ⟨va2, vc2, rfl⟩ := h2.form
  by_cases hn2 : l2.length ≤ 1048576
  rotate_left
  · go_enter Try.func9, Try.ntmps9
    go_wp2
    go_ret
    exact ⟨rfl, (by repeat (first | exact Below.refl _ _ | with_reducible assumption | exact below_alloc _ _ | (refine Below.setCell ?_ (by first | (simp; done) | (simp; omega) | omega) _) | apply bd | apply ba | apply be))⟩
  have hs2 : Mk.size l2 ≤ 1048576 := hn2
  have hBX : Below w.heap.size w ((w.alloc (.cells #[.slice va01 l0.1.length vc01, .slice va02 l0.2.length vc02] 54)).alloc (.cells #[.slice va11 l1.1.length vc11, .slice va12 l1.2.length vc12] 54)) := (by repeat (first | exact Below.refl _ _ | with_reducible assumption | exact below_alloc _ _ | (refine Below.setCell ?_ (by first | (simp; done) | (simp; omega) | omega) _) | apply bd | apply ba | apply be))
  have hsp0 : (1048576 : Int) < (Mk.size l0 : Nat) ∨ ((Mk.size l0 : Nat) : Int) ≤ (1048576 : Int) := by omega
  rcases hsp0 with hbig | hfit0
  · have HB := Lib.hid (szF_big hbig)
    clear hbig
    go_enter Try.func9, Try.ntmps9
    go_wp2_with fail
    refine (szAssertion_rl _ _ l0 _ _ (h01.keep (by repeat (first | exact Below.refl _ _ | with_reducible assumption | exact below_alloc _ _ | (refine Below.setCell ?_ (by first | (simp; done) | (simp; omega) | omega) _) | apply bd | apply ba | apply be))) (h02.keep (by repeat (first | exact Below.refl _ _ | with_reducible assumption | exact below_alloc _ _ | (refine Below.setCell ?_ (by first | (simp; done) | (simp; omega) | omega) _) | apply bd | apply ba | apply be))) (by omega) (by omega)).mono ?_
    rw [HB.out]
    rintro e z ⟨rfl, hb⟩
    go_wp2
    go_ret
    exact ⟨rfl, bt (by repeat (first | exact Below.refl _ _ | with_reducible assumption | exact below_alloc _ _ | (refine Below.setCell ?_ (by first | (simp; done) | (simp; omega) | omega) _) | apply bd | apply ba | apply be)) hb⟩
  have HS0 := Lib.hid (szF_fit hfit0)
  have hs0 : Mk.size l0 ≤ 1048576 := by omega
  have hnn0 : ¬ (1048576 : Int) - ((Mk.size l0 : Nat) : Int) < 0 := by omega
  have hsp1 : (1048576 : Int) - ((Mk.size l0 : Nat) : Int) < (Mk.size l1 : Nat) ∨ ((Mk.size l1 : Nat) : Int) ≤ (1048576 : Int) - ((Mk.size l0 : Nat) : Int) := by omega
  rcases hsp1 with hbig | hfit1
  · have HB := Lib.hid (szF_big hbig)
    clear hbig
    go_enter Try.func9, Try.ntmps9
    go_wp2_with fail
    refine (szAssertion_rl _ _ l0 _ _ (h01.keep (by repeat (first | exact Below.refl _ _ | with_reducible assumption | exact below_alloc _ _ | (refine Below.setCell ?_ (by first | (simp; done) | (simp; omega) | omega) _) | apply bd | apply ba | apply be))) (h02.keep (by repeat (first | exact Below.refl _ _ | with_reducible assumption | exact below_alloc _ _ | (refine Below.setCell ?_ (by first | (simp; done) | (simp; omega) | omega) _) | apply bd | apply ba | apply be))) (by omega) (by omega)).mono ?_
    rw [HS0.out]
    rintro e z0 ⟨rfl, hb⟩
    have hc01 := cell_keep hb (p := ⟨w.heap.size, 0, none⟩) (v := .slice va01 l0.1.length vc01) (by simp [go_sem])
    have hc02 := cell_keep hb (p := ⟨w.heap.size, 1, none⟩) (v := .slice va02 l0.2.length vc02) (by simp [go_sem])
    have hc11 := cell_keep hb (p := ⟨w.heap.size + 1, 0, none⟩) (v := .slice va11 l1.1.length vc11) (by simp [go_sem])
    have hc12 := cell_keep hb (p := ⟨w.heap.size + 1, 1, none⟩) (v := .slice va12 l1.2.length vc12) (by simp [go_sem])
    have hW : Below w.heap.size w z0 := bt (by repeat (first | exact Below.refl _ _ | with_reducible assumption | exact below_alloc _ _ | (refine Below.setCell ?_ (by first | (simp; done) | (simp; omega) | omega) _) | apply bd | apply ba | apply be)) hb
    clear hb
    go_wp2_with fail
    refine (szAssertion_rl _ _ l1 _ _ (h11.keep hW) (h12.keep hW) (by omega) (by omega)).mono ?_
    rw [HB.out]
    rintro e z ⟨rfl, hb⟩
    go_wp2
    go_ret
    exact ⟨rfl, bt hW hb⟩
  have HS1 := Lib.hid (szF_fit hfit1)
  have hs1 : Mk.size l1 ≤ 1048576 := by omega
  have hnn1 : ¬ (1048576 : Int) - ((Mk.size l0 : Nat) : Int) - ((Mk.size l1 : Nat) : Int) < 0 := by omega
  obtain ⟨D, hD⟩ : ∃ D, D = proveR l0 l1 l2 := ⟨_, rfl⟩
  have hsD : Mk.size (proveR l0 l1 l2) ≤ 1048576 := prove_size l0 l1 l2
  rw [← hD] at hsD
  obtain ⟨ok, hok⟩ : ∃ ok, ok = provB l0 l1 l2 := ⟨_, rfl⟩
  have hbne : (ok != ok) = false := by cases ok <;> rfl
  have hbeq : (ok == ok) = true := by cases ok <;> rfl
  have HD := Lib.hid (And.intro hD hok)
  clear hD hok
  clear hfit0 hfit1
  go_enter Try.func9, Try.ntmps9
  go_wp2_with fail
  refine (szAssertion_rl _ _ l0 _ _ (h01.keep (by repeat (first | exact Below.refl _ _ | with_reducible assumption | exact below_alloc _ _ | (refine Below.setCell ?_ (by first | (simp; done) | (simp; omega) | omega) _) | apply bd | apply ba | apply be))) (h02.keep (by repeat (first | exact Below.refl _ _ | with_reducible assumption | exact below_alloc _ _ | (refine Below.setCell ?_ (by first | (simp; done) | (simp; omega) | omega) _) | apply bd | apply ba | apply be))) (by omega) (by omega)).mono ?_
  rw [HS0.out]
  rintro e z0 ⟨rfl, hb⟩
  have hc01 := cell_keep hb (p := ⟨w.heap.size, 0, none⟩) (v := .slice va01 l0.1.length vc01) (by simp [go_sem])
  have hc02 := cell_keep hb (p := ⟨w.heap.size, 1, none⟩) (v := .slice va02 l0.2.length vc02) (by simp [go_sem])
  have hc11 := cell_keep hb (p := ⟨w.heap.size + 1, 0, none⟩) (v := .slice va11 l1.1.length vc11) (by simp [go_sem])
  have hc12 := cell_keep hb (p := ⟨w.heap.size + 1, 1, none⟩) (v := .slice va12 l1.2.length vc12) (by simp [go_sem])
  have hW : Below w.heap.size w z0 := bt (by repeat (first | exact Below.refl _ _ | with_reducible assumption | exact below_alloc _ _ | (refine Below.setCell ?_ (by first | (simp; done) | (simp; omega) | omega) _) | apply bd | apply ba | apply be)) hb
  clear hb
  go_wp2_with fail
  refine (szAssertion_rl _ _ l1 _ _ (h11.keep hW) (h12.keep hW) (by omega) (by omega)).mono ?_
  rw [HS1.out]
  rintro e z1 ⟨rfl, hb⟩
  replace hc01 := cell_keep hb hc01; replace hc02 := cell_keep hb hc02; replace hc11 := cell_keep hb hc11; replace hc12 := cell_keep hb hc12; replace hW := bt hW hb; clear hb
  go_upto_region 10 with fail
  go_cut [8, 9] from 20 (fun pp fl wc => ∃ (g : Nat) (y1 y2 : Value), pp = .pointer (some ⟨g, 0, none⟩) ∧ fl = .bool ok ∧ (wc.cell? ⟨g, 0, none⟩ = some y1 ∧ wc.cell? ⟨g, 1, none⟩ = some y2) ∧ (RL wc (fun _ => True) y1 D.1 ∧ RL wc (fun _ => True) y2 D.2) ∧ Below z1.heap.size z1 wc)
  case first =>
    have hszW := hW.size
    go_region_held3 (fun w' => (w'.cell? ⟨w.heap.size, 0, none⟩ = some (.slice va01 l0.1.length vc01) ∧ w'.cell? ⟨w.heap.size, 1, none⟩ = some (.slice va02 l0.2.length vc02)) ∧ (w'.cell? ⟨w.heap.size + 1, 0, none⟩ = some (.slice va11 l1.1.length vc11) ∧ w'.cell? ⟨w.heap.size + 1, 1, none⟩ = some (.slice va12 l1.2.length vc12)))
      (exact ⟨⟨cell_keep (by repeat (first | exact Below.refl _ _ | with_reducible assumption | exact below_alloc _ _ | (refine Below.setCell ?_ (by first | (simp; done) | (simp; omega) | omega) _) | apply bd | apply ba | apply be)) hc01, cell_keep (by repeat (first | exact Below.refl _ _ | with_reducible assumption | exact below_alloc _ _ | (refine Below.setCell ?_ (by first | (simp; done) | (simp; omega) | omega) _) | apply bd | apply ba | apply be)) hc02⟩, ⟨cell_keep (by repeat (first | exact Below.refl _ _ | with_reducible assumption | exact below_alloc _ _ | (refine Below.setCell ?_ (by first | (simp; done) | (simp; omega) | omega) _) | apply bd | apply ba | apply be)) hc11, cell_keep (by repeat (first | exact Below.refl _ _ | with_reducible assumption | exact below_alloc _ _ | (refine Below.setCell ?_ (by first | (simp; done) | (simp; omega) | omega) _) | apply bd | apply ba | apply be)) hc12⟩⟩)
      (first
        | (go_at_call 30; (with_reducible refine (toAssertion_rl (.slice va01 l0.1.length vc01) (.slice va02 l0.2.length vc02) l0 _ (h01.keep (bt hW (by repeat (first | exact Below.refl _ _ | with_reducible assumption | exact below_alloc _ _ | (refine Below.setCell ?_ (by first | (simp; done) | (simp; omega) | omega) _) | apply bd | apply ba | apply be)))) (h02.keep (bt hW (by repeat (first | exact Below.refl _ _ | with_reducible assumption | exact below_alloc _ _ | (refine Below.setCell ?_ (by first | (simp; done) | (simp; omega) | omega) _) | apply bd | apply ba | apply be)))) hs0).mono ?_); rintro e y0 ⟨r01, r02, rfl, ⟨_, _, oo01, oo02, _⟩, hb0'⟩; have q01 := oo01.read; have q02 := oo02.read; clear oo01 oo02; obtain ⟨ra01, rc01, rfl⟩ := q01.form; obtain ⟨ra02, rc02, rfl⟩ := q02.form; have hbp0 : Below z1.heap.size z1 y0 := bt (by repeat (first | exact Below.refl _ _ | with_reducible assumption | exact below_alloc _ _ | (refine Below.setCell ?_ (by first | (simp; done) | (simp; omega) | omega) _) | apply bd | apply ba | apply be)) hb0'; have hbs0 : Below z1.heap.size z1 y0 := hbp0; have hzz0 := hbp0.size; (first | (have hT0 : y0.heap[z1.heap.size]? = some (.cells #[.slice none 0 0, .slice none 0 0] 73 (0, 0)) := box_keep (heap_alloc_new z1 (.cells #[.slice none 0 0, .slice none 0 0] 73)) hb0'; have hl0 := box_lt hT0) | (have hT0 : y0.heap[z1.heap.size]? = some (.cells #[.slice none 0 0, .slice none 0 0] 73 (0, 0)) := box_keep (heap_alloc_new z1.drew (.cells #[.slice none 0 0, .slice none 0 0] 73)) hb0'; have hl0 := box_lt hT0) | skip))
        | (go_at_call 30; (with_reducible refine (toAssertion_rl (.slice va11 l1.1.length vc11) (.slice va12 l1.2.length vc12) l1 _ (h11.keep (bt hW (by repeat (first | exact Below.refl _ _ | with_reducible assumption | exact below_alloc _ _ | (refine Below.setCell ?_ (by first | (simp; done) | (simp; omega) | omega) _) | apply bd | apply ba | apply be)))) (h12.keep (bt hW (by repeat (first | exact Below.refl _ _ | with_reducible assumption | exact below_alloc _ _ | (refine Below.setCell ?_ (by first | (simp; done) | (simp; omega) | omega) _) | apply bd | apply ba | apply be)))) hs1).mono ?_); rintro e y1 ⟨r11, r12, rfl, ⟨_, _, oo11, oo12, _⟩, hb1'⟩; have q11 := oo11.read; have q12 := oo12.read; clear oo11 oo12; obtain ⟨ra11, rc11, rfl⟩ := q11.form; obtain ⟨ra12, rc12, rfl⟩ := q12.form; have hbp1 : Below y0.heap.size y0 y1 := bt (by repeat (first | exact Below.refl _ _ | with_reducible assumption | exact below_alloc _ _ | (refine Below.setCell ?_ (by first | (simp; done) | (simp; omega) | omega) _) | apply bd | apply ba | apply be)) hb1'; have hbs1 : Below z1.heap.size z1 y1 := bt hbs0 hbp1; have hzz1 := hbp1.size; replace q01 := q01.keep hbp1; replace q02 := q02.keep hbp1; (first | (have hT1 := box_keep hT0 hbp1; have hl1 := box_lt hT1) | (have hT1 : y1.heap[y0.heap.size]? = some (.cells #[.slice none 0 0, .slice none 0 0] 73 (0, 0)) := box_keep (heap_alloc_new y0 (.cells #[.slice none 0 0, .slice none 0 0] 73)) hb1'; have hl1 := box_lt hT1) | (have hT1 : y1.heap[y0.heap.size]? = some (.cells #[.slice none 0 0, .slice none 0 0] 73 (0, 0)) := box_keep (heap_alloc_new y0.drew (.cells #[.slice none 0 0, .slice none 0 0] 73)) hb1'; have hl1 := box_lt hT1) | skip))
        | (go_at_call 49; (with_reducible refine (toIntS_rl (.slice va2 l2.length vc2) l2 _ (h2.keep (bt hW (by repeat (first | exact Below.refl _ _ | with_reducible assumption | exact below_alloc _ _ | (refine Below.setCell ?_ (by first | (simp; done) | (simp; omega) | omega) _) | apply bd | apply ba | apply be)))) hs2).mono ?_); rintro e y2 ⟨r2, rfl, oo2, hb2'⟩; have q2 := oo2.read; clear oo2; obtain ⟨ra2, rc2, rfl⟩ := q2.form; have hbp2 : Below y1.heap.size y1 y2 := bt (by repeat (first | exact Below.refl _ _ | with_reducible assumption | exact below_alloc _ _ | (refine Below.setCell ?_ (by first | (simp; done) | (simp; omega) | omega) _) | apply bd | apply ba | apply be)) hb2'; have hbs2 : Below z1.heap.size z1 y2 := bt hbs1 hbp2; have hzz2 := hbp2.size; replace q01 := q01.keep hbp2; replace q02 := q02.keep hbp2; replace q11 := q11.keep hbp2; replace q12 := q12.keep hbp2; (first | (have hT2 := box_keep hT1 hbp2; have hl2 := box_lt hT2) | (have hT2 : y2.heap[y1.heap.size]? = some (.cells #[.slice none 0 0, .slice none 0 0] 73 (0, 0)) := box_keep (heap_alloc_new y1 (.cells #[.slice none 0 0, .slice none 0 0] 73)) hb2'; have hl2 := box_lt hT2) | (have hT2 : y2.heap[y1.heap.size]? = some (.cells #[.slice none 0 0, .slice none 0 0] 73 (0, 0)) := box_keep (heap_alloc_new y1.drew (.cells #[.slice none 0 0, .slice none 0 0] 73)) hb2'; have hl2 := box_lt hT2) | skip))
        | (go_at_call 48; go_must ((refine (proveS_any _ _ _ _ _ l0 l1 l2 _ (q01.keep (by repeat (first | exact Below.refl _ _ | with_reducible assumption | exact below_alloc _ _ | (refine Below.setCell ?_ (by first | (simp; done) | (simp; omega) | omega) _) | apply bd | apply ba | apply be))) (q02.keep (by repeat (first | exact Below.refl _ _ | with_reducible assumption | exact below_alloc _ _ | (refine Below.setCell ?_ (by first | (simp; done) | (simp; omega) | omega) _) | apply bd | apply ba | apply be))) (q11.keep (by repeat (first | exact Below.refl _ _ | with_reducible assumption | exact below_alloc _ _ | (refine Below.setCell ?_ (by first | (simp; done) | (simp; omega) | omega) _) | apply bd | apply ba | apply be))) (q12.keep (by repeat (first | exact Below.refl _ _ | with_reducible assumption | exact below_alloc _ _ | (refine Below.setCell ?_ (by first | (simp; done) | (simp; omega) | omega) _) | apply bd | apply ba | apply be))) (q2.keep (by repeat (first | exact Below.refl _ _ | with_reducible assumption | exact below_alloc _ _ | (refine Below.setCell ?_ (by first | (simp; done) | (simp; omega) | omega) _) | apply bd | apply ba | apply be)))).mono ?_); rw [← HD.out.1, ← HD.out.2]; rintro e y3 ⟨r31, r32, rfl, ⟨q31, q32⟩, hb3'⟩; obtain ⟨ra31, rc31, rfl⟩ := q31.form; obtain ⟨ra32, rc32, rfl⟩ := q32.form; have hbp3 : Below y2.heap.size y2 y3 := bt (by repeat (first | exact Below.refl _ _ | with_reducible assumption | exact below_alloc _ _ | (refine Below.setCell ?_ (by first | (simp; done) | (simp; omega) | omega) _) | apply bd | apply ba | apply be)) hb3'; have hbs3 : Below z1.heap.size z1 y3 := bt hbs2 hbp3; have hzz3 := hbp3.size; (first | (have hT3 := box_keep hT2 hbp3; have hl3 := box_lt hT3) | (have hT3 : y3.heap[y2.heap.size]? = some (.cells #[.slice none 0 0, .slice none 0 0] 73 (0, 0)) := box_keep (heap_alloc_new y2 (.cells #[.slice none 0 0, .slice none 0 0] 73)) hb3'; have hl3 := box_lt hT3) | (have hT3 : y3.heap[y2.heap.size]? = some (.cells #[.slice none 0 0, .slice none 0 0] 73 (0, 0)) := box_keep (heap_alloc_new y2.drew (.cells #[.slice none 0 0, .slice none 0 0] 73)) hb3'; have hl3 := box_lt hT3) | skip); (first | (have ht0 := box0 hT3; have ht1 := box1 hT3; have htz := boxz hT3) | skip))))
    all_goals
      have hWn := bt hW hbs3
      have HQ := Lib.hid (And.intro q31 q32)
      clear q01 q02 q11 q12 q2 q31 q32
      go_wp2
      go_meet
      case rel =>
        have q31 := HQ.out.1
        have q32 := HQ.out.2
        refine ⟨_, .slice ra31 D.1.length rc31, .slice ra32 D.2.length rc32, rfl, rfl, ⟨?_, ?_⟩, ⟨?_, ?_⟩, ?_⟩
        · first | exact (box_two _ _ ht0 ht1).1 | (simp; done) | (simp [go_sem]; done)
        · first | exact (box_two _ _ ht0 ht1).2 | (simp; done) | (simp [go_sem]; done)
        · first | (with_reducible refine (q31.set2 ?_ _ _).any; first | omega | (simp; done) | (simp; omega)) | exact (q31.keep (by repeat (first | exact Below.refl _ _ | with_reducible assumption | exact below_alloc _ _ | (refine Below.setCell ?_ (by first | (simp; done) | (simp; omega) | omega) _) | apply bd | apply ba | apply be))).any
        · first | (with_reducible refine (q32.set2 ?_ _ _).any; first | omega | (simp; done) | (simp; omega)) | exact (q32.keep (by repeat (first | exact Below.refl _ _ | with_reducible assumption | exact below_alloc _ _ | (refine Below.setCell ?_ (by first | (simp; done) | (simp; omega) | omega) _) | apply bd | apply ba | apply be))).any
        · first | (with_reducible refine Below.setCell (Below.setCell hbs3 ?_ _) ?_ _ <;> first | omega | (simp; done) | (simp; omega)) | exact bt hbs3 (by repeat (first | exact Below.refl _ _ | with_reducible assumption | exact below_alloc _ _ | (refine Below.setCell ?_ (by first | (simp; done) | (simp; omega) | omega) _) | apply bd | apply ba | apply be))
  case rest =>
    obtain ⟨wg, u1, u2, rfl, rfl, ⟨hw1, hw2⟩, ⟨ru1, ru2⟩, hb⟩ := hcut
    replace hc01 := cell_keep hb hc01
    replace hc02 := cell_keep hb hc02
    replace hc11 := cell_keep hb hc11
    replace hc12 := cell_keep hb hc12
    replace hW := bt hW hb
    clear hb
    replace ru1 := ru1.lt
    replace ru2 := ru2.lt
    have hwl : wg < wc.heap.size := World.block_lt_of_cell? wc _ hw1
    obtain ⟨ua1, uc1, rfl⟩ := ru1.form
    obtain ⟨ua2, uc2, rfl⟩ := ru2.form
    obtain ⟨s0, hs0e⟩ : ∃ s, s = wc.heap.size := ⟨_, rfl⟩
    rw [← hs0e] at ru1 ru2 hwl
    have hle : w.heap.size ≤ s0 := by have := hW.size; omega
    have hE0 : w.heap.size < s0 := by have := World.block_lt_of_cell? wc _ hc01; simp only at this; omega
    have hE1 : w.heap.size + 1 < s0 := by have := World.block_lt_of_cell? wc _ hc11; simp only at this; omega
    go_wp2_with fail
    refine (toAssertion_rl _ _ l0 _ (by exact h01.keep (bt hW (by repeat (first | exact Below.refl _ _ | with_reducible assumption | exact below_alloc _ _ | (refine Below.setCell ?_ (by first | (simp; done) | (simp; omega) | omega) _) | apply bd | apply ba | apply be)))) (by exact h02.keep (bt hW (by repeat (first | exact Below.refl _ _ | with_reducible assumption | exact below_alloc _ _ | (refine Below.setCell ?_ (by first | (simp; done) | (simp; omega) | omega) _) | apply bd | apply ba | apply be)))) hs0).mono ?_
    rintro e n0 ⟨x01, x02, rfl, ⟨f01, f02, ox01, ox02, nx0⟩, hb⟩
    obtain ⟨xa01, xc01, rfl⟩ := ox01.read.form
    obtain ⟨xa02, xc02, rfl⟩ := ox02.read.form
    have lx0 : ∀ k, k ∈ f01 ++ f02 → s0 ≤ k ∧ k < n0.heap.size := fun k hk => by
      rcases List.mem_append.1 hk with h | h
      · have := ox01.lt k h; first | (simp at this; omega) | omega
      · have := ox02.lt k h; first | (simp at this; omega) | omega
    replace ox01 := ox01.mono (Nat.zero_le _)
    replace ox02 := ox02.mono (Nat.zero_le _)
    have hn0 : s0 ≤ n0.heap.size := by have := hb.size; first | omega | (simp at this; omega)
    replace hc01 := cell_keep hb hc01
    replace hc02 := cell_keep hb hc02
    replace hc11 := cell_keep hb hc11
    replace hc12 := cell_keep hb hc12
    replace hw1 := cell_keep hb hw1
    replace hw2 := cell_keep hb hw2
    replace ru1 := ru1.keep hb
    replace ru2 := ru2.keep hb
    replace hW := bt hW hb
    clear hb
    have hm0_0 : w.heap.size < n0.heap.size := by omega
    have hm0_1 : w.heap.size + 1 < n0.heap.size := by omega
    have hmw_0 : wg < n0.heap.size := by omega
    go_wp2_with fail
    refine (toAssertion_rl _ _ l1 _ (by exact h11.keep (bt hW (by repeat (first | exact Below.refl _ _ | with_reducible assumption | exact below_alloc _ _ | (refine Below.setCell ?_ (by first | (simp; done) | (simp; omega) | omega) _) | apply bd | apply ba | apply be)))) (by exact h12.keep (bt hW (by repeat (first | exact Below.refl _ _ | with_reducible assumption | exact below_alloc _ _ | (refine Below.setCell ?_ (by first | (simp; done) | (simp; omega) | omega) _) | apply bd | apply ba | apply be)))) hs1).mono ?_
    rintro e n1 ⟨x11, x12, rfl, ⟨f11, f12, ox11, ox12, nx1⟩, hb⟩
    obtain ⟨xa11, xc11, rfl⟩ := ox11.read.form
    obtain ⟨xa12, xc12, rfl⟩ := ox12.read.form
    have lx1 : ∀ k, k ∈ f11 ++ f12 → n0.heap.size + 1 ≤ k ∧ k < n1.heap.size := fun k hk => by
      rcases List.mem_append.1 hk with h | h
      · have := ox11.lt k h; first | (simp at this; omega) | omega
      · have := ox12.lt k h; first | (simp at this; omega) | omega
    replace ox11 := ox11.mono (Nat.zero_le _)
    replace ox12 := ox12.mono (Nat.zero_le _)
    have hx01 := cell_keep hb (p := ⟨n0.heap.size, 0, none⟩) (v := .slice xa01 l0.1.length xc01) (by simp)
    have hx02 := cell_keep hb (p := ⟨n0.heap.size, 1, none⟩) (v := .slice xa02 l0.2.length xc02) (by simp)
    replace hb : Below n0.heap.size n0 n1 := bt (by repeat (first | exact Below.refl _ _ | with_reducible assumption | exact below_alloc _ _ | (refine Below.setCell ?_ (by first | (simp; done) | (simp; omega) | omega) _) | apply bd | apply ba | apply be)) hb
    have hn1 : n0.heap.size + 1 ≤ n1.heap.size := by have := World.block_lt_of_cell? n1 _ hx01; simp only at this; omega
    replace hc01 := cell_keep hb hc01
    replace hc02 := cell_keep hb hc02
    replace hc11 := cell_keep hb hc11
    replace hc12 := cell_keep hb hc12
    replace hw1 := cell_keep hb hw1
    replace hw2 := cell_keep hb hw2
    replace ru1 := ru1.keep hb
    replace ru2 := ru2.keep hb
    replace ox01 := ox01.keep hb
    replace ox02 := ox02.keep hb
    replace hW := bt hW hb
    clear hb
    have hm1_0 : w.heap.size < n1.heap.size := by omega
    have hm1_1 : w.heap.size + 1 < n1.heap.size := by omega
    have hmw_1 : wg < n1.heap.size := by omega
    have hmx1_0 : n0.heap.size < n1.heap.size := by omega
    go_wp2_with fail
    refine (toIntS_rl _ l2 _ (by exact h2.keep (bt hW (by repeat (first | exact Below.refl _ _ | with_reducible assumption | exact below_alloc _ _ | (refine Below.setCell ?_ (by first | (simp; done) | (simp; omega) | omega) _) | apply bd | apply ba | apply be)))) hs2).mono ?_
    rintro e n2 ⟨x2, rfl, ⟨f2, ox2, nx2⟩, hb⟩
    obtain ⟨xa2, xc2, rfl⟩ := ox2.read.form
    have lx2 : ∀ k, k ∈ f2 → n1.heap.size + 1 ≤ k ∧ k < n2.heap.size := fun k hk => by have := ox2.lt k hk; first | (simp at this; omega) | omega
    replace ox2 := ox2.mono (Nat.zero_le _)
    have hx11 := cell_keep hb (p := ⟨n1.heap.size, 0, none⟩) (v := .slice xa11 l1.1.length xc11) (by simp)
    have hx12 := cell_keep hb (p := ⟨n1.heap.size, 1, none⟩) (v := .slice xa12 l1.2.length xc12) (by simp)
    replace hb : Below n1.heap.size n1 n2 := bt (by repeat (first | exact Below.refl _ _ | with_reducible assumption | exact below_alloc _ _ | (refine Below.setCell ?_ (by first | (simp; done) | (simp; omega) | omega) _) | apply bd | apply ba | apply be)) hb
    have hn2 : n1.heap.size + 1 ≤ n2.heap.size := by have := World.block_lt_of_cell? n2 _ hx11; simp only at this; omega
    replace hc01 := cell_keep hb hc01
    replace hc02 := cell_keep hb hc02
    replace hc11 := cell_keep hb hc11
    replace hc12 := cell_keep hb hc12
    replace hw1 := cell_keep hb hw1
    replace hw2 := cell_keep hb hw2
    replace hx01 := cell_keep hb hx01
    replace hx02 := cell_keep hb hx02
    replace ru1 := ru1.keep hb
    replace ru2 := ru2.keep hb
    replace ox01 := ox01.keep hb
    replace ox02 := ox02.keep hb
    replace ox11 := ox11.keep hb
    replace ox12 := ox12.keep hb
    replace hW := bt hW hb
    clear hb
    have hm2_0 : w.heap.size < n2.heap.size := by omega
    have hm2_1 : w.heap.size + 1 < n2.heap.size := by omega
    have hmw_2 : wg < n2.heap.size := by omega
    have hmx2_0 : n0.heap.size < n2.heap.size := by omega
    have hmx2_1 : n1.heap.size < n2.heap.size := by omega
    go_wp2_with fail
    refine (proveI_any _ _ _ _ _ l0 l1 l2 _ (by exact ox01.read.keep (by repeat (first | exact Below.refl _ _ | with_reducible assumption | exact below_alloc _ _ | (refine Below.setCell ?_ (by first | (simp; done) | (simp; omega) | omega) _) | apply bd | apply ba | apply be))) (by exact ox02.read.keep (by repeat (first | exact Below.refl _ _ | with_reducible assumption | exact below_alloc _ _ | (refine Below.setCell ?_ (by first | (simp; done) | (simp; omega) | omega) _) | apply bd | apply ba | apply be))) (by exact ox11.read.keep (by repeat (first | exact Below.refl _ _ | with_reducible assumption | exact below_alloc _ _ | (refine Below.setCell ?_ (by first | (simp; done) | (simp; omega) | omega) _) | apply bd | apply ba | apply be))) (by exact ox12.read.keep (by repeat (first | exact Below.refl _ _ | with_reducible assumption | exact below_alloc _ _ | (refine Below.setCell ?_ (by first | (simp; done) | (simp; omega) | omega) _) | apply bd | apply ba | apply be))) (by exact ox2.read.keep (by repeat (first | exact Below.refl _ _ | with_reducible assumption | exact below_alloc _ _ | (refine Below.setCell ?_ (by first | (simp; done) | (simp; omega) | omega) _) | apply bd | apply ba | apply be)))).mono ?_
    rw [← HD.out.1, ← HD.out.2]
    rintro e gW ⟨g1, g2, rfl, ⟨fg1, fg2, og1, og2, ng⟩, hb⟩
    obtain ⟨ga1, gc1, rfl⟩ := og1.read.form
    obtain ⟨ga2, gc2, rfl⟩ := og2.read.form
    have lg : ∀ k, k ∈ fg1 ++ fg2 → n2.heap.size ≤ k ∧ k < gW.heap.size := fun k hk => by
      rcases List.mem_append.1 hk with h | h
      · have := og1.lt k h; first | (simp at this; omega) | omega
      · have := og2.lt k h; first | (simp at this; omega) | omega
    replace og1 := og1.mono (Nat.zero_le _)
    replace og2 := og2.mono (Nat.zero_le _)
    have hng : n2.heap.size ≤ gW.heap.size := by have := hb.size; omega
    replace hc01 := cell_keep hb hc01
    replace hc02 := cell_keep hb hc02
    replace hc11 := cell_keep hb hc11
    replace hc12 := cell_keep hb hc12
    replace hw1 := cell_keep hb hw1
    replace hw2 := cell_keep hb hw2
    replace hx01 := cell_keep hb hx01
    replace hx02 := cell_keep hb hx02
    replace hx11 := cell_keep hb hx11
    replace hx12 := cell_keep hb hx12
    replace ru1 := ru1.keep hb
    replace ru2 := ru2.keep hb
    replace ox01 := ox01.keep hb
    replace ox02 := ox02.keep hb
    replace ox11 := ox11.keep hb
    replace ox12 := ox12.keep hb
    replace ox2 := ox2.keep hb
    replace hW := bt hW hb
    clear hb
    have hmg_0 : w.heap.size < gW.heap.size := by omega
    have hmg_1 : w.heap.size + 1 < gW.heap.size := by omega
    have hmgw : wg < gW.heap.size := by omega
    have hmgx_0 : n0.heap.size < gW.heap.size := by omega
    have hmgx_1 : n1.heap.size < gW.heap.size := by omega
    go_wp2_with fail
    refine (cb (b := true) (eqCaseProof_rl _ _ _ _ D D _ (by exact og1.read.keep (by repeat (first | exact Below.refl _ _ | with_reducible assumption | exact below_alloc _ _ | (refine Below.setCell ?_ (by first | (simp; done) | (simp; omega) | omega) _) | apply bd | apply ba | apply be))) (by exact og2.read.keep (by repeat (first | exact Below.refl _ _ | with_reducible assumption | exact below_alloc _ _ | (refine Below.setCell ?_ (by first | (simp; done) | (simp; omega) | omega) _) | apply bd | apply ba | apply be))) (by exact ru1.keep (by repeat (first | exact Below.refl _ _ | with_reducible assumption | exact below_alloc _ _ | (refine Below.setCell ?_ (by first | (simp; done) | (simp; omega) | omega) _) | apply bd | apply ba | apply be))) (by exact ru2.keep (by repeat (first | exact Below.refl _ _ | with_reducible assumption | exact below_alloc _ _ | (refine Below.setCell ?_ (by first | (simp; done) | (simp; omega) | omega) _) | apply bd | apply ba | apply be)))) (by simp)).mono ?_
    rintro e e0 ⟨rfl, hb⟩
    have hg1 := cell_keep hb (p := ⟨gW.heap.size, 0, none⟩) (v := .slice ga1 D.1.length gc1) (by simp)
    have hg2 := cell_keep hb (p := ⟨gW.heap.size, 1, none⟩) (v := .slice ga2 D.2.length gc2) (by simp)
    replace hb : Below gW.heap.size gW e0 := bt (by repeat (first | exact Below.refl _ _ | with_reducible assumption | exact below_alloc _ _ | (refine Below.setCell ?_ (by first | (simp; done) | (simp; omega) | omega) _) | apply bd | apply ba | apply be)) hb
    replace hc01 := cell_keep hb hc01
    replace hc02 := cell_keep hb hc02
    replace hc11 := cell_keep hb hc11
    replace hc12 := cell_keep hb hc12
    replace hw1 := cell_keep hb hw1
    replace hw2 := cell_keep hb hw2
    replace hx01 := cell_keep hb hx01
    replace hx02 := cell_keep hb hx02
    replace hx11 := cell_keep hb hx11
    replace hx12 := cell_keep hb hx12
    replace ru1 := ru1.keep hb
    replace ru2 := ru2.keep hb
    replace ox01 := ox01.keep hb
    replace ox02 := ox02.keep hb
    replace ox11 := ox11.keep hb
    replace ox12 := ox12.keep hb
    replace ox2 := ox2.keep hb
    replace og1 := og1.keep hb
    replace og2 := og2.keep hb
    replace hW := bt hW hb
    clear hb
    go_wp2
    go_region_held3 (fun w' => (w'.cell? ⟨w.heap.size, 0, none⟩ = some (.slice va01 l0.1.length vc01) ∧ w'.cell? ⟨w.heap.size, 1, none⟩ = some (.slice va02 l0.2.length vc02)) ∧ (w'.cell? ⟨n0.heap.size, 0, none⟩ = some (.slice xa01 l0.1.length xc01) ∧ w'.cell? ⟨n0.heap.size, 1, none⟩ = some (.slice xa02 l0.2.length xc02)))
      (exact ⟨⟨cell_keep (by repeat (first | exact Below.refl _ _ | with_reducible assumption | exact below_alloc _ _ | (refine Below.setCell ?_ (by first | (simp; done) | (simp; omega) | omega) _) | apply bd | apply ba | apply be)) hc01, cell_keep (by repeat (first | exact Below.refl _ _ | with_reducible assumption | exact below_alloc _ _ | (refine Below.setCell ?_ (by first | (simp; done) | (simp; omega) | omega) _) | apply bd | apply ba | apply be)) hc02⟩, ⟨cell_keep (by repeat (first | exact Below.refl _ _ | with_reducible assumption | exact below_alloc _ _ | (refine Below.setCell ?_ (by first | (simp; done) | (simp; omega) | omega) _) | apply bd | apply ba | apply be)) hx01, cell_keep (by repeat (first | exact Below.refl _ _ | with_reducible assumption | exact below_alloc _ _ | (refine Below.setCell ?_ (by first | (simp; done) | (simp; omega) | omega) _) | apply bd | apply ba | apply be)) hx02⟩⟩)
      (first
        | (go_at_call 30; go_must (refine (toAssertion_rl _ _ l0 _ (h01.keep (bt hW (by repeat (first | exact Below.refl _ _ | with_reducible assumption | exact below_alloc _ _ | (refine Below.setCell ?_ (by first | (simp; done) | (simp; omega) | omega) _) | apply bd | apply ba | apply be)))) (h02.keep (bt hW (by repeat (first | exact Below.refl _ _ | with_reducible assumption | exact below_alloc _ _ | (refine Below.setCell ?_ (by first | (simp; done) | (simp; omega) | omega) _) | apply bd | apply ba | apply be)))) hs0).mono ?_; rintro e fW ⟨s1, s2, rfl, ⟨_, _, os1, os2, _⟩, hb9'⟩; have qs1 := os1.read; have qs2 := os2.read; clear os1 os2; obtain ⟨sa1, sc1, rfl⟩ := qs1.form; obtain ⟨sa2, sc2, rfl⟩ := qs2.form; have hb9 : Below e0.heap.size e0 fW := bt (by repeat (first | exact Below.refl _ _ | with_reducible assumption | exact below_alloc _ _ | (refine Below.setCell ?_ (by first | (simp; done) | (simp; omega) | omega) _) | apply bd | apply ba | apply be)) hb9'))
        | (go_at_call 33; go_must (refine (cb (b := true) (eqAssertion_rl _ _ _ _ l0 l0 _ (ox01.read.keep (by repeat (first | exact Below.refl _ _ | with_reducible assumption | exact below_alloc _ _ | (refine Below.setCell ?_ (by first | (simp; done) | (simp; omega) | omega) _) | apply bd | apply ba | apply be))) (ox02.read.keep (by repeat (first | exact Below.refl _ _ | with_reducible assumption | exact below_alloc _ _ | (refine Below.setCell ?_ (by first | (simp; done) | (simp; omega) | omega) _) | apply bd | apply ba | apply be))) (qs1.keep (by first | exact Below.refl _ _ | exact below_drew _)) (qs2.keep (by first | exact Below.refl _ _ | exact below_drew _))) (by simp)).mono ?_; rintro e t0w ⟨rfl, hbq'⟩; have hb : Below e0.heap.size e0 t0w := bt (bt hb9 (by repeat (first | exact Below.refl _ _ | with_reducible assumption | exact below_alloc _ _ | (refine Below.setCell ?_ (by first | (simp; done) | (simp; omega) | omega) _) | apply bd | apply ba | apply be))) hbq')))
    all_goals
      clear hb9 hb9' hbq' qs1 qs2
      replace hc01 := cell_keep hb hc01
      replace hc02 := cell_keep hb hc02
      replace hc11 := cell_keep hb hc11
      replace hc12 := cell_keep hb hc12
      replace hw1 := cell_keep hb hw1
      replace hw2 := cell_keep hb hw2
      replace hx01 := cell_keep hb hx01
      replace hx02 := cell_keep hb hx02
      replace hx11 := cell_keep hb hx11
      replace hx12 := cell_keep hb hx12
      replace hg1 := cell_keep hb hg1
      replace hg2 := cell_keep hb hg2
      replace ru1 := ru1.keep hb
      replace ru2 := ru2.keep hb
      replace ox01 := ox01.keep hb
      replace ox02 := ox02.keep hb
      replace ox11 := ox11.keep hb
      replace ox12 := ox12.keep hb
      replace ox2 := ox2.keep hb
      replace og1 := og1.keep hb
      replace og2 := og2.keep hb
      replace hW := bt hW hb
      clear hb
      go_wp2
      go_region_held3 (fun w' => (w'.cell? ⟨w.heap.size + 1, 0, none⟩ = some (.slice va11 l1.1.length vc11) ∧ w'.cell? ⟨w.heap.size + 1, 1, none⟩ = some (.slice va12 l1.2.length vc12)) ∧ (w'.cell? ⟨n1.heap.size, 0, none⟩ = some (.slice xa11 l1.1.length xc11) ∧ w'.cell? ⟨n1.heap.size, 1, none⟩ = some (.slice xa12 l1.2.length xc12)))
        (exact ⟨⟨cell_keep (by repeat (first | exact Below.refl _ _ | with_reducible assumption | exact below_alloc _ _ | (refine Below.setCell ?_ (by first | (simp; done) | (simp; omega) | omega) _) | apply bd | apply ba | apply be)) hc11, cell_keep (by repeat (first | exact Below.refl _ _ | with_reducible assumption | exact below_alloc _ _ | (refine Below.setCell ?_ (by first | (simp; done) | (simp; omega) | omega) _) | apply bd | apply ba | apply be)) hc12⟩, ⟨cell_keep (by repeat (first | exact Below.refl _ _ | with_reducible assumption | exact below_alloc _ _ | (refine Below.setCell ?_ (by first | (simp; done) | (simp; omega) | omega) _) | apply bd | apply ba | apply be)) hx11, cell_keep (by repeat (first | exact Below.refl _ _ | with_reducible assumption | exact below_alloc _ _ | (refine Below.setCell ?_ (by first | (simp; done) | (simp; omega) | omega) _) | apply bd | apply ba | apply be)) hx12⟩⟩)
        (first
          | (go_at_call 30; go_must (refine (toAssertion_rl _ _ l1 _ (h11.keep (bt hW (by repeat (first | exact Below.refl _ _ | with_reducible assumption | exact below_alloc _ _ | (refine Below.setCell ?_ (by first | (simp; done) | (simp; omega) | omega) _) | apply bd | apply ba | apply be)))) (h12.keep (bt hW (by repeat (first | exact Below.refl _ _ | with_reducible assumption | exact below_alloc _ _ | (refine Below.setCell ?_ (by first | (simp; done) | (simp; omega) | omega) _) | apply bd | apply ba | apply be)))) hs1).mono ?_; rintro e fW ⟨s1, s2, rfl, ⟨_, _, os1, os2, _⟩, hb9'⟩; have qs1 := os1.read; have qs2 := os2.read; clear os1 os2; obtain ⟨sa1, sc1, rfl⟩ := qs1.form; obtain ⟨sa2, sc2, rfl⟩ := qs2.form; have hb9 : Below t0w.heap.size t0w fW := bt (by repeat (first | exact Below.refl _ _ | with_reducible assumption | exact below_alloc _ _ | (refine Below.setCell ?_ (by first | (simp; done) | (simp; omega) | omega) _) | apply bd | apply ba | apply be)) hb9'))
          | (go_at_call 33; go_must (refine (cb (b := true) (eqAssertion_rl _ _ _ _ l1 l1 _ (ox11.read.keep (by repeat (first | exact Below.refl _ _ | with_reducible assumption | exact below_alloc _ _ | (refine Below.setCell ?_ (by first | (simp; done) | (simp; omega) | omega) _) | apply bd | apply ba | apply be))) (ox12.read.keep (by repeat (first | exact Below.refl _ _ | with_reducible assumption | exact below_alloc _ _ | (refine Below.setCell ?_ (by first | (simp; done) | (simp; omega) | omega) _) | apply bd | apply ba | apply be))) (qs1.keep (by first | exact Below.refl _ _ | exact below_drew _)) (qs2.keep (by first | exact Below.refl _ _ | exact below_drew _))) (by simp)).mono ?_; rintro e t1w ⟨rfl, hbq'⟩; have hb : Below t0w.heap.size t0w t1w := bt (bt hb9 (by repeat (first | exact Below.refl _ _ | with_reducible assumption | exact below_alloc _ _ | (refine Below.setCell ?_ (by first | (simp; done) | (simp; omega) | omega) _) | apply bd | apply ba | apply be))) hbq')))
      all_goals
        clear hb9 hb9' hbq' qs1 qs2
        replace hc01 := cell_keep hb hc01
        replace hc02 := cell_keep hb hc02
        replace hc11 := cell_keep hb hc11
        replace hc12 := cell_keep hb hc12
        replace hw1 := cell_keep hb hw1
        replace hw2 := cell_keep hb hw2
        replace hx01 := cell_keep hb hx01
        replace hx02 := cell_keep hb hx02
        replace hx11 := cell_keep hb hx11
        replace hx12 := cell_keep hb hx12
        replace hg1 := cell_keep hb hg1
        replace hg2 := cell_keep hb hg2
        replace ru1 := ru1.keep hb
        replace ru2 := ru2.keep hb
        replace ox01 := ox01.keep hb
        replace ox02 := ox02.keep hb
        replace ox11 := ox11.keep hb
        replace ox12 := ox12.keep hb
        replace ox2 := ox2.keep hb
        replace og1 := og1.keep hb
        replace og2 := og2.keep hb
        replace hW := bt hW hb
        clear hb
        go_wp2_with fail
        refine (toIntS_rl _ l2 _ (h2.keep hW) hs2).mono ?_
        rintro e fW ⟨s1, rfl, os1, hb⟩
        obtain ⟨sa1, sc1, rfl⟩ := os1.form
        replace hc01 := cell_keep hb hc01
        replace hc02 := cell_keep hb hc02
        replace hc11 := cell_keep hb hc11
        replace hc12 := cell_keep hb hc12
        replace hw1 := cell_keep hb hw1
        replace hw2 := cell_keep hb hw2
        replace hx01 := cell_keep hb hx01
        replace hx02 := cell_keep hb hx02
        replace hx11 := cell_keep hb hx11
        replace hx12 := cell_keep hb hx12
        replace hg1 := cell_keep hb hg1
        replace hg2 := cell_keep hb hg2
        replace ru1 := ru1.keep hb
        replace ru2 := ru2.keep hb
        replace ox01 := ox01.keep hb
        replace ox02 := ox02.keep hb
        replace ox11 := ox11.keep hb
        replace ox12 := ox12.keep hb
        replace ox2 := ox2.keep hb
        replace og1 := og1.keep hb
        replace og2 := og2.keep hb
        replace hW := bt hW hb
        clear hb
        go_wp2_with fail
        refine (cb (b := true) (eqIntS_rl _ _ l2 l2 _ ox2.read os1.read) (by simp)).mono ?_
        rintro e t2w ⟨rfl, hb⟩
        replace hc01 := cell_keep hb hc01
        replace hc02 := cell_keep hb hc02
        replace hc11 := cell_keep hb hc11
        replace hc12 := cell_keep hb hc12
        replace hw1 := cell_keep hb hw1
        replace hw2 := cell_keep hb hw2
        replace hx01 := cell_keep hb hx01
        replace hx02 := cell_keep hb hx02
        replace hx11 := cell_keep hb hx11
        replace hx12 := cell_keep hb hx12
        replace hg1 := cell_keep hb hg1
        replace hg2 := cell_keep hb hg2
        replace ru1 := ru1.keep hb
        replace ru2 := ru2.keep hb
        replace ox01 := ox01.keep hb
        replace ox02 := ox02.keep hb
        replace ox11 := ox11.keep hb
        replace ox12 := ox12.keep hb
        replace ox2 := ox2.keep hb
        replace og1 := og1.keep hb
        replace og2 := og2.keep hb
        replace hW := bt hW hb
        clear hb os1
        go_wp2_with fail
        refine (markAssertion_rl 0 _ _ l0 f01 f02 (1) _ ox01 ox02 nx0 (by omega) (by omega) hs0).mono ?_
        rintro e k0w ⟨rfl, _, _, hf⟩
        replace hW := hW.trans (hf.below hW.size fun k hk hm => by have := (lx0 k hm).1; omega)
        replace ru1 := ru1.kept hf (fun k _ h hm => by have := (lx0 k hm).1; have h2 : k < s0 := h; omega)
        replace ru2 := ru2.kept hf (fun k _ h hm => by have := (lx0 k hm).1; have h2 : k < s0 := h; omega)
        replace ox11 := ox11.okept hf (fun k hk hm => by have := lx0 k hm; have := lx1 k (List.mem_append_left _ hk); omega)
        replace ox12 := ox12.okept hf (fun k hk hm => by have := lx0 k hm; have := lx1 k (List.mem_append_right _ hk); omega)
        replace ox2 := ox2.okept hf (fun k hk hm => by have := lx0 k hm; have := lx2 k (hk); omega)
        replace og1 := og1.okept hf (fun k hk hm => by have := lx0 k hm; have := lg k (List.mem_append_left _ hk); omega)
        replace og2 := og2.okept hf (fun k hk hm => by have := lx0 k hm; have := lg k (List.mem_append_right _ hk); omega)
        replace hc01 := hf.cell (fun hm => by have := lx0 (w.heap.size) hm; omega) hc01
        replace hc02 := hf.cell (fun hm => by have := lx0 (w.heap.size) hm; omega) hc02
        replace hc11 := hf.cell (fun hm => by have := lx0 (w.heap.size + 1) hm; omega) hc11
        replace hc12 := hf.cell (fun hm => by have := lx0 (w.heap.size + 1) hm; omega) hc12
        replace hw1 := hf.cell (fun hm => by have := lx0 (wg) hm; omega) hw1
        replace hw2 := hf.cell (fun hm => by have := lx0 (wg) hm; omega) hw2
        replace hx11 := hf.cell (fun hm => by have := lx0 (n1.heap.size) hm; omega) hx11
        replace hx12 := hf.cell (fun hm => by have := lx0 (n1.heap.size) hm; omega) hx12
        replace hg1 := hf.cell (fun hm => by have := lx0 (gW.heap.size) hm; omega) hg1
        replace hg2 := hf.cell (fun hm => by have := lx0 (gW.heap.size) hm; omega) hg2
        clear hf ox01 ox02 hx01 hx02
        have hcl0 := Mk.le l0
        go_wp2_with fail
        refine (markAssertion_rl 0 _ _ l1 f11 f12 (1 + ((Mk.cnt l0 : Nat) : Int)) _ ox11 ox12 nx1 (by omega) (by omega) hs1).mono ?_
        rintro e k1w ⟨rfl, _, _, hf⟩
        replace hW := hW.trans (hf.below hW.size fun k hk hm => by have := (lx1 k hm).1; omega)
        replace ru1 := ru1.kept hf (fun k _ h hm => by have := (lx1 k hm).1; have h2 : k < s0 := h; omega)
        replace ru2 := ru2.kept hf (fun k _ h hm => by have := (lx1 k hm).1; have h2 : k < s0 := h; omega)
        replace ox2 := ox2.okept hf (fun k hk hm => by have := lx1 k hm; have := lx2 k (hk); omega)
        replace og1 := og1.okept hf (fun k hk hm => by have := lx1 k hm; have := lg k (List.mem_append_left _ hk); omega)
        replace og2 := og2.okept hf (fun k hk hm => by have := lx1 k hm; have := lg k (List.mem_append_right _ hk); omega)
        replace hc01 := hf.cell (fun hm => by have := lx1 (w.heap.size) hm; omega) hc01
        replace hc02 := hf.cell (fun hm => by have := lx1 (w.heap.size) hm; omega) hc02
        replace hc11 := hf.cell (fun hm => by have := lx1 (w.heap.size + 1) hm; omega) hc11
        replace hc12 := hf.cell (fun hm => by have := lx1 (w.heap.size + 1) hm; omega) hc12
        replace hw1 := hf.cell (fun hm => by have := lx1 (wg) hm; omega) hw1
        replace hw2 := hf.cell (fun hm => by have := lx1 (wg) hm; omega) hw2
        replace hg1 := hf.cell (fun hm => by have := lx1 (gW.heap.size) hm; omega) hg1
        replace hg2 := hf.cell (fun hm => by have := lx1 (gW.heap.size) hm; omega) hg2
        clear hf ox11 ox12 hx11 hx12
        have hcl1 := Mk.le l1
        go_wp2_with fail
        refine (markIntS_rl 0 _ l2 f2 (1 + ((Mk.cnt l0 : Nat) : Int) + ((Mk.cnt l1 : Nat) : Int)) _ ox2 nx2 (by omega) (by omega) hs2).mono ?_
        rintro e k2w ⟨rfl, _, hf⟩
        replace hW := hW.trans (hf.below hW.size fun k hk hm => by have := (lx2 k hm).1; omega)
        replace ru1 := ru1.kept hf (fun k _ h hm => by have := (lx2 k hm).1; have h2 : k < s0 := h; omega)
        replace ru2 := ru2.kept hf (fun k _ h hm => by have := (lx2 k hm).1; have h2 : k < s0 := h; omega)
        replace og1 := og1.okept hf (fun k hk hm => by have := lx2 k hm; have := lg k (List.mem_append_left _ hk); omega)
        replace og2 := og2.okept hf (fun k hk hm => by have := lx2 k hm; have := lg k (List.mem_append_right _ hk); omega)
        replace hc01 := hf.cell (fun hm => by have := lx2 (w.heap.size) hm; omega) hc01
        replace hc02 := hf.cell (fun hm => by have := lx2 (w.heap.size) hm; omega) hc02
        replace hc11 := hf.cell (fun hm => by have := lx2 (w.heap.size + 1) hm; omega) hc11
        replace hc12 := hf.cell (fun hm => by have := lx2 (w.heap.size + 1) hm; omega) hc12
        replace hw1 := hf.cell (fun hm => by have := lx2 (wg) hm; omega) hw1
        replace hw2 := hf.cell (fun hm => by have := lx2 (wg) hm; omega) hw2
        replace hg1 := hf.cell (fun hm => by have := lx2 (gW.heap.size) hm; omega) hg1
        replace hg2 := hf.cell (fun hm => by have := lx2 (gW.heap.size) hm; omega) hg2
        clear hf ox2
        have hcl2 := Mk.le l2
        have hk0 : ¬ 1 + ((Mk.cnt l0 : Nat) : Int) + ((Mk.cnt l1 : Nat) : Int) + ((Mk.cnt l2 : Nat) : Int) < 0 := by omega
        go_wp2_with fail
        refine (cb (b := true) (eqCaseProof_rl _ _ _ _ D D _ og1.read og2.read ru1 ru2) (by simp)).mono ?_
        rintro e e1 ⟨rfl, hb⟩
        replace hc01 := cell_keep hb hc01
        replace hc02 := cell_keep hb hc02
        replace hc11 := cell_keep hb hc11
        replace hc12 := cell_keep hb hc12
        replace hw1 := cell_keep hb hw1
        replace hw2 := cell_keep hb hw2
        replace hg1 := cell_keep hb hg1
        replace hg2 := cell_keep hb hg2
        replace ru1 := ru1.keep hb
        replace ru2 := ru2.keep hb
        replace og1 := og1.keep hb
        replace og2 := og2.keep hb
        replace hW := bt hW hb
        clear hb
        go_wp2_with fail
        refine (markCaseProof_rl 0 _ _ D fg1 fg2 1 _ og1 og2 ng (by omega) (by omega) hsD).mono ?_
        rintro e mW ⟨rfl, om1, om2, hf⟩
        replace hW := hW.trans (hf.below hW.size fun k hk hm => by have := (lg k hm).1; omega)
        replace ru1 := ru1.kept hf (fun k _ h hm => by have := (lg k hm).1; have h2 : k < s0 := h; omega)
        replace ru2 := ru2.kept hf (fun k _ h hm => by have := (lg k hm).1; have h2 : k < s0 := h; omega)
        replace hc01 := hf.cell (fun hm => by have := lg (w.heap.size) hm; omega) hc01
        replace hc02 := hf.cell (fun hm => by have := lg (w.heap.size) hm; omega) hc02
        replace hc11 := hf.cell (fun hm => by have := lg (w.heap.size + 1) hm; omega) hc11
        replace hc12 := hf.cell (fun hm => by have := lg (w.heap.size + 1) hm; omega) hc12
        replace hw1 := hf.cell (fun hm => by have := lg (wg) hm; omega) hw1
        replace hw2 := hf.cell (fun hm => by have := lg (wg) hm; omega) hw2
        replace hg1 := hf.cell (fun hm => by have := lg (gW.heap.size) hm; omega) hg1
        replace hg2 := hf.cell (fun hm => by have := lg (gW.heap.size) hm; omega) hg2
        clear hf og1 og2
        have hcD := Mk.le D
        have hk1 : ¬ 1 + ((Mk.cnt D : Nat) : Int) < 0 := by omega
        go_wp2_with fail
        refine (heldCaseProof_rl _ _ D 1 _ om1.read om2.read (by omega) (by omega) hsD).mono ?_
        rintro e h0W ⟨rfl, hb⟩
        replace hc01 := cell_keep hb hc01
        replace hc02 := cell_keep hb hc02
        replace hc11 := cell_keep hb hc11
        replace hc12 := cell_keep hb hc12
        replace hw1 := cell_keep hb hw1
        replace hw2 := cell_keep hb hw2
        replace hg1 := cell_keep hb hg1
        replace hg2 := cell_keep hb hg2
        replace ru1 := ru1.keep hb
        replace ru2 := ru2.keep hb
        replace om1 := om1.keep hb
        replace om2 := om2.keep hb
        replace hW := bt hW hb
        clear hb
        have HKP := Lib.hid (And.intro hw1 (And.intro hw2 (And.intro hg1 (And.intro hg2 (And.intro ru1 (And.intro ru2 (And.intro om1 om2)))))))
        clear hw1 hw2 hg1 hg2 ru1 ru2 om1 om2 lx0 lx1 lx2 lg hng hk0 hcD hn0 hn1 hn2 hcl0 hcl1 hcl2 hm0_0 hm0_1 hm1_0 hm1_1 hm2_0 hm2_1 hmg_0 hmg_1 hmgx_0 hmgx_1 hmx1_0 hmx2_0 hmx2_1 nx0 nx1 nx2 ng hmw_0 hmw_1 hmw_2 hmgw hwl
        go_upto_region 37 with fail
        go_cut [18, 19] from 20 (fun pp fl wc => ∃ (g : Nat) (y1 y2 : Value), pp = .pointer (some ⟨g, 0, none⟩) ∧ fl = .bool ok ∧ (wc.cell? ⟨g, 0, none⟩ = some y1 ∧ wc.cell? ⟨g, 1, none⟩ = some y2) ∧ (RL wc (fun _ => True) y1 D.1 ∧ RL wc (fun _ => True) y2 D.2) ∧ Below h0W.heap.size h0W wc)
        case first =>
          have hszW := hW.size
          go_region_held3 (fun w' => (w'.cell? ⟨w.heap.size, 0, none⟩ = some (.slice va01 l0.1.length vc01) ∧ w'.cell? ⟨w.heap.size, 1, none⟩ = some (.slice va02 l0.2.length vc02)) ∧ (w'.cell? ⟨w.heap.size + 1, 0, none⟩ = some (.slice va11 l1.1.length vc11) ∧ w'.cell? ⟨w.heap.size + 1, 1, none⟩ = some (.slice va12 l1.2.length vc12)))
            (exact ⟨⟨cell_keep (by repeat (first | exact Below.refl _ _ | with_reducible assumption | exact below_alloc _ _ | (refine Below.setCell ?_ (by first | (simp; done) | (simp; omega) | omega) _) | apply bd | apply ba | apply be)) hc01, cell_keep (by repeat (first | exact Below.refl _ _ | with_reducible assumption | exact below_alloc _ _ | (refine Below.setCell ?_ (by first | (simp; done) | (simp; omega) | omega) _) | apply bd | apply ba | apply be)) hc02⟩, ⟨cell_keep (by repeat (first | exact Below.refl _ _ | with_reducible assumption | exact below_alloc _ _ | (refine Below.setCell ?_ (by first | (simp; done) | (simp; omega) | omega) _) | apply bd | apply ba | apply be)) hc11, cell_keep (by repeat (first | exact Below.refl _ _ | with_reducible assumption | exact below_alloc _ _ | (refine Below.setCell ?_ (by first | (simp; done) | (simp; omega) | omega) _) | apply bd | apply ba | apply be)) hc12⟩⟩)
            (first
              | (go_at_call 30; (with_reducible refine (toAssertion_rl (.slice va01 l0.1.length vc01) (.slice va02 l0.2.length vc02) l0 _ (h01.keep (bt hW (by repeat (first | exact Below.refl _ _ | with_reducible assumption | exact below_alloc _ _ | (refine Below.setCell ?_ (by first | (simp; done) | (simp; omega) | omega) _) | apply bd | apply ba | apply be)))) (h02.keep (bt hW (by repeat (first | exact Below.refl _ _ | with_reducible assumption | exact below_alloc _ _ | (refine Below.setCell ?_ (by first | (simp; done) | (simp; omega) | omega) _) | apply bd | apply ba | apply be)))) hs0).mono ?_); rintro e y0 ⟨r01, r02, rfl, ⟨_, _, oo01, oo02, _⟩, hb0'⟩; have q01 := oo01.read; have q02 := oo02.read; clear oo01 oo02; obtain ⟨ra01, rc01, rfl⟩ := q01.form; obtain ⟨ra02, rc02, rfl⟩ := q02.form; have hbp0 : Below h0W.heap.size h0W y0 := bt (by repeat (first | exact Below.refl _ _ | with_reducible assumption | exact below_alloc _ _ | (refine Below.setCell ?_ (by first | (simp; done) | (simp; omega) | omega) _) | apply bd | apply ba | apply be)) hb0'; have hbs0 : Below h0W.heap.size h0W y0 := hbp0; have hzz0 := hbp0.size; (first | (have hT0 : y0.heap[h0W.heap.size]? = some (.cells #[.slice none 0 0, .slice none 0 0] 73 (0, 0)) := box_keep (heap_alloc_new h0W (.cells #[.slice none 0 0, .slice none 0 0] 73)) hb0'; have hl0 := box_lt hT0) | (have hT0 : y0.heap[h0W.heap.size]? = some (.cells #[.slice none 0 0, .slice none 0 0] 73 (0, 0)) := box_keep (heap_alloc_new h0W.drew (.cells #[.slice none 0 0, .slice none 0 0] 73)) hb0'; have hl0 := box_lt hT0) | skip))
              | (go_at_call 30; (with_reducible refine (toAssertion_rl (.slice va11 l1.1.length vc11) (.slice va12 l1.2.length vc12) l1 _ (h11.keep (bt hW (by repeat (first | exact Below.refl _ _ | with_reducible assumption | exact below_alloc _ _ | (refine Below.setCell ?_ (by first | (simp; done) | (simp; omega) | omega) _) | apply bd | apply ba | apply be)))) (h12.keep (bt hW (by repeat (first | exact Below.refl _ _ | with_reducible assumption | exact below_alloc _ _ | (refine Below.setCell ?_ (by first | (simp; done) | (simp; omega) | omega) _) | apply bd | apply ba | apply be)))) hs1).mono ?_); rintro e y1 ⟨r11, r12, rfl, ⟨_, _, oo11, oo12, _⟩, hb1'⟩; have q11 := oo11.read; have q12 := oo12.read; clear oo11 oo12; obtain ⟨ra11, rc11, rfl⟩ := q11.form; obtain ⟨ra12, rc12, rfl⟩ := q12.form; have hbp1 : Below y0.heap.size y0 y1 := bt (by repeat (first | exact Below.refl _ _ | with_reducible assumption | exact below_alloc _ _ | (refine Below.setCell ?_ (by first | (simp; done) | (simp; omega) | omega) _) | apply bd | apply ba | apply be)) hb1'; have hbs1 : Below h0W.heap.size h0W y1 := bt hbs0 hbp1; have hzz1 := hbp1.size; replace q01 := q01.keep hbp1; replace q02 := q02.keep hbp1; (first | (have hT1 := box_keep hT0 hbp1; have hl1 := box_lt hT1) | (have hT1 : y1.heap[y0.heap.size]? = some (.cells #[.slice none 0 0, .slice none 0 0] 73 (0, 0)) := box_keep (heap_alloc_new y0 (.cells #[.slice none 0 0, .slice none 0 0] 73)) hb1'; have hl1 := box_lt hT1) | (have hT1 : y1.heap[y0.heap.size]? = some (.cells #[.slice none 0 0, .slice none 0 0] 73 (0, 0)) := box_keep (heap_alloc_new y0.drew (.cells #[.slice none 0 0, .slice none 0 0] 73)) hb1'; have hl1 := box_lt hT1) | skip))
              | (go_at_call 49; (with_reducible refine (toIntS_rl (.slice va2 l2.length vc2) l2 _ (h2.keep (bt hW (by repeat (first | exact Below.refl _ _ | with_reducible assumption | exact below_alloc _ _ | (refine Below.setCell ?_ (by first | (simp; done) | (simp; omega) | omega) _) | apply bd | apply ba | apply be)))) hs2).mono ?_); rintro e y2 ⟨r2, rfl, oo2, hb2'⟩; have q2 := oo2.read; clear oo2; obtain ⟨ra2, rc2, rfl⟩ := q2.form; have hbp2 : Below y1.heap.size y1 y2 := bt (by repeat (first | exact Below.refl _ _ | with_reducible assumption | exact below_alloc _ _ | (refine Below.setCell ?_ (by first | (simp; done) | (simp; omega) | omega) _) | apply bd | apply ba | apply be)) hb2'; have hbs2 : Below h0W.heap.size h0W y2 := bt hbs1 hbp2; have hzz2 := hbp2.size; replace q01 := q01.keep hbp2; replace q02 := q02.keep hbp2; replace q11 := q11.keep hbp2; replace q12 := q12.keep hbp2; (first | (have hT2 := box_keep hT1 hbp2; have hl2 := box_lt hT2) | (have hT2 : y2.heap[y1.heap.size]? = some (.cells #[.slice none 0 0, .slice none 0 0] 73 (0, 0)) := box_keep (heap_alloc_new y1 (.cells #[.slice none 0 0, .slice none 0 0] 73)) hb2'; have hl2 := box_lt hT2) | (have hT2 : y2.heap[y1.heap.size]? = some (.cells #[.slice none 0 0, .slice none 0 0] 73 (0, 0)) := box_keep (heap_alloc_new y1.drew (.cells #[.slice none 0 0, .slice none 0 0] 73)) hb2'; have hl2 := box_lt hT2) | skip))
              | (go_at_call 50; go_must ((refine (proveI_any _ _ _ _ _ l0 l1 l2 _ (q01.keep (by repeat (first | exact Below.refl _ _ | with_reducible assumption | exact below_alloc _ _ | (refine Below.setCell ?_ (by first | (simp; done) | (simp; omega) | omega) _) | apply bd | apply ba | apply be))) (q02.keep (by repeat (first | exact Below.refl _ _ | with_reducible assumption | exact below_alloc _ _ | (refine Below.setCell ?_ (by first | (simp; done) | (simp; omega) | omega) _) | apply bd | apply ba | apply be))) (q11.keep (by repeat (first | exact Below.refl _ _ | with_reducible assumption | exact below_alloc _ _ | (refine Below.setCell ?_ (by first | (simp; done) | (simp; omega) | omega) _) | apply bd | apply ba | apply be))) (q12.keep (by repeat (first | exact Below.refl _ _ | with_reducible assumption | exact below_alloc _ _ | (refine Below.setCell ?_ (by first | (simp; done) | (simp; omega) | omega) _) | apply bd | apply ba | apply be))) (q2.keep (by repeat (first | exact Below.refl _ _ | with_reducible assumption | exact below_alloc _ _ | (refine Below.setCell ?_ (by first | (simp; done) | (simp; omega) | omega) _) | apply bd | apply ba | apply be)))).mono ?_); rw [← HD.out.1, ← HD.out.2]; rintro e y3 ⟨r31, r32, rfl, HOO, hb3'⟩; have q31 : RL y3 _ _ D.1 := HOO.one; have q32 : RL y3 _ _ D.2 := HOO.two; clear HOO; obtain ⟨ra31, rc31, rfl⟩ := q31.form; obtain ⟨ra32, rc32, rfl⟩ := q32.form; have hbp3 : Below y2.heap.size y2 y3 := bt (by repeat (first | exact Below.refl _ _ | with_reducible assumption | exact below_alloc _ _ | (refine Below.setCell ?_ (by first | (simp; done) | (simp; omega) | omega) _) | apply bd | apply ba | apply be)) hb3'; have hbs3 : Below h0W.heap.size h0W y3 := bt hbs2 hbp3; have hzz3 := hbp3.size; (first | (have hT3 := box_keep hT2 hbp3; have hl3 := box_lt hT3) | (have hT3 : y3.heap[y2.heap.size]? = some (.cells #[.slice none 0 0, .slice none 0 0] 73 (0, 0)) := box_keep (heap_alloc_new y2 (.cells #[.slice none 0 0, .slice none 0 0] 73)) hb3'; have hl3 := box_lt hT3) | (have hT3 : y3.heap[y2.heap.size]? = some (.cells #[.slice none 0 0, .slice none 0 0] 73 (0, 0)) := box_keep (heap_alloc_new y2.drew (.cells #[.slice none 0 0, .slice none 0 0] 73)) hb3'; have hl3 := box_lt hT3) | skip); (first | (have ht0 := box0 hT3; have ht1 := box1 hT3; have htz := boxz hT3) | skip))))
          all_goals
            have hWn := bt hW hbs3
            have HQ := Lib.hid (And.intro q31 q32)
            clear q01 q02 q11 q12 q2 q31 q32
            go_wp2
            go_meet
            case rel =>
              have q31 := HQ.out.1
              have q32 := HQ.out.2
              refine ⟨_, .slice ra31 D.1.length rc31, .slice ra32 D.2.length rc32, rfl, rfl, ⟨?_, ?_⟩, ⟨?_, ?_⟩, ?_⟩
              · first | exact (box_two _ _ ht0 ht1).1 | (simp; done) | (simp [go_sem]; done)
              · first | exact (box_two _ _ ht0 ht1).2 | (simp; done) | (simp [go_sem]; done)
              · first | (with_reducible refine (q31.set2 ?_ _ _).any; first | omega | (simp; done) | (simp; omega)) | exact (q31.keep (by repeat (first | exact Below.refl _ _ | with_reducible assumption | exact below_alloc _ _ | (refine Below.setCell ?_ (by first | (simp; done) | (simp; omega) | omega) _) | apply bd | apply ba | apply be))).any
              · first | (with_reducible refine (q32.set2 ?_ _ _).any; first | omega | (simp; done) | (simp; omega)) | exact (q32.keep (by repeat (first | exact Below.refl _ _ | with_reducible assumption | exact below_alloc _ _ | (refine Below.setCell ?_ (by first | (simp; done) | (simp; omega) | omega) _) | apply bd | apply ba | apply be))).any
              · first | (with_reducible refine Below.setCell (Below.setCell hbs3 ?_ _) ?_ _ <;> first | omega | (simp; done) | (simp; omega)) | exact bt hbs3 (by repeat (first | exact Below.refl _ _ | with_reducible assumption | exact below_alloc _ _ | (refine Below.setCell ?_ (by first | (simp; done) | (simp; omega) | omega) _) | apply bd | apply ba | apply be))
        case rest =>
          obtain ⟨g3, y1, y2, rfl, rfl, ⟨hy1, hy2⟩, ⟨ry1, ry2⟩, hb⟩ := hcut
          have HKP2 := HKP.out
          obtain ⟨hw1, hw2, hg1, hg2, ru1, ru2, om1, om2⟩ := HKP2
          replace hw1 := cell_keep hb hw1
          replace hw2 := cell_keep hb hw2
          replace hg1 := cell_keep hb hg1
          replace hg2 := cell_keep hb hg2
          replace ru1 := ru1.keep hb
          replace ru2 := ru2.keep hb
          replace om1 := om1.keep hb
          replace om2 := om2.keep hb
          replace hW := bt hW hb
          clear hb
          obtain ⟨ya1, yc1, rfl⟩ := ry1.form
          obtain ⟨ya2, yc2, rfl⟩ := ry2.form
          go_wp2_with fail
          refine (cb (b := true) (eqCaseProof_rl _ _ _ _ D D _ ry1 ry2 ru1 ru2) (by simp)).mono ?_
          rintro e e2 ⟨rfl, hb⟩
          replace hg1 := cell_keep hb hg1
          replace hg2 := cell_keep hb hg2
          replace om1 := om1.keep hb
          replace om2 := om2.keep hb
          replace hW := bt hW hb
          clear hb
          go_wp2_with fail
          refine (heldCaseProof_rl _ _ D 1 _ om1.read om2.read (by omega) (by omega) hsD).mono ?_
          rintro e h1W ⟨rfl, hb⟩
          replace hW := bt hW hb
          go_wp2
          go_ret
          exact ⟨rfl, hW⟩
end Go.Proofs.Ythoingdcmdhllaa
