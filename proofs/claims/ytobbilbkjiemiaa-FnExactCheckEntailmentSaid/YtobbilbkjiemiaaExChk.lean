/- The walk of the law FnExactCheckEntailment. (Printed by gen_exs.py.) -/
import Derived.Test.YtobbilbkjiemiaaChk3
import Derived.Test.YtobbilbkjiemiaaCase15
import Derived.Test.YtobbilbkjiemiaaCase16
import Derived.Test.YtobbilbkjiemiaaData3
import Derived.Deep.RegionHeld3
import Derived.Deep.Cut
namespace Go.Proofs.Ytobbilbkjiemiaa
open Go.RowKit

set_option maxRecDepth 100000 in
set_option maxHeartbeats 12800000 in
theorem fnExactCheckEntailment_walk {S01 S02 S11 S12 S2 : Nat → Prop} (v01 v02 v11 v12 v2 : Value) (l0 : Asn) (l1 : Asn) (l2 : List CPf) (w : World) (h01 : RL w S01 v01 l0.1) (h02 : RL w S02 v02 l0.2) (h11 : RL w S11 v11 l1.1) (h12 : RL w S12 v12 l1.2) (h2 : RL w S2 v2 l2) :
    Calls Try.prog 3 #[.agg #[v01, v02], .agg #[v11, v12], v2] w fun e w' => e = .returned (.bool true) ∧ Below w.heap.size w w' := by
  obtain ⟨va01, vc01, rfl⟩ := h01.form
  obtain ⟨va02, vc02, rfl⟩ := h02.form
  obtain ⟨va11, vc11, rfl⟩ := h11.form
  obtain ⟨va12, vc12, rfl⟩ := h12.form
  obtain ⟨va2, vc2, rfl⟩ := h2.form
  have hBX : Below w.heap.size w ((w.alloc (.cells #[.slice va01 l0.1.length vc01, .slice va02 l0.2.length vc02] 25)).alloc (.cells #[.slice va11 l1.1.length vc11, .slice va12 l1.2.length vc12] 25)) := (by repeat (first | exact Below.refl _ _ | with_reducible assumption | exact below_alloc _ _ | (refine Below.setCell ?_ (by first | (simp; done) | (simp; omega) | omega) _) | apply bd | apply ba | apply be))
  have hsp0 : (1048576 : Int) < (Mk.size l0 : Nat) ∨ ((Mk.size l0 : Nat) : Int) ≤ (1048576 : Int) := by omega
  rcases hsp0 with hbig | hfit0
  · have HB := Lib.hid (szF_big hbig)
    clear hbig
    go_enter Try.func3, Try.ntmps3
    go_wp2_with fail
    refine (szAssertion_rl _ _ l0 _ _ (h01.keep (by repeat (first | exact Below.refl _ _ | with_reducible assumption | exact below_alloc _ _ | (refine Below.setCell ?_ (by first | (simp; done) | (simp; omega) | omega) _) | apply bd | apply ba | apply be))) (h02.keep (by repeat (first | exact Below.refl _ _ | with_reducible assumption | exact below_alloc _ _ | (refine Below.setCell ?_ (by first | (simp; done) | (simp; omega) | omega) _) | apply bd | apply ba | apply be))) (by omega) (by omega)).mono ?_
    rw [HB.out]
    rintro e z ⟨rfl, hb⟩
    go_wp2
    go_ret
    exact ⟨rfl, bt (by repeat (first | exact Below.refl _ _ | with_reducible assumption | exact below_alloc _ _ | (refine Below.setCell ?_ (by first | (simp; done) | (simp; omega) | omega) _) | apply bd | apply ba | apply be)) hb⟩
  have HS0 := Lib.hid (szF_fit hfit0)
  have hs0 : Mk.size l0 ≤ 1048576 := by omega
  have hnn0 : ¬ (1048576 : Int) - ((Mk.size l0 : Nat) : Int) < 0 := by omega
  have hsp1 : (1048576 : Int) - ((Mk.size l0 : Nat) : Int) < (Mk.size l1 : Nat) ∨ ((Mk.size l1 : Nat) : Int) ≤ (1048576 : Int) - ((Mk.size l0 : Nat) : Int) := by omega
  rcases hsp1 with hbig | hfit1
  · have HB := Lib.hid (szF_big hbig)
    clear hbig
    go_enter Try.func3, Try.ntmps3
    go_wp2_with fail
    refine (szAssertion_rl _ _ l0 _ _ (h01.keep (by repeat (first | exact Below.refl _ _ | with_reducible assumption | exact below_alloc _ _ | (refine Below.setCell ?_ (by first | (simp; done) | (simp; omega) | omega) _) | apply bd | apply ba | apply be))) (h02.keep (by repeat (first | exact Below.refl _ _ | with_reducible assumption | exact below_alloc _ _ | (refine Below.setCell ?_ (by first | (simp; done) | (simp; omega) | omega) _) | apply bd | apply ba | apply be))) (by omega) (by omega)).mono ?_
    rw [HS0.out]
    rintro e z0 ⟨rfl, hb⟩
    have hc01 := cell_keep hb (p := ⟨w.heap.size, 0, none⟩) (v := .slice va01 l0.1.length vc01) (by simp [go_sem])
    have hc02 := cell_keep hb (p := ⟨w.heap.size, 1, none⟩) (v := .slice va02 l0.2.length vc02) (by simp [go_sem])
    have hc11 := cell_keep hb (p := ⟨w.heap.size + 1, 0, none⟩) (v := .slice va11 l1.1.length vc11) (by simp [go_sem])
    have hc12 := cell_keep hb (p := ⟨w.heap.size + 1, 1, none⟩) (v := .slice va12 l1.2.length vc12) (by simp [go_sem])
    have hW : Below w.heap.size w z0 := bt (by repeat (first | exact Below.refl _ _ | with_reducible assumption | exact below_alloc _ _ | (refine Below.setCell ?_ (by first | (simp; done) | (simp; omega) | omega) _) | apply bd | apply ba | apply be)) hb
    clear hb
    go_wp2_with fail
    refine (szAssertion_rl _ _ l1 _ _ (h11.keep hW) (h12.keep hW) (by omega) (by omega)).mono ?_
    rw [HB.out]
    rintro e z ⟨rfl, hb⟩
    go_wp2
    go_ret
    exact ⟨rfl, bt hW hb⟩
  have HS1 := Lib.hid (szF_fit hfit1)
  have hs1 : Mk.size l1 ≤ 1048576 := by omega
  have hnn1 : ¬ (1048576 : Int) - ((Mk.size l0 : Nat) : Int) - ((Mk.size l1 : Nat) : Int) < 0 := by omega
  have hsp2 : (1048576 : Int) - ((Mk.size l0 : Nat) : Int) - ((Mk.size l1 : Nat) : Int) < (Mk.size l2 : Nat) ∨ ((Mk.size l2 : Nat) : Int) ≤ (1048576 : Int) - ((Mk.size l0 : Nat) : Int) - ((Mk.size l1 : Nat) : Int) := by omega
  rcases hsp2 with hbig | hfit2
  · have HB := Lib.hid (szF_big hbig)
    clear hbig
    go_enter Try.func3, Try.ntmps3
    go_wp2_with fail
    refine (szAssertion_rl _ _ l0 _ _ (h01.keep (by repeat (first | exact Below.refl _ _ | with_reducible assumption | exact below_alloc _ _ | (refine Below.setCell ?_ (by first | (simp; done) | (simp; omega) | omega) _) | apply bd | apply ba | apply be))) (h02.keep (by repeat (first | exact Below.refl _ _ | with_reducible assumption | exact below_alloc _ _ | (refine Below.setCell ?_ (by first | (simp; done) | (simp; omega) | omega) _) | apply bd | apply ba | apply be))) (by omega) (by omega)).mono ?_
    rw [HS0.out]
    rintro e z0 ⟨rfl, hb⟩
    have hc01 := cell_keep hb (p := ⟨w.heap.size, 0, none⟩) (v := .slice va01 l0.1.length vc01) (by simp [go_sem])
    have hc02 := cell_keep hb (p := ⟨w.heap.size, 1, none⟩) (v := .slice va02 l0.2.length vc02) (by simp [go_sem])
    have hc11 := cell_keep hb (p := ⟨w.heap.size + 1, 0, none⟩) (v := .slice va11 l1.1.length vc11) (by simp [go_sem])
    have hc12 := cell_keep hb (p := ⟨w.heap.size + 1, 1, none⟩) (v := .slice va12 l1.2.length vc12) (by simp [go_sem])
    have hW : Below w.heap.size w z0 := bt (by repeat (first | exact Below.refl _ _ | with_reducible assumption | exact below_alloc _ _ | (refine Below.setCell ?_ (by first | (simp; done) | (simp; omega) | omega) _) | apply bd | apply ba | apply be)) hb
    clear hb
    go_wp2_with fail
    refine (szAssertion_rl _ _ l1 _ _ (h11.keep hW) (h12.keep hW) (by omega) (by omega)).mono ?_
    rw [HS1.out]
    rintro e z1 ⟨rfl, hb⟩
    replace hc01 := cell_keep hb hc01; replace hc02 := cell_keep hb hc02; replace hc11 := cell_keep hb hc11; replace hc12 := cell_keep hb hc12; replace hW := bt hW hb; clear hb
    go_wp2_with fail
    refine (szCaseProofS_rl _ l2 _ _ (h2.keep hW) (by omega) (by omega)).mono ?_
    rw [HB.out]
    rintro e z ⟨rfl, hb⟩
    go_wp2
    go_ret
    exact ⟨rfl, bt hW hb⟩
  have HS2 := Lib.hid (szF_fit hfit2)
  have hs2 : Mk.size l2 ≤ 1048576 := by omega
  have hnn2 : ¬ (1048576 : Int) - ((Mk.size l0 : Nat) : Int) - ((Mk.size l1 : Nat) : Int) - ((Mk.size l2 : Nat) : Int) < 0 := by omega
  obtain ⟨ok, hok⟩ : ∃ t, chkE l0 l1 l2 = t := ⟨_, rfl⟩
  have HT := Lib.hid hok
  have hbne : (ok != ok) = false := by cases ok <;> rfl
  clear hok
  clear hfit0 hfit1 hfit2
  go_enter Try.func3, Try.ntmps3
  go_wp2_with fail
  refine (szAssertion_rl _ _ l0 _ _ (h01.keep (by repeat (first | exact Below.refl _ _ | with_reducible assumption | exact below_alloc _ _ | (refine Below.setCell ?_ (by first | (simp; done) | (simp; omega) | omega) _) | apply bd | apply ba | apply be))) (h02.keep (by repeat (first | exact Below.refl _ _ | with_reducible assumption | exact below_alloc _ _ | (refine Below.setCell ?_ (by first | (simp; done) | (simp; omega) | omega) _) | apply bd | apply ba | apply be))) (by omega) (by omega)).mono ?_
  rw [HS0.out]
  rintro e z0 ⟨rfl, hb⟩
  have hc01 := cell_keep hb (p := ⟨w.heap.size, 0, none⟩) (v := .slice va01 l0.1.length vc01) (by simp [go_sem])
  have hc02 := cell_keep hb (p := ⟨w.heap.size, 1, none⟩) (v := .slice va02 l0.2.length vc02) (by simp [go_sem])
  have hc11 := cell_keep hb (p := ⟨w.heap.size + 1, 0, none⟩) (v := .slice va11 l1.1.length vc11) (by simp [go_sem])
  have hc12 := cell_keep hb (p := ⟨w.heap.size + 1, 1, none⟩) (v := .slice va12 l1.2.length vc12) (by simp [go_sem])
  have hW : Below w.heap.size w z0 := bt (by repeat (first | exact Below.refl _ _ | with_reducible assumption | exact below_alloc _ _ | (refine Below.setCell ?_ (by first | (simp; done) | (simp; omega) | omega) _) | apply bd | apply ba | apply be)) hb
  clear hb
  go_wp2_with fail
  refine (szAssertion_rl _ _ l1 _ _ (h11.keep hW) (h12.keep hW) (by omega) (by omega)).mono ?_
  rw [HS1.out]
  rintro e z1 ⟨rfl, hb⟩
  replace hc01 := cell_keep hb hc01; replace hc02 := cell_keep hb hc02; replace hc11 := cell_keep hb hc11; replace hc12 := cell_keep hb hc12; replace hW := bt hW hb; clear hb
  go_wp2_with fail
  refine (szCaseProofS_rl _ l2 _ _ (h2.keep hW) (by omega) (by omega)).mono ?_
  rw [HS2.out]
  rintro e z2 ⟨rfl, hb⟩
  replace hc01 := cell_keep hb hc01; replace hc02 := cell_keep hb hc02; replace hc11 := cell_keep hb hc11; replace hc12 := cell_keep hb hc12; replace hW := bt hW hb; clear hb
  go_upto_region 11 with fail
  go_cut [8] from 13 (fun pp wc => pp = .bool ok ∧ Below z2.heap.size z2 wc)
  case first =>
    have hszW := hW.size
    go_region_held3 (fun w' => (w'.cell? ⟨w.heap.size, 0, none⟩ = some (.slice va01 l0.1.length vc01) ∧ w'.cell? ⟨w.heap.size, 1, none⟩ = some (.slice va02 l0.2.length vc02)) ∧ (w'.cell? ⟨w.heap.size + 1, 0, none⟩ = some (.slice va11 l1.1.length vc11) ∧ w'.cell? ⟨w.heap.size + 1, 1, none⟩ = some (.slice va12 l1.2.length vc12)))
      (exact ⟨⟨cell_keep (by repeat (first | exact Below.refl _ _ | with_reducible assumption | exact below_alloc _ _ | (refine Below.setCell ?_ (by first | (simp; done) | (simp; omega) | omega) _) | apply bd | apply ba | apply be)) hc01, cell_keep (by repeat (first | exact Below.refl _ _ | with_reducible assumption | exact below_alloc _ _ | (refine Below.setCell ?_ (by first | (simp; done) | (simp; omega) | omega) _) | apply bd | apply ba | apply be)) hc02⟩, ⟨cell_keep (by repeat (first | exact Below.refl _ _ | with_reducible assumption | exact below_alloc _ _ | (refine Below.setCell ?_ (by first | (simp; done) | (simp; omega) | omega) _) | apply bd | apply ba | apply be)) hc11, cell_keep (by repeat (first | exact Below.refl _ _ | with_reducible assumption | exact below_alloc _ _ | (refine Below.setCell ?_ (by first | (simp; done) | (simp; omega) | omega) _) | apply bd | apply ba | apply be)) hc12⟩⟩)
      (first
        | (go_at_call 18; (with_reducible refine (toAssertion_rl (.slice va01 l0.1.length vc01) (.slice va02 l0.2.length vc02) l0 _ (h01.keep (bt hW (by repeat (first | exact Below.refl _ _ | with_reducible assumption | exact below_alloc _ _ | (refine Below.setCell ?_ (by first | (simp; done) | (simp; omega) | omega) _) | apply bd | apply ba | apply be)))) (h02.keep (bt hW (by repeat (first | exact Below.refl _ _ | with_reducible assumption | exact below_alloc _ _ | (refine Below.setCell ?_ (by first | (simp; done) | (simp; omega) | omega) _) | apply bd | apply ba | apply be)))) hs0).mono ?_); rintro e y0 ⟨r01, r02, rfl, ⟨_, _, oo01, oo02, _⟩, hb0'⟩; have q01 := oo01.read; have q02 := oo02.read; clear oo01 oo02; obtain ⟨ra01, rc01, rfl⟩ := q01.form; obtain ⟨ra02, rc02, rfl⟩ := q02.form; have hbp0 : Below z2.heap.size z2 y0 := bt (by repeat (first | exact Below.refl _ _ | with_reducible assumption | exact below_alloc _ _ | (refine Below.setCell ?_ (by first | (simp; done) | (simp; omega) | omega) _) | apply bd | apply ba | apply be)) hb0'; have hbs0 : Below z2.heap.size z2 y0 := hbp0; have hzz0 := hbp0.size)
        | (go_at_call 18; (with_reducible refine (toAssertion_rl (.slice va11 l1.1.length vc11) (.slice va12 l1.2.length vc12) l1 _ (h11.keep (bt hW (by repeat (first | exact Below.refl _ _ | with_reducible assumption | exact below_alloc _ _ | (refine Below.setCell ?_ (by first | (simp; done) | (simp; omega) | omega) _) | apply bd | apply ba | apply be)))) (h12.keep (bt hW (by repeat (first | exact Below.refl _ _ | with_reducible assumption | exact below_alloc _ _ | (refine Below.setCell ?_ (by first | (simp; done) | (simp; omega) | omega) _) | apply bd | apply ba | apply be)))) hs1).mono ?_); rintro e y1 ⟨r11, r12, rfl, ⟨_, _, oo11, oo12, _⟩, hb1'⟩; have q11 := oo11.read; have q12 := oo12.read; clear oo11 oo12; obtain ⟨ra11, rc11, rfl⟩ := q11.form; obtain ⟨ra12, rc12, rfl⟩ := q12.form; have hbp1 : Below y0.heap.size y0 y1 := bt (by repeat (first | exact Below.refl _ _ | with_reducible assumption | exact below_alloc _ _ | (refine Below.setCell ?_ (by first | (simp; done) | (simp; omega) | omega) _) | apply bd | apply ba | apply be)) hb1'; have hbs1 : Below z2.heap.size z2 y1 := bt hbs0 hbp1; have hzz1 := hbp1.size; replace q01 := q01.keep hbp1; replace q02 := q02.keep hbp1)
        | (go_at_call 19; (with_reducible refine (toCaseProofS_rl (.slice va2 l2.length vc2) l2 _ (h2.keep (bt hW (by repeat (first | exact Below.refl _ _ | with_reducible assumption | exact below_alloc _ _ | (refine Below.setCell ?_ (by first | (simp; done) | (simp; omega) | omega) _) | apply bd | apply ba | apply be)))) hs2).mono ?_); rintro e y2 ⟨r2, rfl, oo2, hb2'⟩; have q2 := oo2.read; clear oo2; obtain ⟨ra2, rc2, rfl⟩ := q2.form; have hbp2 : Below y1.heap.size y1 y2 := bt (by repeat (first | exact Below.refl _ _ | with_reducible assumption | exact below_alloc _ _ | (refine Below.setCell ?_ (by first | (simp; done) | (simp; omega) | omega) _) | apply bd | apply ba | apply be)) hb2'; have hbs2 : Below z2.heap.size z2 y2 := bt hbs1 hbp2; have hzz2 := hbp2.size; replace q01 := q01.keep hbp2; replace q02 := q02.keep hbp2; replace q11 := q11.keep hbp2; replace q12 := q12.keep hbp2)
        | (go_at_call 17; go_must ((refine (cb (checkEntS_any _ _ _ _ _ l0 l1 l2 _ (q01.keep (by repeat (first | exact Below.refl _ _ | with_reducible assumption | exact below_alloc _ _ | (refine Below.setCell ?_ (by first | (simp; done) | (simp; omega) | omega) _) | apply bd | apply ba | apply be))) (q02.keep (by repeat (first | exact Below.refl _ _ | with_reducible assumption | exact below_alloc _ _ | (refine Below.setCell ?_ (by first | (simp; done) | (simp; omega) | omega) _) | apply bd | apply ba | apply be))) (q11.keep (by repeat (first | exact Below.refl _ _ | with_reducible assumption | exact below_alloc _ _ | (refine Below.setCell ?_ (by first | (simp; done) | (simp; omega) | omega) _) | apply bd | apply ba | apply be))) (q12.keep (by repeat (first | exact Below.refl _ _ | with_reducible assumption | exact below_alloc _ _ | (refine Below.setCell ?_ (by first | (simp; done) | (simp; omega) | omega) _) | apply bd | apply ba | apply be))) (q2.keep (by repeat (first | exact Below.refl _ _ | with_reducible assumption | exact below_alloc _ _ | (refine Below.setCell ?_ (by first | (simp; done) | (simp; omega) | omega) _) | apply bd | apply ba | apply be)))) HT.out).mono ?_); rintro e y3 ⟨rfl, hb3'⟩; have hbp3 : Below y2.heap.size y2 y3 := bt (by repeat (first | exact Below.refl _ _ | with_reducible assumption | exact below_alloc _ _ | (refine Below.setCell ?_ (by first | (simp; done) | (simp; omega) | omega) _) | apply bd | apply ba | apply be)) hb3'; have hbs3 : Below z2.heap.size z2 y3 := bt hbs2 hbp3; have hzz3 := hbp3.size)))
    all_goals
      go_wp2
      go_meet
      case rel => exact ⟨rfl, bt hbs3 (by repeat (first | exact Below.refl _ _ | with_reducible assumption | exact below_alloc _ _ | (refine Below.setCell ?_ (by first | (simp; done) | (simp; omega) | omega) _) | apply bd | apply ba | apply be))⟩
  case rest =>
    obtain ⟨rfl, hb⟩ := hcut
    replace hc01 := cell_keep hb hc01
    replace hc02 := cell_keep hb hc02
    replace hc11 := cell_keep hb hc11
    replace hc12 := cell_keep hb hc12
    replace hW := bt hW hb
    clear hb
    obtain ⟨s0, hs0e⟩ : ∃ s, s = wc.heap.size := ⟨_, rfl⟩
    have hle : w.heap.size ≤ s0 := by have := hW.size; omega
    have hE0 : w.heap.size < s0 := by have := World.block_lt_of_cell? wc _ hc01; simp only at this; omega
    have hE1 : w.heap.size + 1 < s0 := by have := World.block_lt_of_cell? wc _ hc11; simp only at this; omega
    go_wp2_with fail
    refine (toAssertion_rl _ _ l0 _ (by exact h01.keep (bt hW (by repeat (first | exact Below.refl _ _ | with_reducible assumption | exact below_alloc _ _ | (refine Below.setCell ?_ (by first | (simp; done) | (simp; omega) | omega) _) | apply bd | apply ba | apply be)))) (by exact h02.keep (bt hW (by repeat (first | exact Below.refl _ _ | with_reducible assumption | exact below_alloc _ _ | (refine Below.setCell ?_ (by first | (simp; done) | (simp; omega) | omega) _) | apply bd | apply ba | apply be)))) hs0).mono ?_
    rintro e n0 ⟨x01, x02, rfl, ⟨f01, f02, ox01, ox02, nx0⟩, hb⟩
    obtain ⟨xa01, xc01, rfl⟩ := ox01.read.form
    obtain ⟨xa02, xc02, rfl⟩ := ox02.read.form
    have lx0 : ∀ k, k ∈ f01 ++ f02 → s0 ≤ k ∧ k < n0.heap.size := fun k hk => by
      rcases List.mem_append.1 hk with h | h
      · have := ox01.lt k h; first | (simp at this; omega) | omega
      · have := ox02.lt k h; first | (simp at this; omega) | omega
    replace ox01 := ox01.mono (Nat.zero_le _)
    replace ox02 := ox02.mono (Nat.zero_le _)
    have hn0 : s0 ≤ n0.heap.size := by have := hb.size; first | omega | (simp at this; omega)
    replace hc01 := cell_keep hb hc01
    replace hc02 := cell_keep hb hc02
    replace hc11 := cell_keep hb hc11
    replace hc12 := cell_keep hb hc12
    replace hW := bt hW hb
    clear hb
    have hm0_0 : w.heap.size < n0.heap.size := by omega
    have hm0_1 : w.heap.size + 1 < n0.heap.size := by omega
    go_wp2_with fail
    refine (toAssertion_rl _ _ l1 _ (by exact h11.keep (bt hW (by repeat (first | exact Below.refl _ _ | with_reducible assumption | exact below_alloc _ _ | (refine Below.setCell ?_ (by first | (simp; done) | (simp; omega) | omega) _) | apply bd | apply ba | apply be)))) (by exact h12.keep (bt hW (by repeat (first | exact Below.refl _ _ | with_reducible assumption | exact below_alloc _ _ | (refine Below.setCell ?_ (by first | (simp; done) | (simp; omega) | omega) _) | apply bd | apply ba | apply be)))) hs1).mono ?_
    rintro e n1 ⟨x11, x12, rfl, ⟨f11, f12, ox11, ox12, nx1⟩, hb⟩
    obtain ⟨xa11, xc11, rfl⟩ := ox11.read.form
    obtain ⟨xa12, xc12, rfl⟩ := ox12.read.form
    have lx1 : ∀ k, k ∈ f11 ++ f12 → n0.heap.size + 1 ≤ k ∧ k < n1.heap.size := fun k hk => by
      rcases List.mem_append.1 hk with h | h
      · have := ox11.lt k h; first | (simp at this; omega) | omega
      · have := ox12.lt k h; first | (simp at this; omega) | omega
    replace ox11 := ox11.mono (Nat.zero_le _)
    replace ox12 := ox12.mono (Nat.zero_le _)
    have hx01 := cell_keep hb (p := ⟨n0.heap.size, 0, none⟩) (v := .slice xa01 l0.1.length xc01) (by simp)
    have hx02 := cell_keep hb (p := ⟨n0.heap.size, 1, none⟩) (v := .slice xa02 l0.2.length xc02) (by simp)
    replace hb : Below n0.heap.size n0 n1 := bt (by repeat (first | exact Below.refl _ _ | with_reducible assumption | exact below_alloc _ _ | (refine Below.setCell ?_ (by first | (simp; done) | (simp; omega) | omega) _) | apply bd | apply ba | apply be)) hb
    have hn1 : n0.heap.size + 1 ≤ n1.heap.size := by have := World.block_lt_of_cell? n1 _ hx01; simp only at this; omega
    replace hc01 := cell_keep hb hc01
    replace hc02 := cell_keep hb hc02
    replace hc11 := cell_keep hb hc11
    replace hc12 := cell_keep hb hc12
    replace ox01 := ox01.keep hb
    replace ox02 := ox02.keep hb
    replace hW := bt hW hb
    clear hb
    have hm1_0 : w.heap.size < n1.heap.size := by omega
    have hm1_1 : w.heap.size + 1 < n1.heap.size := by omega
    have hmx1_0 : n0.heap.size < n1.heap.size := by omega
    go_wp2_with fail
    refine (toCaseProofS_rl _ l2 _ (by exact h2.keep (bt hW (by repeat (first | exact Below.refl _ _ | with_reducible assumption | exact below_alloc _ _ | (refine Below.setCell ?_ (by first | (simp; done) | (simp; omega) | omega) _) | apply bd | apply ba | apply be)))) hs2).mono ?_
    rintro e n2 ⟨x2, rfl, ⟨f2, ox2, nx2⟩, hb⟩
    obtain ⟨xa2, xc2, rfl⟩ := ox2.read.form
    have lx2 : ∀ k, k ∈ f2 → n1.heap.size + 1 ≤ k ∧ k < n2.heap.size := fun k hk => by have := ox2.lt k hk; first | (simp at this; omega) | omega
    replace ox2 := ox2.mono (Nat.zero_le _)
    have hx11 := cell_keep hb (p := ⟨n1.heap.size, 0, none⟩) (v := .slice xa11 l1.1.length xc11) (by simp)
    have hx12 := cell_keep hb (p := ⟨n1.heap.size, 1, none⟩) (v := .slice xa12 l1.2.length xc12) (by simp)
    replace hb : Below n1.heap.size n1 n2 := bt (by repeat (first | exact Below.refl _ _ | with_reducible assumption | exact below_alloc _ _ | (refine Below.setCell ?_ (by first | (simp; done) | (simp; omega) | omega) _) | apply bd | apply ba | apply be)) hb
    have hn2 : n1.heap.size + 1 ≤ n2.heap.size := by have := World.block_lt_of_cell? n2 _ hx11; simp only at this; omega
    replace hc01 := cell_keep hb hc01
    replace hc02 := cell_keep hb hc02
    replace hc11 := cell_keep hb hc11
    replace hc12 := cell_keep hb hc12
    replace hx01 := cell_keep hb hx01
    replace hx02 := cell_keep hb hx02
    replace ox01 := ox01.keep hb
    replace ox02 := ox02.keep hb
    replace ox11 := ox11.keep hb
    replace ox12 := ox12.keep hb
    replace hW := bt hW hb
    clear hb
    have hm2_0 : w.heap.size < n2.heap.size := by omega
    have hm2_1 : w.heap.size + 1 < n2.heap.size := by omega
    have hmx2_0 : n0.heap.size < n2.heap.size := by omega
    have hmx2_1 : n1.heap.size < n2.heap.size := by omega
    go_wp2_with fail
    refine (cb (checkEntI_any _ _ _ _ _ l0 l1 l2 _ (by exact ox01.read.keep (by repeat (first | exact Below.refl _ _ | with_reducible assumption | exact below_alloc _ _ | (refine Below.setCell ?_ (by first | (simp; done) | (simp; omega) | omega) _) | apply bd | apply ba | apply be))) (by exact ox02.read.keep (by repeat (first | exact Below.refl _ _ | with_reducible assumption | exact below_alloc _ _ | (refine Below.setCell ?_ (by first | (simp; done) | (simp; omega) | omega) _) | apply bd | apply ba | apply be))) (by exact ox11.read.keep (by repeat (first | exact Below.refl _ _ | with_reducible assumption | exact below_alloc _ _ | (refine Below.setCell ?_ (by first | (simp; done) | (simp; omega) | omega) _) | apply bd | apply ba | apply be))) (by exact ox12.read.keep (by repeat (first | exact Below.refl _ _ | with_reducible assumption | exact below_alloc _ _ | (refine Below.setCell ?_ (by first | (simp; done) | (simp; omega) | omega) _) | apply bd | apply ba | apply be))) (by exact ox2.read.keep (by repeat (first | exact Below.refl _ _ | with_reducible assumption | exact below_alloc _ _ | (refine Below.setCell ?_ (by first | (simp; done) | (simp; omega) | omega) _) | apply bd | apply ba | apply be)))) HT.out).mono ?_
    rintro e gW ⟨rfl, hb⟩
    have hng : n2.heap.size ≤ gW.heap.size := by have := hb.size; omega
    replace hc01 := cell_keep hb hc01
    replace hc02 := cell_keep hb hc02
    replace hc11 := cell_keep hb hc11
    replace hc12 := cell_keep hb hc12
    replace hx01 := cell_keep hb hx01
    replace hx02 := cell_keep hb hx02
    replace hx11 := cell_keep hb hx11
    replace hx12 := cell_keep hb hx12
    replace ox01 := ox01.keep hb
    replace ox02 := ox02.keep hb
    replace ox11 := ox11.keep hb
    replace ox12 := ox12.keep hb
    replace ox2 := ox2.keep hb
    replace hW := bt hW hb
    clear hb
    have hmg_0 : w.heap.size < gW.heap.size := by omega
    have hmg_1 : w.heap.size + 1 < gW.heap.size := by omega
    have hmgx_0 : n0.heap.size < gW.heap.size := by omega
    have hmgx_1 : n1.heap.size < gW.heap.size := by omega
    go_wp2
    go_region_held3 (fun w' => (w'.cell? ⟨w.heap.size, 0, none⟩ = some (.slice va01 l0.1.length vc01) ∧ w'.cell? ⟨w.heap.size, 1, none⟩ = some (.slice va02 l0.2.length vc02)) ∧ (w'.cell? ⟨n0.heap.size, 0, none⟩ = some (.slice xa01 l0.1.length xc01) ∧ w'.cell? ⟨n0.heap.size, 1, none⟩ = some (.slice xa02 l0.2.length xc02)))
      (exact ⟨⟨cell_keep (by repeat (first | exact Below.refl _ _ | with_reducible assumption | exact below_alloc _ _ | (refine Below.setCell ?_ (by first | (simp; done) | (simp; omega) | omega) _) | apply bd | apply ba | apply be)) hc01, cell_keep (by repeat (first | exact Below.refl _ _ | with_reducible assumption | exact below_alloc _ _ | (refine Below.setCell ?_ (by first | (simp; done) | (simp; omega) | omega) _) | apply bd | apply ba | apply be)) hc02⟩, ⟨cell_keep (by repeat (first | exact Below.refl _ _ | with_reducible assumption | exact below_alloc _ _ | (refine Below.setCell ?_ (by first | (simp; done) | (simp; omega) | omega) _) | apply bd | apply ba | apply be)) hx01, cell_keep (by repeat (first | exact Below.refl _ _ | with_reducible assumption | exact below_alloc _ _ | (refine Below.setCell ?_ (by first | (simp; done) | (simp; omega) | omega) _) | apply bd | apply ba | apply be)) hx02⟩⟩)
      (first
        | (go_at_call 18; go_must (refine (toAssertion_rl _ _ l0 _ (h01.keep (bt hW (by repeat (first | exact Below.refl _ _ | with_reducible assumption | exact below_alloc _ _ | (refine Below.setCell ?_ (by first | (simp; done) | (simp; omega) | omega) _) | apply bd | apply ba | apply be)))) (h02.keep (bt hW (by repeat (first | exact Below.refl _ _ | with_reducible assumption | exact below_alloc _ _ | (refine Below.setCell ?_ (by first | (simp; done) | (simp; omega) | omega) _) | apply bd | apply ba | apply be)))) hs0).mono ?_; rintro e fW ⟨s1, s2, rfl, ⟨_, _, os1, os2, _⟩, hb9'⟩; have qs1 := os1.read; have qs2 := os2.read; clear os1 os2; obtain ⟨sa1, sc1, rfl⟩ := qs1.form; obtain ⟨sa2, sc2, rfl⟩ := qs2.form; have hb9 : Below gW.heap.size gW fW := bt (by repeat (first | exact Below.refl _ _ | with_reducible assumption | exact below_alloc _ _ | (refine Below.setCell ?_ (by first | (simp; done) | (simp; omega) | omega) _) | apply bd | apply ba | apply be)) hb9'))
        | (go_at_call 21; go_must (refine (cb (b := true) (eqAssertion_rl _ _ _ _ l0 l0 _ (ox01.read.keep (by repeat (first | exact Below.refl _ _ | with_reducible assumption | exact below_alloc _ _ | (refine Below.setCell ?_ (by first | (simp; done) | (simp; omega) | omega) _) | apply bd | apply ba | apply be))) (ox02.read.keep (by repeat (first | exact Below.refl _ _ | with_reducible assumption | exact below_alloc _ _ | (refine Below.setCell ?_ (by first | (simp; done) | (simp; omega) | omega) _) | apply bd | apply ba | apply be))) (qs1.keep (by first | exact Below.refl _ _ | exact below_drew _)) (qs2.keep (by first | exact Below.refl _ _ | exact below_drew _))) (by simp)).mono ?_; rintro e t0w ⟨rfl, hbq'⟩; have hb : Below gW.heap.size gW t0w := bt (bt hb9 (by repeat (first | exact Below.refl _ _ | with_reducible assumption | exact below_alloc _ _ | (refine Below.setCell ?_ (by first | (simp; done) | (simp; omega) | omega) _) | apply bd | apply ba | apply be))) hbq')))
    all_goals
      clear hb9 hb9' hbq' qs1 qs2
      replace hc01 := cell_keep hb hc01
      replace hc02 := cell_keep hb hc02
      replace hc11 := cell_keep hb hc11
      replace hc12 := cell_keep hb hc12
      replace hx01 := cell_keep hb hx01
      replace hx02 := cell_keep hb hx02
      replace hx11 := cell_keep hb hx11
      replace hx12 := cell_keep hb hx12
      replace ox01 := ox01.keep hb
      replace ox02 := ox02.keep hb
      replace ox11 := ox11.keep hb
      replace ox12 := ox12.keep hb
      replace ox2 := ox2.keep hb
      replace hW := bt hW hb
      clear hb
      go_wp2
      go_region_held3 (fun w' => (w'.cell? ⟨w.heap.size + 1, 0, none⟩ = some (.slice va11 l1.1.length vc11) ∧ w'.cell? ⟨w.heap.size + 1, 1, none⟩ = some (.slice va12 l1.2.length vc12)) ∧ (w'.cell? ⟨n1.heap.size, 0, none⟩ = some (.slice xa11 l1.1.length xc11) ∧ w'.cell? ⟨n1.heap.size, 1, none⟩ = some (.slice xa12 l1.2.length xc12)))
        (exact ⟨⟨cell_keep (by repeat (first | exact Below.refl _ _ | with_reducible assumption | exact below_alloc _ _ | (refine Below.setCell ?_ (by first | (simp; done) | (simp; omega) | omega) _) | apply bd | apply ba | apply be)) hc11, cell_keep (by repeat (first | exact Below.refl _ _ | with_reducible assumption | exact below_alloc _ _ | (refine Below.setCell ?_ (by first | (simp; done) | (simp; omega) | omega) _) | apply bd | apply ba | apply be)) hc12⟩, ⟨cell_keep (by repeat (first | exact Below.refl _ _ | with_reducible assumption | exact below_alloc _ _ | (refine Below.setCell ?_ (by first | (simp; done) | (simp; omega) | omega) _) | apply bd | apply ba | apply be)) hx11, cell_keep (by repeat (first | exact Below.refl _ _ | with_reducible assumption | exact below_alloc _ _ | (refine Below.setCell ?_ (by first | (simp; done) | (simp; omega) | omega) _) | apply bd | apply ba | apply be)) hx12⟩⟩)
        (first
          | (go_at_call 18; go_must (refine (toAssertion_rl _ _ l1 _ (h11.keep (bt hW (by repeat (first | exact Below.refl _ _ | with_reducible assumption | exact below_alloc _ _ | (refine Below.setCell ?_ (by first | (simp; done) | (simp; omega) | omega) _) | apply bd | apply ba | apply be)))) (h12.keep (bt hW (by repeat (first | exact Below.refl _ _ | with_reducible assumption | exact below_alloc _ _ | (refine Below.setCell ?_ (by first | (simp; done) | (simp; omega) | omega) _) | apply bd | apply ba | apply be)))) hs1).mono ?_; rintro e fW ⟨s1, s2, rfl, ⟨_, _, os1, os2, _⟩, hb9'⟩; have qs1 := os1.read; have qs2 := os2.read; clear os1 os2; obtain ⟨sa1, sc1, rfl⟩ := qs1.form; obtain ⟨sa2, sc2, rfl⟩ := qs2.form; have hb9 : Below t0w.heap.size t0w fW := bt (by repeat (first | exact Below.refl _ _ | with_reducible assumption | exact below_alloc _ _ | (refine Below.setCell ?_ (by first | (simp; done) | (simp; omega) | omega) _) | apply bd | apply ba | apply be)) hb9'))
          | (go_at_call 21; go_must (refine (cb (b := true) (eqAssertion_rl _ _ _ _ l1 l1 _ (ox11.read.keep (by repeat (first | exact Below.refl _ _ | with_reducible assumption | exact below_alloc _ _ | (refine Below.setCell ?_ (by first | (simp; done) | (simp; omega) | omega) _) | apply bd | apply ba | apply be))) (ox12.read.keep (by repeat (first | exact Below.refl _ _ | with_reducible assumption | exact below_alloc _ _ | (refine Below.setCell ?_ (by first | (simp; done) | (simp; omega) | omega) _) | apply bd | apply ba | apply be))) (qs1.keep (by first | exact Below.refl _ _ | exact below_drew _)) (qs2.keep (by first | exact Below.refl _ _ | exact below_drew _))) (by simp)).mono ?_; rintro e t1w ⟨rfl, hbq'⟩; have hb : Below t0w.heap.size t0w t1w := bt (bt hb9 (by repeat (first | exact Below.refl _ _ | with_reducible assumption | exact below_alloc _ _ | (refine Below.setCell ?_ (by first | (simp; done) | (simp; omega) | omega) _) | apply bd | apply ba | apply be))) hbq')))
      all_goals
        clear hb9 hb9' hbq' qs1 qs2
        replace hc01 := cell_keep hb hc01
        replace hc02 := cell_keep hb hc02
        replace hc11 := cell_keep hb hc11
        replace hc12 := cell_keep hb hc12
        replace hx01 := cell_keep hb hx01
        replace hx02 := cell_keep hb hx02
        replace hx11 := cell_keep hb hx11
        replace hx12 := cell_keep hb hx12
        replace ox01 := ox01.keep hb
        replace ox02 := ox02.keep hb
        replace ox11 := ox11.keep hb
        replace ox12 := ox12.keep hb
        replace ox2 := ox2.keep hb
        replace hW := bt hW hb
        clear hb
        go_wp2_with fail
        refine (toCaseProofS_rl _ l2 _ (h2.keep hW) hs2).mono ?_
        rintro e fW ⟨s1, rfl, os1, hb⟩
        obtain ⟨sa1, sc1, rfl⟩ := os1.form
        replace hc01 := cell_keep hb hc01
        replace hc02 := cell_keep hb hc02
        replace hc11 := cell_keep hb hc11
        replace hc12 := cell_keep hb hc12
        replace hx01 := cell_keep hb hx01
        replace hx02 := cell_keep hb hx02
        replace hx11 := cell_keep hb hx11
        replace hx12 := cell_keep hb hx12
        replace ox01 := ox01.keep hb
        replace ox02 := ox02.keep hb
        replace ox11 := ox11.keep hb
        replace ox12 := ox12.keep hb
        replace ox2 := ox2.keep hb
        replace hW := bt hW hb
        clear hb
        go_wp2_with fail
        refine (cb (b := true) (eqCaseProofS_rl _ _ l2 l2 _ ox2.read os1.read) (by simp)).mono ?_
        rintro e t2w ⟨rfl, hb⟩
        replace hc01 := cell_keep hb hc01
        replace hc02 := cell_keep hb hc02
        replace hc11 := cell_keep hb hc11
        replace hc12 := cell_keep hb hc12
        replace hx01 := cell_keep hb hx01
        replace hx02 := cell_keep hb hx02
        replace hx11 := cell_keep hb hx11
        replace hx12 := cell_keep hb hx12
        replace ox01 := ox01.keep hb
        replace ox02 := ox02.keep hb
        replace ox11 := ox11.keep hb
        replace ox12 := ox12.keep hb
        replace ox2 := ox2.keep hb
        replace hW := bt hW hb
        clear hb os1
        go_wp2
        go_ret
        exact ⟨rfl, hW⟩
end Go.Proofs.Ytobbilbkjiemiaa
