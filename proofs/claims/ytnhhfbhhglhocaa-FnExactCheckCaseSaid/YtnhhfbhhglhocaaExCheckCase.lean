/- The walk of the law FnExactCheckCase. -/
import Derived.Test.YtnhhfbhhglhocaaCase13
import Derived.Test.YtnhhfbhhglhocaaCase14
import Derived.Test.YtnhhfbhhglhocaaCase15
import Derived.Deep.RegionHeld3
namespace Go.Proofs.Ytnhhfbhhglhocaa
open Go.RowKit

set_option maxRecDepth 100000 in
set_option maxHeartbeats 6400000 in
theorem fnExactCheckCase_walk {S1 S2 S3 S4 S5 S6 : Nat → Prop} (v1 v2 u1 u2 p1 p2 : Value) (a b : Asn) (p : CPf) (w : World) (h1 : RL w S1 v1 a.1) (h2 : RL w S2 v2 a.2) (k1 : RL w S3 u1 b.1) (k2 : RL w S4 u2 b.2) (j1 : RL w S5 p1 p.1) (j2 : RL w S6 p2 p.2) :
    Calls Try.prog 11 #[.agg #[v1, v2], .agg #[u1, u2], .agg #[p1, p2]] w fun e w' => e = .returned (.bool true) ∧ Below w.heap.size w w' := by
  obtain ⟨xa1, xc1, rfl⟩ := h1.form
  obtain ⟨xa2, xc2, rfl⟩ := h2.form
  obtain ⟨ya1, yc1, rfl⟩ := k1.form
  obtain ⟨ya2, yc2, rfl⟩ := k2.form
  obtain ⟨za1, zc1, rfl⟩ := j1.form
  obtain ⟨za2, zc2, rfl⟩ := j2.form
  have hsp0 : (1048576 : Int) < (Mk.size a : Nat) ∨ ((Mk.size a : Nat) : Int) ≤ (1048576 : Int) := by omega
  rcases hsp0 with hbig | hfit0
  · have HB := Lib.hid (szF_big hbig)
    clear hbig
    go_enter Try.func11, Try.ntmps11
    go_wp2_with fail
    refine (szAssertion_rl _ _ a _ _ (h1.keep (by repeat (first | exact Below.refl _ _ | with_reducible assumption | exact below_alloc _ _ | (refine Below.setCell ?_ (by first | (simp; done) | (simp; omega) | omega) _) | apply bd | apply ba | apply be))) (h2.keep (by repeat (first | exact Below.refl _ _ | with_reducible assumption | exact below_alloc _ _ | (refine Below.setCell ?_ (by first | (simp; done) | (simp; omega) | omega) _) | apply bd | apply ba | apply be))) (by omega) (by omega)).mono ?_
    rw [HB.out]
    rintro e z ⟨rfl, hb⟩
    go_wp2
    go_ret
    exact ⟨rfl, bt (by repeat (first | exact Below.refl _ _ | with_reducible assumption | exact below_alloc _ _ | (refine Below.setCell ?_ (by first | (simp; done) | (simp; omega) | omega) _) | apply bd | apply ba | apply be)) hb⟩
  have HS0 := Lib.hid (szF_fit hfit0)
  have hs0 : Mk.size a ≤ 1048576 := by omega
  have hnn0 : ¬ (1048576 : Int) - ((Mk.size a : Nat) : Int) < 0 := by omega
  have hsp1 : (1048576 : Int) - ((Mk.size a : Nat) : Int) < (Mk.size b : Nat) ∨ ((Mk.size b : Nat) : Int) ≤ (1048576 : Int) - ((Mk.size a : Nat) : Int) := by omega
  rcases hsp1 with hbig | hfit1
  · have HB := Lib.hid (szF_big hbig)
    clear hbig
    go_enter Try.func11, Try.ntmps11
    go_wp2_with fail
    refine (szAssertion_rl _ _ a _ _ (h1.keep (by repeat (first | exact Below.refl _ _ | with_reducible assumption | exact below_alloc _ _ | (refine Below.setCell ?_ (by first | (simp; done) | (simp; omega) | omega) _) | apply bd | apply ba | apply be))) (h2.keep (by repeat (first | exact Below.refl _ _ | with_reducible assumption | exact below_alloc _ _ | (refine Below.setCell ?_ (by first | (simp; done) | (simp; omega) | omega) _) | apply bd | apply ba | apply be))) (by omega) (by omega)).mono ?_
    rw [HS0.out]
    rintro e z0 ⟨rfl, hb⟩
    have hc01 := cell_keep hb (p := ⟨w.heap.size, 0, none⟩) (v := .slice xa1 a.1.length xc1) (by simp [go_sem])
    have hc02 := cell_keep hb (p := ⟨w.heap.size, 1, none⟩) (v := .slice xa2 a.2.length xc2) (by simp [go_sem])
    have hc11 := cell_keep hb (p := ⟨w.heap.size + 1, 0, none⟩) (v := .slice ya1 b.1.length yc1) (by simp [go_sem])
    have hc12 := cell_keep hb (p := ⟨w.heap.size + 1, 1, none⟩) (v := .slice ya2 b.2.length yc2) (by simp [go_sem])
    have hc21 := cell_keep hb (p := ⟨w.heap.size + 1 + 1, 0, none⟩) (v := .slice za1 p.1.length zc1) (by simp [go_sem])
    have hc22 := cell_keep hb (p := ⟨w.heap.size + 1 + 1, 1, none⟩) (v := .slice za2 p.2.length zc2) (by simp [go_sem])
    have hW : Below w.heap.size w z0 := bt (by repeat (first | exact Below.refl _ _ | with_reducible assumption | exact below_alloc _ _ | (refine Below.setCell ?_ (by first | (simp; done) | (simp; omega) | omega) _) | apply bd | apply ba | apply be)) hb
    clear hb
    go_wp2_with fail
    refine (szAssertion_rl _ _ b _ _ (k1.keep hW) (k2.keep hW) (by omega) (by omega)).mono ?_
    rw [HB.out]
    rintro e z ⟨rfl, hb⟩
    go_wp2
    go_ret
    exact ⟨rfl, bt hW hb⟩
  have HS1 := Lib.hid (szF_fit hfit1)
  have hs1 : Mk.size b ≤ 1048576 := by omega
  have hnn1 : ¬ (1048576 : Int) - ((Mk.size a : Nat) : Int) - ((Mk.size b : Nat) : Int) < 0 := by omega
  have hsp2 : (1048576 : Int) - ((Mk.size a : Nat) : Int) - ((Mk.size b : Nat) : Int) < (Mk.size p : Nat) ∨ ((Mk.size p : Nat) : Int) ≤ (1048576 : Int) - ((Mk.size a : Nat) : Int) - ((Mk.size b : Nat) : Int) := by omega
  rcases hsp2 with hbig | hfit2
  · have HB := Lib.hid (szF_big hbig)
    clear hbig
    go_enter Try.func11, Try.ntmps11
    go_wp2_with fail
    refine (szAssertion_rl _ _ a _ _ (h1.keep (by repeat (first | exact Below.refl _ _ | with_reducible assumption | exact below_alloc _ _ | (refine Below.setCell ?_ (by first | (simp; done) | (simp; omega) | omega) _) | apply bd | apply ba | apply be))) (h2.keep (by repeat (first | exact Below.refl _ _ | with_reducible assumption | exact below_alloc _ _ | (refine Below.setCell ?_ (by first | (simp; done) | (simp; omega) | omega) _) | apply bd | apply ba | apply be))) (by omega) (by omega)).mono ?_
    rw [HS0.out]
    rintro e z0 ⟨rfl, hb⟩
    have hc01 := cell_keep hb (p := ⟨w.heap.size, 0, none⟩) (v := .slice xa1 a.1.length xc1) (by simp [go_sem])
    have hc02 := cell_keep hb (p := ⟨w.heap.size, 1, none⟩) (v := .slice xa2 a.2.length xc2) (by simp [go_sem])
    have hc11 := cell_keep hb (p := ⟨w.heap.size + 1, 0, none⟩) (v := .slice ya1 b.1.length yc1) (by simp [go_sem])
    have hc12 := cell_keep hb (p := ⟨w.heap.size + 1, 1, none⟩) (v := .slice ya2 b.2.length yc2) (by simp [go_sem])
    have hc21 := cell_keep hb (p := ⟨w.heap.size + 1 + 1, 0, none⟩) (v := .slice za1 p.1.length zc1) (by simp [go_sem])
    have hc22 := cell_keep hb (p := ⟨w.heap.size + 1 + 1, 1, none⟩) (v := .slice za2 p.2.length zc2) (by simp [go_sem])
    have hW : Below w.heap.size w z0 := bt (by repeat (first | exact Below.refl _ _ | with_reducible assumption | exact below_alloc _ _ | (refine Below.setCell ?_ (by first | (simp; done) | (simp; omega) | omega) _) | apply bd | apply ba | apply be)) hb
    clear hb
    go_wp2_with fail
    refine (szAssertion_rl _ _ b _ _ (k1.keep hW) (k2.keep hW) (by omega) (by omega)).mono ?_
    rw [HS1.out]
    rintro e z1 ⟨rfl, hb⟩
    replace hc01 := cell_keep hb hc01; replace hc02 := cell_keep hb hc02; replace hc11 := cell_keep hb hc11; replace hc12 := cell_keep hb hc12; replace hc21 := cell_keep hb hc21; replace hc22 := cell_keep hb hc22; replace hW := bt hW hb; clear hb
    go_wp2_with fail
    refine (szCaseProof_rl _ _ p _ _ (j1.keep hW) (j2.keep hW) (by omega) (by omega)).mono ?_
    rw [HB.out]
    rintro e z ⟨rfl, hb⟩
    go_wp2
    go_ret
    exact ⟨rfl, bt hW hb⟩
  have HS2 := Lib.hid (szF_fit hfit2)
  have hs2 : Mk.size p ≤ 1048576 := by omega
  have hnn2 : ¬ (1048576 : Int) - ((Mk.size a : Nat) : Int) - ((Mk.size b : Nat) : Int) - ((Mk.size p : Nat) : Int) < 0 := by omega
  obtain ⟨t, ht⟩ : ∃ t, checkC a b p = t := ⟨_, rfl⟩
  have HT := Lib.hid ht
  have hbne : (t != t) = false := by cases t <;> rfl
  clear hfit0 hfit1 hfit2 ht
  go_enter Try.func11, Try.ntmps11
  go_wp2_with fail
  refine (szAssertion_rl _ _ a _ _ (h1.keep (by repeat (first | exact Below.refl _ _ | with_reducible assumption | exact below_alloc _ _ | (refine Below.setCell ?_ (by first | (simp; done) | (simp; omega) | omega) _) | apply bd | apply ba | apply be))) (h2.keep (by repeat (first | exact Below.refl _ _ | with_reducible assumption | exact below_alloc _ _ | (refine Below.setCell ?_ (by first | (simp; done) | (simp; omega) | omega) _) | apply bd | apply ba | apply be))) (by omega) (by omega)).mono ?_
  rw [HS0.out]
  rintro e z0 ⟨rfl, hb⟩
  have hc01 := cell_keep hb (p := ⟨w.heap.size, 0, none⟩) (v := .slice xa1 a.1.length xc1) (by simp [go_sem])
  have hc02 := cell_keep hb (p := ⟨w.heap.size, 1, none⟩) (v := .slice xa2 a.2.length xc2) (by simp [go_sem])
  have hc11 := cell_keep hb (p := ⟨w.heap.size + 1, 0, none⟩) (v := .slice ya1 b.1.length yc1) (by simp [go_sem])
  have hc12 := cell_keep hb (p := ⟨w.heap.size + 1, 1, none⟩) (v := .slice ya2 b.2.length yc2) (by simp [go_sem])
  have hc21 := cell_keep hb (p := ⟨w.heap.size + 1 + 1, 0, none⟩) (v := .slice za1 p.1.length zc1) (by simp [go_sem])
  have hc22 := cell_keep hb (p := ⟨w.heap.size + 1 + 1, 1, none⟩) (v := .slice za2 p.2.length zc2) (by simp [go_sem])
  have hW : Below w.heap.size w z0 := bt (by repeat (first | exact Below.refl _ _ | with_reducible assumption | exact below_alloc _ _ | (refine Below.setCell ?_ (by first | (simp; done) | (simp; omega) | omega) _) | apply bd | apply ba | apply be)) hb
  clear hb
  go_wp2_with fail
  refine (szAssertion_rl _ _ b _ _ (k1.keep hW) (k2.keep hW) (by omega) (by omega)).mono ?_
  rw [HS1.out]
  rintro e z1 ⟨rfl, hb⟩
  replace hc01 := cell_keep hb hc01; replace hc02 := cell_keep hb hc02; replace hc11 := cell_keep hb hc11; replace hc12 := cell_keep hb hc12; replace hc21 := cell_keep hb hc21; replace hc22 := cell_keep hb hc22; replace hW := bt hW hb; clear hb
  go_wp2_with fail
  refine (szCaseProof_rl _ _ p _ _ (j1.keep hW) (j2.keep hW) (by omega) (by omega)).mono ?_
  rw [HS2.out]
  rintro e z2 ⟨rfl, hb⟩
  replace hc01 := cell_keep hb hc01; replace hc02 := cell_keep hb hc02; replace hc11 := cell_keep hb hc11; replace hc12 := cell_keep hb hc12; replace hc21 := cell_keep hb hc21; replace hc22 := cell_keep hb hc22; replace hW := bt hW hb; clear hb
  go_wp2
  go_region_held3 (fun w' => (w'.cell? ⟨w.heap.size, 0, none⟩ = some (.slice xa1 a.1.length xc1) ∧ w'.cell? ⟨w.heap.size, 1, none⟩ = some (.slice xa2 a.2.length xc2)) ∧ (w'.cell? ⟨w.heap.size + 1, 0, none⟩ = some (.slice ya1 b.1.length yc1) ∧ w'.cell? ⟨w.heap.size + 1, 1, none⟩ = some (.slice ya2 b.2.length yc2)) ∧ (w'.cell? ⟨w.heap.size + 1 + 1, 0, none⟩ = some (.slice za1 p.1.length zc1) ∧ w'.cell? ⟨w.heap.size + 1 + 1, 1, none⟩ = some (.slice za2 p.2.length zc2)))
    (exact ⟨⟨cell_keep (by repeat (first | exact Below.refl _ _ | with_reducible assumption | exact below_alloc _ _ | (refine Below.setCell ?_ (by first | (simp; done) | (simp; omega) | omega) _) | apply bd | apply ba | apply be)) hc01, cell_keep (by repeat (first | exact Below.refl _ _ | with_reducible assumption | exact below_alloc _ _ | (refine Below.setCell ?_ (by first | (simp; done) | (simp; omega) | omega) _) | apply bd | apply ba | apply be)) hc02⟩, ⟨cell_keep (by repeat (first | exact Below.refl _ _ | with_reducible assumption | exact below_alloc _ _ | (refine Below.setCell ?_ (by first | (simp; done) | (simp; omega) | omega) _) | apply bd | apply ba | apply be)) hc11, cell_keep (by repeat (first | exact Below.refl _ _ | with_reducible assumption | exact below_alloc _ _ | (refine Below.setCell ?_ (by first | (simp; done) | (simp; omega) | omega) _) | apply bd | apply ba | apply be)) hc12⟩, ⟨cell_keep (by repeat (first | exact Below.refl _ _ | with_reducible assumption | exact below_alloc _ _ | (refine Below.setCell ?_ (by first | (simp; done) | (simp; omega) | omega) _) | apply bd | apply ba | apply be)) hc21, cell_keep (by repeat (first | exact Below.refl _ _ | with_reducible assumption | exact below_alloc _ _ | (refine Below.setCell ?_ (by first | (simp; done) | (simp; omega) | omega) _) | apply bd | apply ba | apply be)) hc22⟩⟩)
    (first
      | (go_at_call 45; (with_reducible refine (toAssertion_rl (.slice xa1 a.1.length xc1) (.slice xa2 a.2.length xc2) a _ (h1.keep (bt hW (by repeat (first | exact Below.refl _ _ | with_reducible assumption | exact below_alloc _ _ | (refine Below.setCell ?_ (by first | (simp; done) | (simp; omega) | omega) _) | apply bd | apply ba | apply be)))) (h2.keep (bt hW (by repeat (first | exact Below.refl _ _ | with_reducible assumption | exact below_alloc _ _ | (refine Below.setCell ?_ (by first | (simp; done) | (simp; omega) | omega) _) | apply bd | apply ba | apply be)))) hs0).mono ?_); rintro e y0 ⟨r01, r02, rfl, ⟨_, _, oo01, oo02, _⟩, hb0'⟩; have q01 := oo01.read; have q02 := oo02.read; clear oo01 oo02; obtain ⟨ra01, rc01, rfl⟩ := q01.form; obtain ⟨ra02, rc02, rfl⟩ := q02.form; have hb0s : Below z2.heap.size z2 y0 := bt (by repeat (first | exact Below.refl _ _ | with_reducible assumption | exact below_alloc _ _ | (refine Below.setCell ?_ (by first | (simp; done) | (simp; omega) | omega) _) | apply bd | apply ba | apply be)) hb0')
      | (go_at_call 45; (with_reducible refine (toAssertion_rl (.slice ya1 b.1.length yc1) (.slice ya2 b.2.length yc2) b _ (k1.keep (bt hW (by repeat (first | exact Below.refl _ _ | with_reducible assumption | exact below_alloc _ _ | (refine Below.setCell ?_ (by first | (simp; done) | (simp; omega) | omega) _) | apply bd | apply ba | apply be)))) (k2.keep (bt hW (by repeat (first | exact Below.refl _ _ | with_reducible assumption | exact below_alloc _ _ | (refine Below.setCell ?_ (by first | (simp; done) | (simp; omega) | omega) _) | apply bd | apply ba | apply be)))) hs1).mono ?_); rintro e y1 ⟨r11, r12, rfl, ⟨_, _, oo11, oo12, _⟩, hb1'⟩; have q11 := oo11.read; have q12 := oo12.read; clear oo11 oo12; obtain ⟨ra11, rc11, rfl⟩ := q11.form; obtain ⟨ra12, rc12, rfl⟩ := q12.form; have hb1s : Below z2.heap.size z2 y1 := bt (by repeat (first | exact Below.refl _ _ | with_reducible assumption | exact below_alloc _ _ | (refine Below.setCell ?_ (by first | (simp; done) | (simp; omega) | omega) _) | apply bd | apply ba | apply be)) hb1'; replace q01 := q01.keep (bt (by repeat (first | exact Below.refl _ _ | with_reducible assumption | exact below_alloc _ _ | (refine Below.setCell ?_ (by first | (simp; done) | (simp; omega) | omega) _) | apply bd | apply ba | apply be)) hb1'); replace q02 := q02.keep (bt (by repeat (first | exact Below.refl _ _ | with_reducible assumption | exact below_alloc _ _ | (refine Below.setCell ?_ (by first | (simp; done) | (simp; omega) | omega) _) | apply bd | apply ba | apply be)) hb1'))
      | (go_at_call 46; (with_reducible refine (toCaseProof_rl (.slice za1 p.1.length zc1) (.slice za2 p.2.length zc2) p _ (j1.keep (bt hW (by repeat (first | exact Below.refl _ _ | with_reducible assumption | exact below_alloc _ _ | (refine Below.setCell ?_ (by first | (simp; done) | (simp; omega) | omega) _) | apply bd | apply ba | apply be)))) (j2.keep (bt hW (by repeat (first | exact Below.refl _ _ | with_reducible assumption | exact below_alloc _ _ | (refine Below.setCell ?_ (by first | (simp; done) | (simp; omega) | omega) _) | apply bd | apply ba | apply be)))) hs2).mono ?_); rintro e y2 ⟨r21, r22, rfl, ⟨_, _, oo21, oo22, _⟩, hb2'⟩; have q21 := oo21.read; have q22 := oo22.read; clear oo21 oo22; obtain ⟨ra21, rc21, rfl⟩ := q21.form; obtain ⟨ra22, rc22, rfl⟩ := q22.form; have hb2s : Below z2.heap.size z2 y2 := bt (by repeat (first | exact Below.refl _ _ | with_reducible assumption | exact below_alloc _ _ | (refine Below.setCell ?_ (by first | (simp; done) | (simp; omega) | omega) _) | apply bd | apply ba | apply be)) hb2'; replace q01 := q01.keep (bt (by repeat (first | exact Below.refl _ _ | with_reducible assumption | exact below_alloc _ _ | (refine Below.setCell ?_ (by first | (simp; done) | (simp; omega) | omega) _) | apply bd | apply ba | apply be)) hb2'); replace q02 := q02.keep (bt (by repeat (first | exact Below.refl _ _ | with_reducible assumption | exact below_alloc _ _ | (refine Below.setCell ?_ (by first | (simp; done) | (simp; omega) | omega) _) | apply bd | apply ba | apply be)) hb2'); replace q11 := q11.keep (bt (by repeat (first | exact Below.refl _ _ | with_reducible assumption | exact below_alloc _ _ | (refine Below.setCell ?_ (by first | (simp; done) | (simp; omega) | omega) _) | apply bd | apply ba | apply be)) hb2'); replace q12 := q12.keep (bt (by repeat (first | exact Below.refl _ _ | with_reducible assumption | exact below_alloc _ _ | (refine Below.setCell ?_ (by first | (simp; done) | (simp; omega) | omega) _) | apply bd | apply ba | apply be)) hb2'))
      | (go_at_call 44; go_must (refine (cb (checkCaseS_any _ _ _ _ _ _ a b p _ (q01.keep (by repeat (first | exact Below.refl _ _ | with_reducible assumption | exact below_alloc _ _ | (refine Below.setCell ?_ (by first | (simp; done) | (simp; omega) | omega) _) | apply bd | apply ba | apply be))) (q02.keep (by repeat (first | exact Below.refl _ _ | with_reducible assumption | exact below_alloc _ _ | (refine Below.setCell ?_ (by first | (simp; done) | (simp; omega) | omega) _) | apply bd | apply ba | apply be))) (q11.keep (by repeat (first | exact Below.refl _ _ | with_reducible assumption | exact below_alloc _ _ | (refine Below.setCell ?_ (by first | (simp; done) | (simp; omega) | omega) _) | apply bd | apply ba | apply be))) (q12.keep (by repeat (first | exact Below.refl _ _ | with_reducible assumption | exact below_alloc _ _ | (refine Below.setCell ?_ (by first | (simp; done) | (simp; omega) | omega) _) | apply bd | apply ba | apply be))) (q21.keep (by repeat (first | exact Below.refl _ _ | with_reducible assumption | exact below_alloc _ _ | (refine Below.setCell ?_ (by first | (simp; done) | (simp; omega) | omega) _) | apply bd | apply ba | apply be))) (q22.keep (by repeat (first | exact Below.refl _ _ | with_reducible assumption | exact below_alloc _ _ | (refine Below.setCell ?_ (by first | (simp; done) | (simp; omega) | omega) _) | apply bd | apply ba | apply be)))) HT.out).mono ?_; rintro e y3 ⟨rfl, hb3'⟩; have hb : Below z2.heap.size z2 y3 := bt (bt hb2s (by repeat (first | exact Below.refl _ _ | with_reducible assumption | exact below_alloc _ _ | (refine Below.setCell ?_ (by first | (simp; done) | (simp; omega) | omega) _) | apply bd | apply ba | apply be))) hb3')))
  all_goals
    clear hb0' hb1' hb2' hb3' hb0s hb1s hb2s q01 q02 q11 q12 q21 q22
    replace hc01 := cell_keep hb hc01; replace hc02 := cell_keep hb hc02; replace hc11 := cell_keep hb hc11; replace hc12 := cell_keep hb hc12; replace hc21 := cell_keep hb hc21; replace hc22 := cell_keep hb hc22; replace hW := bt hW hb; clear hb
    go_wp2_with fail
    refine (toAssertion_rl _ _ a _ (by exact h1.keep hW) (by exact h2.keep hW) hs0).mono ?_
    rintro e n0 ⟨r01, r02, rfl, ⟨_, _, oo01, oo02, _⟩, hb⟩
    have q01 := oo01.read.any
    have q02 := oo02.read.any
    clear oo01 oo02
    obtain ⟨ra01, rc01, rfl⟩ := q01.form
    obtain ⟨ra02, rc02, rfl⟩ := q02.form
    replace hc01 := cell_keep hb hc01; replace hc02 := cell_keep hb hc02; replace hc11 := cell_keep hb hc11; replace hc12 := cell_keep hb hc12; replace hc21 := cell_keep hb hc21; replace hc22 := cell_keep hb hc22; replace hW := bt hW hb; clear hb
    have hl00 : w.heap.size < n0.heap.size := World.block_lt_of_cell? n0 _ hc01
    have hl01 : w.heap.size + 1 < n0.heap.size := World.block_lt_of_cell? n0 _ hc11
    have hl02 : w.heap.size + 1 + 1 < n0.heap.size := World.block_lt_of_cell? n0 _ hc21
    go_wp2_with fail
    refine (toAssertion_rl _ _ b _ (by exact k1.keep (bt hW (by repeat (first | exact Below.refl _ _ | with_reducible assumption | exact below_alloc _ _ | (refine Below.setCell ?_ (by first | (simp; done) | (simp; omega) | omega) _) | apply bd | apply ba | apply be)))) (by exact k2.keep (bt hW (by repeat (first | exact Below.refl _ _ | with_reducible assumption | exact below_alloc _ _ | (refine Below.setCell ?_ (by first | (simp; done) | (simp; omega) | omega) _) | apply bd | apply ba | apply be)))) hs1).mono ?_
    rintro e n1 ⟨r11, r12, rfl, ⟨_, _, oo11, oo12, _⟩, hb⟩
    have q11 := oo11.read.any
    have q12 := oo12.read.any
    clear oo11 oo12
    obtain ⟨ra11, rc11, rfl⟩ := q11.form
    obtain ⟨ra12, rc12, rfl⟩ := q12.form
    have hx01 := cell_keep hb (p := ⟨n0.heap.size, 0, none⟩) (v := .slice ra01 a.1.length rc01) (by simp)
    have hx02 := cell_keep hb (p := ⟨n0.heap.size, 1, none⟩) (v := .slice ra02 a.2.length rc02) (by simp)
    replace hb : Below n0.heap.size n0 n1 := bt (by repeat (first | exact Below.refl _ _ | with_reducible assumption | exact below_alloc _ _ | (refine Below.setCell ?_ (by first | (simp; done) | (simp; omega) | omega) _) | apply bd | apply ba | apply be)) hb
    replace q01 := q01.keep hb
    replace q02 := q02.keep hb
    replace hc01 := cell_keep hb hc01; replace hc02 := cell_keep hb hc02; replace hc11 := cell_keep hb hc11; replace hc12 := cell_keep hb hc12; replace hc21 := cell_keep hb hc21; replace hc22 := cell_keep hb hc22; replace hW := bt hW hb; clear hb
    have hl10 : w.heap.size < n1.heap.size := World.block_lt_of_cell? n1 _ hc01
    have hl11 : w.heap.size + 1 < n1.heap.size := World.block_lt_of_cell? n1 _ hc11
    have hl12 : w.heap.size + 1 + 1 < n1.heap.size := World.block_lt_of_cell? n1 _ hc21
    have hm10 : n0.heap.size < n1.heap.size := World.block_lt_of_cell? n1 _ hx01
    go_wp2_with fail
    refine (toCaseProof_rl _ _ p _ (by exact j1.keep (bt hW (by repeat (first | exact Below.refl _ _ | with_reducible assumption | exact below_alloc _ _ | (refine Below.setCell ?_ (by first | (simp; done) | (simp; omega) | omega) _) | apply bd | apply ba | apply be)))) (by exact j2.keep (bt hW (by repeat (first | exact Below.refl _ _ | with_reducible assumption | exact below_alloc _ _ | (refine Below.setCell ?_ (by first | (simp; done) | (simp; omega) | omega) _) | apply bd | apply ba | apply be)))) hs2).mono ?_
    rintro e n2 ⟨r21, r22, rfl, ⟨_, _, oo21, oo22, _⟩, hb⟩
    have q21 := oo21.read.any
    have q22 := oo22.read.any
    clear oo21 oo22
    obtain ⟨ra21, rc21, rfl⟩ := q21.form
    obtain ⟨ra22, rc22, rfl⟩ := q22.form
    have hx11 := cell_keep hb (p := ⟨n1.heap.size, 0, none⟩) (v := .slice ra11 b.1.length rc11) (by simp)
    have hx12 := cell_keep hb (p := ⟨n1.heap.size, 1, none⟩) (v := .slice ra12 b.2.length rc12) (by simp)
    replace hb : Below n1.heap.size n1 n2 := bt (by repeat (first | exact Below.refl _ _ | with_reducible assumption | exact below_alloc _ _ | (refine Below.setCell ?_ (by first | (simp; done) | (simp; omega) | omega) _) | apply bd | apply ba | apply be)) hb
    replace q01 := q01.keep hb
    replace q02 := q02.keep hb
    replace q11 := q11.keep hb
    replace q12 := q12.keep hb
    replace hc01 := cell_keep hb hc01; replace hc02 := cell_keep hb hc02; replace hc11 := cell_keep hb hc11; replace hc12 := cell_keep hb hc12; replace hc21 := cell_keep hb hc21; replace hc22 := cell_keep hb hc22; replace hx01 := cell_keep hb hx01; replace hx02 := cell_keep hb hx02; replace hW := bt hW hb; clear hb
    have hl20 : w.heap.size < n2.heap.size := World.block_lt_of_cell? n2 _ hc01
    have hl21 : w.heap.size + 1 < n2.heap.size := World.block_lt_of_cell? n2 _ hc11
    have hl22 : w.heap.size + 1 + 1 < n2.heap.size := World.block_lt_of_cell? n2 _ hc21
    have hm20 : n0.heap.size < n2.heap.size := World.block_lt_of_cell? n2 _ hx01
    have hm21 : n1.heap.size < n2.heap.size := World.block_lt_of_cell? n2 _ hx11
    go_wp2_with fail
    refine (cb (checkCaseI_any _ _ _ _ _ _ a b p _ (by exact q01.keep (by repeat (first | exact Below.refl _ _ | with_reducible assumption | exact below_alloc _ _ | (refine Below.setCell ?_ (by first | (simp; done) | (simp; omega) | omega) _) | apply bd | apply ba | apply be))) (by exact q02.keep (by repeat (first | exact Below.refl _ _ | with_reducible assumption | exact below_alloc _ _ | (refine Below.setCell ?_ (by first | (simp; done) | (simp; omega) | omega) _) | apply bd | apply ba | apply be))) (by exact q11.keep (by repeat (first | exact Below.refl _ _ | with_reducible assumption | exact below_alloc _ _ | (refine Below.setCell ?_ (by first | (simp; done) | (simp; omega) | omega) _) | apply bd | apply ba | apply be))) (by exact q12.keep (by repeat (first | exact Below.refl _ _ | with_reducible assumption | exact below_alloc _ _ | (refine Below.setCell ?_ (by first | (simp; done) | (simp; omega) | omega) _) | apply bd | apply ba | apply be))) (by exact q21.keep (by repeat (first | exact Below.refl _ _ | with_reducible assumption | exact below_alloc _ _ | (refine Below.setCell ?_ (by first | (simp; done) | (simp; omega) | omega) _) | apply bd | apply ba | apply be))) (by exact q22.keep (by repeat (first | exact Below.refl _ _ | with_reducible assumption | exact below_alloc _ _ | (refine Below.setCell ?_ (by first | (simp; done) | (simp; omega) | omega) _) | apply bd | apply ba | apply be)))) HT.out).mono ?_
    rintro e n3 ⟨rfl, hb⟩
    have hx21 := cell_keep hb (p := ⟨n2.heap.size, 0, none⟩) (v := .slice ra21 p.1.length rc21) (by simp)
    have hx22 := cell_keep hb (p := ⟨n2.heap.size, 1, none⟩) (v := .slice ra22 p.2.length rc22) (by simp)
    replace hb : Below n2.heap.size n2 n3 := bt (by repeat (first | exact Below.refl _ _ | with_reducible assumption | exact below_alloc _ _ | (refine Below.setCell ?_ (by first | (simp; done) | (simp; omega) | omega) _) | apply bd | apply ba | apply be)) hb
    replace q01 := q01.keep hb
    replace q02 := q02.keep hb
    replace q11 := q11.keep hb
    replace q12 := q12.keep hb
    replace q21 := q21.keep hb
    replace q22 := q22.keep hb
    replace hc01 := cell_keep hb hc01; replace hc02 := cell_keep hb hc02; replace hc11 := cell_keep hb hc11; replace hc12 := cell_keep hb hc12; replace hc21 := cell_keep hb hc21; replace hc22 := cell_keep hb hc22; replace hx01 := cell_keep hb hx01; replace hx02 := cell_keep hb hx02; replace hx11 := cell_keep hb hx11; replace hx12 := cell_keep hb hx12; replace hW := bt hW hb; clear hb
    go_wp2
    go_region_held3 (fun w' => (w'.cell? ⟨w.heap.size, 0, none⟩ = some (.slice xa1 a.1.length xc1) ∧ w'.cell? ⟨w.heap.size, 1, none⟩ = some (.slice xa2 a.2.length xc2)) ∧ (w'.cell? ⟨n0.heap.size, 0, none⟩ = some (.slice ra01 a.1.length rc01) ∧ w'.cell? ⟨n0.heap.size, 1, none⟩ = some (.slice ra02 a.2.length rc02)))
      (exact ⟨⟨cell_keep (by repeat (first | exact Below.refl _ _ | with_reducible assumption | exact below_alloc _ _ | (refine Below.setCell ?_ (by first | (simp; done) | (simp; omega) | omega) _) | apply bd | apply ba | apply be)) hc01, cell_keep (by repeat (first | exact Below.refl _ _ | with_reducible assumption | exact below_alloc _ _ | (refine Below.setCell ?_ (by first | (simp; done) | (simp; omega) | omega) _) | apply bd | apply ba | apply be)) hc02⟩, ⟨cell_keep (by repeat (first | exact Below.refl _ _ | with_reducible assumption | exact below_alloc _ _ | (refine Below.setCell ?_ (by first | (simp; done) | (simp; omega) | omega) _) | apply bd | apply ba | apply be)) hx01, cell_keep (by repeat (first | exact Below.refl _ _ | with_reducible assumption | exact below_alloc _ _ | (refine Below.setCell ?_ (by first | (simp; done) | (simp; omega) | omega) _) | apply bd | apply ba | apply be)) hx02⟩⟩)
      (first
        | (go_at_call 45; go_must (refine (toAssertion_rl _ _ a _ (h1.keep (bt hW (by repeat (first | exact Below.refl _ _ | with_reducible assumption | exact below_alloc _ _ | (refine Below.setCell ?_ (by first | (simp; done) | (simp; omega) | omega) _) | apply bd | apply ba | apply be)))) (h2.keep (bt hW (by repeat (first | exact Below.refl _ _ | with_reducible assumption | exact below_alloc _ _ | (refine Below.setCell ?_ (by first | (simp; done) | (simp; omega) | omega) _) | apply bd | apply ba | apply be)))) hs0).mono ?_; rintro e f0 ⟨s1, s2, rfl, ⟨_, _, os1, os2, _⟩, hb9'⟩; have qs1 := os1.read; have qs2 := os2.read; clear os1 os2; obtain ⟨sa1, sc1, rfl⟩ := qs1.form; obtain ⟨sa2, sc2, rfl⟩ := qs2.form; have hb9 : Below n3.heap.size n3 f0 := bt (by repeat (first | exact Below.refl _ _ | with_reducible assumption | exact below_alloc _ _ | (refine Below.setCell ?_ (by first | (simp; done) | (simp; omega) | omega) _) | apply bd | apply ba | apply be)) hb9'))
        | (go_at_call 48; go_must (refine (cb (b := true) (eqAssertion_rl _ _ _ _ a a _ (q01.keep (by repeat (first | exact Below.refl _ _ | with_reducible assumption | exact below_alloc _ _ | (refine Below.setCell ?_ (by first | (simp; done) | (simp; omega) | omega) _) | apply bd | apply ba | apply be))) (q02.keep (by repeat (first | exact Below.refl _ _ | with_reducible assumption | exact below_alloc _ _ | (refine Below.setCell ?_ (by first | (simp; done) | (simp; omega) | omega) _) | apply bd | apply ba | apply be))) (qs1.keep (by first | exact Below.refl _ _ | exact below_drew _)) (qs2.keep (by first | exact Below.refl _ _ | exact below_drew _))) (by simp)).mono ?_; rintro e e0w ⟨rfl, hbq'⟩; have hb : Below n3.heap.size n3 e0w := bt (bt hb9 (by repeat (first | exact Below.refl _ _ | with_reducible assumption | exact below_alloc _ _ | (refine Below.setCell ?_ (by first | (simp; done) | (simp; omega) | omega) _) | apply bd | apply ba | apply be))) hbq')))
    all_goals
      clear hb9 hb9' hbq' qs1 qs2
      clear hc01 hc02 hx01 hx02 q01 q02
      replace q11 := q11.keep hb
      replace q12 := q12.keep hb
      replace q21 := q21.keep hb
      replace q22 := q22.keep hb
      replace hc11 := cell_keep hb hc11; replace hc12 := cell_keep hb hc12; replace hx11 := cell_keep hb hx11; replace hx12 := cell_keep hb hx12; replace hc21 := cell_keep hb hc21; replace hc22 := cell_keep hb hc22; replace hx21 := cell_keep hb hx21; replace hx22 := cell_keep hb hx22; replace hW := bt hW hb; clear hb
      go_wp2
      go_region_held3 (fun w' => (w'.cell? ⟨w.heap.size + 1, 0, none⟩ = some (.slice ya1 b.1.length yc1) ∧ w'.cell? ⟨w.heap.size + 1, 1, none⟩ = some (.slice ya2 b.2.length yc2)) ∧ (w'.cell? ⟨n1.heap.size, 0, none⟩ = some (.slice ra11 b.1.length rc11) ∧ w'.cell? ⟨n1.heap.size, 1, none⟩ = some (.slice ra12 b.2.length rc12)))
        (exact ⟨⟨cell_keep (by repeat (first | exact Below.refl _ _ | with_reducible assumption | exact below_alloc _ _ | (refine Below.setCell ?_ (by first | (simp; done) | (simp; omega) | omega) _) | apply bd | apply ba | apply be)) hc11, cell_keep (by repeat (first | exact Below.refl _ _ | with_reducible assumption | exact below_alloc _ _ | (refine Below.setCell ?_ (by first | (simp; done) | (simp; omega) | omega) _) | apply bd | apply ba | apply be)) hc12⟩, ⟨cell_keep (by repeat (first | exact Below.refl _ _ | with_reducible assumption | exact below_alloc _ _ | (refine Below.setCell ?_ (by first | (simp; done) | (simp; omega) | omega) _) | apply bd | apply ba | apply be)) hx11, cell_keep (by repeat (first | exact Below.refl _ _ | with_reducible assumption | exact below_alloc _ _ | (refine Below.setCell ?_ (by first | (simp; done) | (simp; omega) | omega) _) | apply bd | apply ba | apply be)) hx12⟩⟩)
        (first
          | (go_at_call 45; go_must (refine (toAssertion_rl _ _ b _ (k1.keep (bt hW (by repeat (first | exact Below.refl _ _ | with_reducible assumption | exact below_alloc _ _ | (refine Below.setCell ?_ (by first | (simp; done) | (simp; omega) | omega) _) | apply bd | apply ba | apply be)))) (k2.keep (bt hW (by repeat (first | exact Below.refl _ _ | with_reducible assumption | exact below_alloc _ _ | (refine Below.setCell ?_ (by first | (simp; done) | (simp; omega) | omega) _) | apply bd | apply ba | apply be)))) hs1).mono ?_; rintro e f1 ⟨s1, s2, rfl, ⟨_, _, os1, os2, _⟩, hb9'⟩; have qs1 := os1.read; have qs2 := os2.read; clear os1 os2; obtain ⟨sa1, sc1, rfl⟩ := qs1.form; obtain ⟨sa2, sc2, rfl⟩ := qs2.form; have hb9 : Below e0w.heap.size e0w f1 := bt (by repeat (first | exact Below.refl _ _ | with_reducible assumption | exact below_alloc _ _ | (refine Below.setCell ?_ (by first | (simp; done) | (simp; omega) | omega) _) | apply bd | apply ba | apply be)) hb9'))
          | (go_at_call 48; go_must (refine (cb (b := true) (eqAssertion_rl _ _ _ _ b b _ (q11.keep (by repeat (first | exact Below.refl _ _ | with_reducible assumption | exact below_alloc _ _ | (refine Below.setCell ?_ (by first | (simp; done) | (simp; omega) | omega) _) | apply bd | apply ba | apply be))) (q12.keep (by repeat (first | exact Below.refl _ _ | with_reducible assumption | exact below_alloc _ _ | (refine Below.setCell ?_ (by first | (simp; done) | (simp; omega) | omega) _) | apply bd | apply ba | apply be))) (qs1.keep (by first | exact Below.refl _ _ | exact below_drew _)) (qs2.keep (by first | exact Below.refl _ _ | exact below_drew _))) (by simp)).mono ?_; rintro e e1w ⟨rfl, hbq'⟩; have hb : Below e0w.heap.size e0w e1w := bt (bt hb9 (by repeat (first | exact Below.refl _ _ | with_reducible assumption | exact below_alloc _ _ | (refine Below.setCell ?_ (by first | (simp; done) | (simp; omega) | omega) _) | apply bd | apply ba | apply be))) hbq')))
      all_goals
        clear hb9 hb9' hbq' qs1 qs2
        clear hc11 hc12 hx11 hx12 q11 q12
        replace q21 := q21.keep hb
        replace q22 := q22.keep hb
        replace hc21 := cell_keep hb hc21; replace hc22 := cell_keep hb hc22; replace hx21 := cell_keep hb hx21; replace hx22 := cell_keep hb hx22; replace hW := bt hW hb; clear hb
        go_wp2
        go_region_held3 (fun w' => (w'.cell? ⟨w.heap.size + 1 + 1, 0, none⟩ = some (.slice za1 p.1.length zc1) ∧ w'.cell? ⟨w.heap.size + 1 + 1, 1, none⟩ = some (.slice za2 p.2.length zc2)) ∧ (w'.cell? ⟨n2.heap.size, 0, none⟩ = some (.slice ra21 p.1.length rc21) ∧ w'.cell? ⟨n2.heap.size, 1, none⟩ = some (.slice ra22 p.2.length rc22)))
          (exact ⟨⟨cell_keep (by repeat (first | exact Below.refl _ _ | with_reducible assumption | exact below_alloc _ _ | (refine Below.setCell ?_ (by first | (simp; done) | (simp; omega) | omega) _) | apply bd | apply ba | apply be)) hc21, cell_keep (by repeat (first | exact Below.refl _ _ | with_reducible assumption | exact below_alloc _ _ | (refine Below.setCell ?_ (by first | (simp; done) | (simp; omega) | omega) _) | apply bd | apply ba | apply be)) hc22⟩, ⟨cell_keep (by repeat (first | exact Below.refl _ _ | with_reducible assumption | exact below_alloc _ _ | (refine Below.setCell ?_ (by first | (simp; done) | (simp; omega) | omega) _) | apply bd | apply ba | apply be)) hx21, cell_keep (by repeat (first | exact Below.refl _ _ | with_reducible assumption | exact below_alloc _ _ | (refine Below.setCell ?_ (by first | (simp; done) | (simp; omega) | omega) _) | apply bd | apply ba | apply be)) hx22⟩⟩)
          (first
            | (go_at_call 46; go_must (refine (toCaseProof_rl _ _ p _ (j1.keep (bt hW (by repeat (first | exact Below.refl _ _ | with_reducible assumption | exact below_alloc _ _ | (refine Below.setCell ?_ (by first | (simp; done) | (simp; omega) | omega) _) | apply bd | apply ba | apply be)))) (j2.keep (bt hW (by repeat (first | exact Below.refl _ _ | with_reducible assumption | exact below_alloc _ _ | (refine Below.setCell ?_ (by first | (simp; done) | (simp; omega) | omega) _) | apply bd | apply ba | apply be)))) hs2).mono ?_; rintro e f2 ⟨s1, s2, rfl, ⟨_, _, os1, os2, _⟩, hb9'⟩; have qs1 := os1.read; have qs2 := os2.read; clear os1 os2; obtain ⟨sa1, sc1, rfl⟩ := qs1.form; obtain ⟨sa2, sc2, rfl⟩ := qs2.form; have hb9 : Below e1w.heap.size e1w f2 := bt (by repeat (first | exact Below.refl _ _ | with_reducible assumption | exact below_alloc _ _ | (refine Below.setCell ?_ (by first | (simp; done) | (simp; omega) | omega) _) | apply bd | apply ba | apply be)) hb9'))
            | (go_at_call 49; go_must (refine (cb (b := true) (eqCaseProof_rl _ _ _ _ p p _ (q21.keep (by repeat (first | exact Below.refl _ _ | with_reducible assumption | exact below_alloc _ _ | (refine Below.setCell ?_ (by first | (simp; done) | (simp; omega) | omega) _) | apply bd | apply ba | apply be))) (q22.keep (by repeat (first | exact Below.refl _ _ | with_reducible assumption | exact below_alloc _ _ | (refine Below.setCell ?_ (by first | (simp; done) | (simp; omega) | omega) _) | apply bd | apply ba | apply be))) (qs1.keep (by first | exact Below.refl _ _ | exact below_drew _)) (qs2.keep (by first | exact Below.refl _ _ | exact below_drew _))) (by simp)).mono ?_; rintro e e2w ⟨rfl, hbq'⟩; have hb : Below e1w.heap.size e1w e2w := bt (bt hb9 (by repeat (first | exact Below.refl _ _ | with_reducible assumption | exact below_alloc _ _ | (refine Below.setCell ?_ (by first | (simp; done) | (simp; omega) | omega) _) | apply bd | apply ba | apply be))) hbq')))
        all_goals
          clear hb9 hb9' hbq' qs1 qs2
          have hbb := bt hW hb
          go_wp2
          go_ret
          exact ⟨rfl, hbb⟩
end Go.Proofs.Ytnhhfbhhglhocaa
