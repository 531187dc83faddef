/- The walk of the law FnExactProveEntailment. (Printed by gen_exs.py.) -/
import Derived.Test.YtapoillhgimdiaaPEA
import Derived.Test.YtapoillhgimdiaaCaseD
import Derived.Test.YtapoillhgimdiaaData3
import Derived.Deep.RegionHeld3
import Derived.Deep.Cut
namespace Go.Proofs.Ytapoillhgimdiaa
open Go.RowKit

set_option maxRecDepth 100000 in
set_option maxHeartbeats 12800000 in
theorem fnExactProveEntailment_walk {S01 S02 S11 S12 : Nat → Prop} (v01 v02 v11 v12 : Value) (l0 : Asn) (l1 : Asn) (w : World) (h01 : RL w S01 v01 l0.1) (h02 : RL w S02 v02 l0.2) (h11 : RL w S11 v11 l1.1) (h12 : RL w S12 v12 l1.2) :
    Calls Try.prog 3 #[.agg #[v01, v02], .agg #[v11, v12]] w fun e w' => e = .returned (.bool true) ∧ Below w.heap.size w w' := by
  obtain ⟨va01, vc01, rfl⟩ := h01.form
  obtain ⟨va02, vc02, rfl⟩ := h02.form
  obtain ⟨va11, vc11, rfl⟩ := h11.form
  obtain ⟨va12, vc12, rfl⟩ := h12.form
  have hBX : Below w.heap.size w ((w.alloc (.cells #[.slice va01 l0.1.length vc01, .slice va02 l0.2.length vc02] 25)).alloc (.cells #[.slice va11 l1.1.length vc11, .slice va12 l1.2.length vc12] 25)) := Bl
  have hsp0 : (1048576 : Int) < (Mk.size l0 : Nat) ∨ ((Mk.size l0 : Nat) : Int) ≤ (1048576 : Int) := by omega
  rcases hsp0 with hbig | hfit0
  · have HB := Lib.hid (szF_big hbig)
    clear hbig
    go_enter Try.func3, Try.ntmps3
    go_wp2_with fail
    refine (szAssertion_rl _ _ l0 _ _ (h01.keep Bl) (h02.keep Bl) (by omega) (by omega)).mono ?_
    rw [HB.out]
    rintro e z ⟨rfl, hb⟩
    go_wp2
    go_ret
    exact ⟨rfl, bt Bl hb⟩
  have HS0 := Lib.hid (szF_fit hfit0)
  have hs0 : Mk.size l0 ≤ 1048576 := by omega
  have hnn0 : ¬ (1048576 : Int) - ((Mk.size l0 : Nat) : Int) < 0 := by omega
  have hsp1 : (1048576 : Int) - ((Mk.size l0 : Nat) : Int) < (Mk.size l1 : Nat) ∨ ((Mk.size l1 : Nat) : Int) ≤ (1048576 : Int) - ((Mk.size l0 : Nat) : Int) := by omega
  rcases hsp1 with hbig | hfit1
  · have HB := Lib.hid (szF_big hbig)
    clear hbig
    go_enter Try.func3, Try.ntmps3
    go_wp2_with fail
    refine (szAssertion_rl _ _ l0 _ _ (h01.keep Bl) (h02.keep Bl) (by omega) (by omega)).mono ?_
    rw [HS0.out]
    rintro e z0 ⟨rfl, hb⟩
    have hc01 := cell_keep hb (p := ⟨w.heap.size, 0, none⟩) (v := .slice va01 l0.1.length vc01) (by simp [go_sem])
    have hc02 := cell_keep hb (p := ⟨w.heap.size, 1, none⟩) (v := .slice va02 l0.2.length vc02) (by simp [go_sem])
    have hc11 := cell_keep hb (p := ⟨w.heap.size + 1, 0, none⟩) (v := .slice va11 l1.1.length vc11) (by simp [go_sem])
    have hc12 := cell_keep hb (p := ⟨w.heap.size + 1, 1, none⟩) (v := .slice va12 l1.2.length vc12) (by simp [go_sem])
    have hW : Below w.heap.size w z0 := bt Bl hb
    clear hb
    go_wp2_with fail
    refine (szAssertion_rl _ _ l1 _ _ (h11.keep hW) (h12.keep hW) (by omega) (by omega)).mono ?_
    rw [HB.out]
    rintro e z ⟨rfl, hb⟩
    go_wp2
    go_ret
    exact ⟨rfl, bt hW hb⟩
  have HS1 := Lib.hid (szF_fit hfit1)
  have hs1 : Mk.size l1 ≤ 1048576 := by omega
  have hnn1 : ¬ (1048576 : Int) - ((Mk.size l0 : Nat) : Int) - ((Mk.size l1 : Nat) : Int) < 0 := by omega
  obtain ⟨D, hD⟩ : ∃ D, D = provE l0 l1 := ⟨_, rfl⟩
  obtain ⟨hsD0, hsD⟩ := provE_size l0 l1
  rw [← hD] at hsD0 hsD
  obtain ⟨ok, hok⟩ : ∃ ok, ok = entB l0 l1 := ⟨_, rfl⟩
  have hbne : (ok != ok) = false := by cases ok <;> rfl
  have hbeq : (ok == ok) = true := by cases ok <;> rfl
  have HD := Lib.hid (And.intro hD hok)
  clear hD hok
  clear hfit0 hfit1
  go_enter Try.func3, Try.ntmps3
  go_wp2_with fail
  refine (szAssertion_rl _ _ l0 _ _ (h01.keep Bl) (h02.keep Bl) (by omega) (by omega)).mono ?_
  rw [HS0.out]
  rintro e z0 ⟨rfl, hb⟩
  have hc01 := cell_keep hb (p := ⟨w.heap.size, 0, none⟩) (v := .slice va01 l0.1.length vc01) (by simp [go_sem])
  have hc02 := cell_keep hb (p := ⟨w.heap.size, 1, none⟩) (v := .slice va02 l0.2.length vc02) (by simp [go_sem])
  have hc11 := cell_keep hb (p := ⟨w.heap.size + 1, 0, none⟩) (v := .slice va11 l1.1.length vc11) (by simp [go_sem])
  have hc12 := cell_keep hb (p := ⟨w.heap.size + 1, 1, none⟩) (v := .slice va12 l1.2.length vc12) (by simp [go_sem])
  have hW : Below w.heap.size w z0 := bt Bl hb
  clear hb
  go_wp2_with fail
  refine (szAssertion_rl _ _ l1 _ _ (h11.keep hW) (h12.keep hW) (by omega) (by omega)).mono ?_
  rw [HS1.out]
  rintro e z1 ⟨rfl, hb⟩
  replace hc01 := cell_keep hb hc01; replace hc02 := cell_keep hb hc02; replace hc11 := cell_keep hb hc11; replace hc12 := cell_keep hb hc12; replace hW := bt hW hb; clear hb
  go_upto_region 8 with fail
  go_cut [6, 7] from 17 (fun pp fl wc => fl = .bool ok ∧ RL wc (fun _ => True) pp D ∧ Below z1.heap.size z1 wc)
  case first =>
    have hszW := hW.size
    go_region_held3 (fun w' => (w'.cell? ⟨w.heap.size, 0, none⟩ = some (.slice va01 l0.1.length vc01) ∧ w'.cell? ⟨w.heap.size, 1, none⟩ = some (.slice va02 l0.2.length vc02)) ∧ (w'.cell? ⟨w.heap.size + 1, 0, none⟩ = some (.slice va11 l1.1.length vc11) ∧ w'.cell? ⟨w.heap.size + 1, 1, none⟩ = some (.slice va12 l1.2.length vc12)))
      (exact ⟨⟨cell_keep Bl hc01, cell_keep Bl hc02⟩, ⟨cell_keep Bl hc11, cell_keep Bl hc12⟩⟩)
      (first
        | (go_at_call 20; (with_reducible refine (toAssertion_rl (.slice va01 l0.1.length vc01) (.slice va02 l0.2.length vc02) l0 _ (h01.keep (bt hW Bl)) (h02.keep (bt hW Bl)) hs0).mono ?_); rintro e y0 ⟨r01, r02, rfl, ⟨_, _, oo01, oo02, _⟩, hb0'⟩; have q01 := oo01.read; have q02 := oo02.read; clear oo01 oo02; obtain ⟨ra01, rc01, rfl⟩ := q01.form; obtain ⟨ra02, rc02, rfl⟩ := q02.form; have hbp0 : Below z1.heap.size z1 y0 := bt Bl hb0'; have hbs0 : Below z1.heap.size z1 y0 := hbp0; have hzz0 := hbp0.size)
        | (go_at_call 20; (with_reducible refine (toAssertion_rl (.slice va11 l1.1.length vc11) (.slice va12 l1.2.length vc12) l1 _ (h11.keep (bt hW Bl)) (h12.keep (bt hW Bl)) hs1).mono ?_); rintro e y1 ⟨r11, r12, rfl, ⟨_, _, oo11, oo12, _⟩, hb1'⟩; have q11 := oo11.read; have q12 := oo12.read; clear oo11 oo12; obtain ⟨ra11, rc11, rfl⟩ := q11.form; obtain ⟨ra12, rc12, rfl⟩ := q12.form; have hbp1 : Below y0.heap.size y0 y1 := bt Bl hb1'; have hbs1 : Below z1.heap.size z1 y1 := bt hbs0 hbp1; have hzz1 := hbp1.size; replace q01 := q01.keep hbp1; replace q02 := q02.keep hbp1)
        | (go_at_call 19; go_must ((refine (proveEntS_any _ _ _ _ l0 l1 _ (q01.keep Bl) (q02.keep Bl) (q11.keep Bl) (q12.keep Bl)).mono ?_); rw [← HD.out.1, ← HD.out.2]; rintro e y2 ⟨r2, rfl, q2, hb2'⟩; obtain ⟨ra2, rc2, rfl⟩ := q2.form; have hbp2 : Below y1.heap.size y1 y2 := bt Bl hb2'; have hbs2 : Below z1.heap.size z1 y2 := bt hbs1 hbp2; have hzz2 := hbp2.size)))
    all_goals
      have HQ := Lib.hid q2
      clear q01 q02 q11 q12 q2
      go_wp2
      go_meet
      case rel => exact ⟨rfl, (HQ.out.keep Bl).any, bt hbs2 Bl⟩
  case rest =>
    obtain ⟨rfl, ru, hb⟩ := hcut
    replace hc01 := cell_keep hb hc01
    replace hc02 := cell_keep hb hc02
    replace hc11 := cell_keep hb hc11
    replace hc12 := cell_keep hb hc12
    replace hW := bt hW hb
    clear hb
    replace ru := ru.lt
    obtain ⟨ua, uc, rfl⟩ := ru.form
    obtain ⟨s0, hs0e⟩ : ∃ s, s = wc.heap.size := ⟨_, rfl⟩
    rw [← hs0e] at ru
    have hle : w.heap.size ≤ s0 := by have := hW.size; omega
    have hE0 : w.heap.size < s0 := by have := World.block_lt_of_cell? wc _ hc01; simp only at this; omega
    have hE1 : w.heap.size + 1 < s0 := by have := World.block_lt_of_cell? wc _ hc11; simp only at this; omega
    go_wp2_with fail
    refine (toAssertion_rl _ _ l0 _ (by exact h01.keep (bt hW Bl)) (by exact h02.keep (bt hW Bl)) hs0).mono ?_
    rintro e n0 ⟨x01, x02, rfl, ⟨f01, f02, ox01, ox02, nx0⟩, hb⟩
    obtain ⟨xa01, xc01, rfl⟩ := ox01.read.form
    obtain ⟨xa02, xc02, rfl⟩ := ox02.read.form
    have lx0 : ∀ k, k ∈ f01 ++ f02 → s0 ≤ k ∧ k < n0.heap.size := fun k hk => by
      rcases List.mem_append.1 hk with h | h
      · have := ox01.lt k h; first | (simp at this; omega) | omega
      · have := ox02.lt k h; first | (simp at this; omega) | omega
    replace ox01 := ox01.mono (Nat.zero_le _)
    replace ox02 := ox02.mono (Nat.zero_le _)
    have hn0 : s0 ≤ n0.heap.size := by have := hb.size; first | omega | (simp at this; omega)
    replace hc01 := cell_keep hb hc01
    replace hc02 := cell_keep hb hc02
    replace hc11 := cell_keep hb hc11
    replace hc12 := cell_keep hb hc12
    replace ru := ru.keep hb
    replace hW := bt hW hb
    clear hb
    have hm0_0 : w.heap.size < n0.heap.size := by omega
    have hm0_1 : w.heap.size + 1 < n0.heap.size := by omega
    go_wp2_with fail
    refine (toAssertion_rl _ _ l1 _ (by exact h11.keep (bt hW Bl)) (by exact h12.keep (bt hW Bl)) hs1).mono ?_
    rintro e n1 ⟨x11, x12, rfl, ⟨f11, f12, ox11, ox12, nx1⟩, hb⟩
    obtain ⟨xa11, xc11, rfl⟩ := ox11.read.form
    obtain ⟨xa12, xc12, rfl⟩ := ox12.read.form
    have lx1 : ∀ k, k ∈ f11 ++ f12 → n0.heap.size + 1 ≤ k ∧ k < n1.heap.size := fun k hk => by
      rcases List.mem_append.1 hk with h | h
      · have := ox11.lt k h; first | (simp at this; omega) | omega
      · have := ox12.lt k h; first | (simp at this; omega) | omega
    replace ox11 := ox11.mono (Nat.zero_le _)
    replace ox12 := ox12.mono (Nat.zero_le _)
    have hx01 := cell_keep hb (p := ⟨n0.heap.size, 0, none⟩) (v := .slice xa01 l0.1.length xc01) (by simp)
    have hx02 := cell_keep hb (p := ⟨n0.heap.size, 1, none⟩) (v := .slice xa02 l0.2.length xc02) (by simp)
    replace hb : Below n0.heap.size n0 n1 := bt Bl hb
    have hn1 : n0.heap.size + 1 ≤ n1.heap.size := by have := World.block_lt_of_cell? n1 _ hx01; simp only at this; omega
    replace hc01 := cell_keep hb hc01
    replace hc02 := cell_keep hb hc02
    replace hc11 := cell_keep hb hc11
    replace hc12 := cell_keep hb hc12
    replace ru := ru.keep hb
    replace ox01 := ox01.keep hb
    replace ox02 := ox02.keep hb
    replace hW := bt hW hb
    clear hb
    have hm1_0 : w.heap.size < n1.heap.size := by omega
    have hm1_1 : w.heap.size + 1 < n1.heap.size := by omega
    have hmx1_0 : n0.heap.size < n1.heap.size := by omega
    go_wp2_with fail
    refine (proveEntI_any _ _ _ _ l0 l1 _ (by exact ox01.read.keep Bl) (by exact ox02.read.keep Bl) (by exact ox11.read.keep Bl) (by exact ox12.read.keep Bl)).mono ?_
    rw [← HD.out.1, ← HD.out.2]
    rintro e gW ⟨g, rfl, ⟨fg, og, ng⟩, hb⟩
    obtain ⟨ga, gc, rfl⟩ := og.read.form
    have lg : ∀ k, k ∈ fg → n1.heap.size + 1 ≤ k ∧ k < gW.heap.size := fun k hk => by have := og.lt k hk; first | (simp at this; omega) | omega
    replace og := og.mono (Nat.zero_le _)
    have hx11 := cell_keep hb (p := ⟨n1.heap.size, 0, none⟩) (v := .slice xa11 l1.1.length xc11) (by simp)
    have hx12 := cell_keep hb (p := ⟨n1.heap.size, 1, none⟩) (v := .slice xa12 l1.2.length xc12) (by simp)
    replace hb : Below n1.heap.size n1 gW := bt Bl hb
    have hng : n1.heap.size + 1 ≤ gW.heap.size := by have := World.block_lt_of_cell? gW _ hx11; simp only at this; omega
    replace hc01 := cell_keep hb hc01
    replace hc02 := cell_keep hb hc02
    replace hc11 := cell_keep hb hc11
    replace hc12 := cell_keep hb hc12
    replace hx01 := cell_keep hb hx01
    replace hx02 := cell_keep hb hx02
    replace ru := ru.keep hb
    replace ox01 := ox01.keep hb
    replace ox02 := ox02.keep hb
    replace ox11 := ox11.keep hb
    replace ox12 := ox12.keep hb
    replace hW := bt hW hb
    clear hb
    have hmg_0 : w.heap.size < gW.heap.size := by omega
    have hmg_1 : w.heap.size + 1 < gW.heap.size := by omega
    have hmgx_0 : n0.heap.size < gW.heap.size := by omega
    have hmgx_1 : n1.heap.size < gW.heap.size := by omega
    go_wp2_with fail
    refine (cb (b := true) (eqCaseProofS_rl _ _ D D _ og.read ru) (by simp)).mono ?_
    rintro e e0 ⟨rfl, hb⟩
    replace hc01 := cell_keep hb hc01
    replace hc02 := cell_keep hb hc02
    replace hc11 := cell_keep hb hc11
    replace hc12 := cell_keep hb hc12
    replace hx01 := cell_keep hb hx01
    replace hx02 := cell_keep hb hx02
    replace hx11 := cell_keep hb hx11
    replace hx12 := cell_keep hb hx12
    replace ru := ru.keep hb
    replace ox01 := ox01.keep hb
    replace ox02 := ox02.keep hb
    replace ox11 := ox11.keep hb
    replace ox12 := ox12.keep hb
    replace og := og.keep hb
    replace hW := bt hW hb
    clear hb
    go_wp2
    go_region_held3 (fun w' => (w'.cell? ⟨w.heap.size, 0, none⟩ = some (.slice va01 l0.1.length vc01) ∧ w'.cell? ⟨w.heap.size, 1, none⟩ = some (.slice va02 l0.2.length vc02)) ∧ (w'.cell? ⟨n0.heap.size, 0, none⟩ = some (.slice xa01 l0.1.length xc01) ∧ w'.cell? ⟨n0.heap.size, 1, none⟩ = some (.slice xa02 l0.2.length xc02)))
      (exact ⟨⟨cell_keep Bl hc01, cell_keep Bl hc02⟩, ⟨cell_keep Bl hx01, cell_keep Bl hx02⟩⟩)
      (first
        | (go_at_call 20; go_must (refine (toAssertion_rl _ _ l0 _ (h01.keep (bt hW Bl)) (h02.keep (bt hW Bl)) hs0).mono ?_; rintro e fW ⟨s1, s2, rfl, ⟨_, _, os1, os2, _⟩, hb9'⟩; have qs1 := os1.read; have qs2 := os2.read; clear os1 os2; obtain ⟨sa1, sc1, rfl⟩ := qs1.form; obtain ⟨sa2, sc2, rfl⟩ := qs2.form; have hb9 : Below e0.heap.size e0 fW := bt Bl hb9'))
        | (go_at_call 23; go_must (refine (cb (b := true) (eqAssertion_rl _ _ _ _ l0 l0 _ (ox01.read.keep Bl) (ox02.read.keep Bl) (qs1.keep (by first | exact Below.refl _ _ | exact below_drew _)) (qs2.keep (by first | exact Below.refl _ _ | exact below_drew _))) (by simp)).mono ?_; rintro e t0w ⟨rfl, hbq'⟩; have hb : Below e0.heap.size e0 t0w := bt (bt hb9 Bl) hbq')))
    all_goals
      clear hb9 hb9' hbq' qs1 qs2
      replace hc01 := cell_keep hb hc01
      replace hc02 := cell_keep hb hc02
      replace hc11 := cell_keep hb hc11
      replace hc12 := cell_keep hb hc12
      replace hx01 := cell_keep hb hx01
      replace hx02 := cell_keep hb hx02
      replace hx11 := cell_keep hb hx11
      replace hx12 := cell_keep hb hx12
      replace ru := ru.keep hb
      replace ox01 := ox01.keep hb
      replace ox02 := ox02.keep hb
      replace ox11 := ox11.keep hb
      replace ox12 := ox12.keep hb
      replace og := og.keep hb
      replace hW := bt hW hb
      clear hb
      go_wp2
      go_region_held3 (fun w' => (w'.cell? ⟨w.heap.size + 1, 0, none⟩ = some (.slice va11 l1.1.length vc11) ∧ w'.cell? ⟨w.heap.size + 1, 1, none⟩ = some (.slice va12 l1.2.length vc12)) ∧ (w'.cell? ⟨n1.heap.size, 0, none⟩ = some (.slice xa11 l1.1.length xc11) ∧ w'.cell? ⟨n1.heap.size, 1, none⟩ = some (.slice xa12 l1.2.length xc12)))
        (exact ⟨⟨cell_keep Bl hc11, cell_keep Bl hc12⟩, ⟨cell_keep Bl hx11, cell_keep Bl hx12⟩⟩)
        (first
          | (go_at_call 20; go_must (refine (toAssertion_rl _ _ l1 _ (h11.keep (bt hW Bl)) (h12.keep (bt hW Bl)) hs1).mono ?_; rintro e fW ⟨s1, s2, rfl, ⟨_, _, os1, os2, _⟩, hb9'⟩; have qs1 := os1.read; have qs2 := os2.read; clear os1 os2; obtain ⟨sa1, sc1, rfl⟩ := qs1.form; obtain ⟨sa2, sc2, rfl⟩ := qs2.form; have hb9 : Below t0w.heap.size t0w fW := bt Bl hb9'))
          | (go_at_call 23; go_must (refine (cb (b := true) (eqAssertion_rl _ _ _ _ l1 l1 _ (ox11.read.keep Bl) (ox12.read.keep Bl) (qs1.keep (by first | exact Below.refl _ _ | exact below_drew _)) (qs2.keep (by first | exact Below.refl _ _ | exact below_drew _))) (by simp)).mono ?_; rintro e t1w ⟨rfl, hbq'⟩; have hb : Below t0w.heap.size t0w t1w := bt (bt hb9 Bl) hbq')))
      all_goals
        clear hb9 hb9' hbq' qs1 qs2
        replace hc01 := cell_keep hb hc01
        replace hc02 := cell_keep hb hc02
        replace hc11 := cell_keep hb hc11
        replace hc12 := cell_keep hb hc12
        replace hx01 := cell_keep hb hx01
        replace hx02 := cell_keep hb hx02
        replace hx11 := cell_keep hb hx11
        replace hx12 := cell_keep hb hx12
        replace ru := ru.keep hb
        replace ox01 := ox01.keep hb
        replace ox02 := ox02.keep hb
        replace ox11 := ox11.keep hb
        replace ox12 := ox12.keep hb
        replace og := og.keep hb
        replace hW := bt hW hb
        clear hb
        go_wp2_with fail
        refine (markAssertion_rl 0 _ _ l0 f01 f02 (1) _ ox01 ox02 nx0 (by omega) (by omega) hs0).mono ?_
        rintro e k0w ⟨rfl, _, _, hf⟩
        replace hW := hW.trans (hf.below hW.size fun k hk hm => by have := (lx0 k hm).1; omega)
        replace ru := ru.kept hf (fun k _ h hm => by have := (lx0 k hm).1; have h2 : k < s0 := h; omega)
        replace ox11 := ox11.okept hf (fun k hk hm => by have := lx0 k hm; have := lx1 k (List.mem_append_left _ hk); omega)
        replace ox12 := ox12.okept hf (fun k hk hm => by have := lx0 k hm; have := lx1 k (List.mem_append_right _ hk); omega)
        replace og := og.okept hf (fun k hk hm => by have := lx0 k hm; have := lg k (hk); omega)
        replace hc01 := hf.cell (fun hm => by have := lx0 (w.heap.size) hm; omega) hc01
        replace hc02 := hf.cell (fun hm => by have := lx0 (w.heap.size) hm; omega) hc02
        replace hc11 := hf.cell (fun hm => by have := lx0 (w.heap.size + 1) hm; omega) hc11
        replace hc12 := hf.cell (fun hm => by have := lx0 (w.heap.size + 1) hm; omega) hc12
        replace hx11 := hf.cell (fun hm => by have := lx0 (n1.heap.size) hm; omega) hx11
        replace hx12 := hf.cell (fun hm => by have := lx0 (n1.heap.size) hm; omega) hx12
        clear hf ox01 ox02 hx01 hx02
        have hcl0 := Mk.le l0
        go_wp2_with fail
        refine (markAssertion_rl 0 _ _ l1 f11 f12 (1 + ((Mk.cnt l0 : Nat) : Int)) _ ox11 ox12 nx1 (by omega) (by omega) hs1).mono ?_
        rintro e k1w ⟨rfl, _, _, hf⟩
        replace hW := hW.trans (hf.below hW.size fun k hk hm => by have := (lx1 k hm).1; omega)
        replace ru := ru.kept hf (fun k _ h hm => by have := (lx1 k hm).1; have h2 : k < s0 := h; omega)
        replace og := og.okept hf (fun k hk hm => by have := lx1 k hm; have := lg k (hk); omega)
        replace hc01 := hf.cell (fun hm => by have := lx1 (w.heap.size) hm; omega) hc01
        replace hc02 := hf.cell (fun hm => by have := lx1 (w.heap.size) hm; omega) hc02
        replace hc11 := hf.cell (fun hm => by have := lx1 (w.heap.size + 1) hm; omega) hc11
        replace hc12 := hf.cell (fun hm => by have := lx1 (w.heap.size + 1) hm; omega) hc12
        clear hf ox11 ox12 hx11 hx12
        have hcl1 := Mk.le l1
        have hk0 : ¬ 1 + ((Mk.cnt l0 : Nat) : Int) + ((Mk.cnt l1 : Nat) : Int) < 0 := by omega
        go_wp2_with fail
        refine (cb (b := true) (eqCaseProofS_rl _ _ D D _ og.read ru) (by simp)).mono ?_
        rintro e e1 ⟨rfl, hb⟩
        replace hc01 := cell_keep hb hc01
        replace hc02 := cell_keep hb hc02
        replace hc11 := cell_keep hb hc11
        replace hc12 := cell_keep hb hc12
        replace ru := ru.keep hb
        replace og := og.keep hb
        replace hW := bt hW hb
        clear hb
        go_wp2_with fail
        refine (markCaseProofS_rl 0 _ D fg 1 _ og ng (by omega) (by omega) hsD).mono ?_
        rintro e mW ⟨rfl, om, hf⟩
        replace hW := hW.trans (hf.below hW.size fun k hk hm => by have := (lg k hm).1; omega)
        replace ru := ru.kept hf (fun k _ h hm => by have := (lg k hm).1; have h2 : k < s0 := h; omega)
        replace hc01 := hf.cell (fun hm => by have := lg (w.heap.size) hm; omega) hc01
        replace hc02 := hf.cell (fun hm => by have := lg (w.heap.size) hm; omega) hc02
        replace hc11 := hf.cell (fun hm => by have := lg (w.heap.size + 1) hm; omega) hc11
        replace hc12 := hf.cell (fun hm => by have := lg (w.heap.size + 1) hm; omega) hc12
        clear hf og
        have hcD := Mk.le D
        have hk1 : ¬ 1 + ((Mk.cnt D : Nat) : Int) < 0 := by omega
        go_wp2_with fail
        refine (heldCaseProofS_rl _ D 1 _ om.read (by omega) (by omega) hsD).mono ?_
        rintro e h0W ⟨rfl, hb⟩
        replace hc01 := cell_keep hb hc01
        replace hc02 := cell_keep hb hc02
        replace hc11 := cell_keep hb hc11
        replace hc12 := cell_keep hb hc12
        replace ru := ru.keep hb
        replace om := om.keep hb
        replace hW := bt hW hb
        clear hb
        have HKP := Lib.hid (And.intro ru om)
        clear ru om lx0 lx1 lg hng hk0 hcD hn0 hn1 hcl0 hcl1 hm0_0 hm0_1 hm1_0 hm1_1 hmg_0 hmg_1 hmgx_0 hmgx_1 hmx1_0 nx0 nx1 ng
        go_upto_region 31 with fail
        go_cut [15, 16] from 17 (fun pp fl wc => fl = .bool ok ∧ RL wc (fun _ => True) pp D ∧ Below h0W.heap.size h0W wc)
        case first =>
          have hszW := hW.size
          go_region_held3 (fun w' => (w'.cell? ⟨w.heap.size, 0, none⟩ = some (.slice va01 l0.1.length vc01) ∧ w'.cell? ⟨w.heap.size, 1, none⟩ = some (.slice va02 l0.2.length vc02)) ∧ (w'.cell? ⟨w.heap.size + 1, 0, none⟩ = some (.slice va11 l1.1.length vc11) ∧ w'.cell? ⟨w.heap.size + 1, 1, none⟩ = some (.slice va12 l1.2.length vc12)))
            (exact ⟨⟨cell_keep Bl hc01, cell_keep Bl hc02⟩, ⟨cell_keep Bl hc11, cell_keep Bl hc12⟩⟩)
            (first
              | (go_at_call 20; (with_reducible refine (toAssertion_rl (.slice va01 l0.1.length vc01) (.slice va02 l0.2.length vc02) l0 _ (h01.keep (bt hW Bl)) (h02.keep (bt hW Bl)) hs0).mono ?_); rintro e y0 ⟨r01, r02, rfl, ⟨_, _, oo01, oo02, _⟩, hb0'⟩; have q01 := oo01.read; have q02 := oo02.read; clear oo01 oo02; obtain ⟨ra01, rc01, rfl⟩ := q01.form; obtain ⟨ra02, rc02, rfl⟩ := q02.form; have hbp0 : Below h0W.heap.size h0W y0 := bt Bl hb0'; have hbs0 : Below h0W.heap.size h0W y0 := hbp0; have hzz0 := hbp0.size)
              | (go_at_call 20; (with_reducible refine (toAssertion_rl (.slice va11 l1.1.length vc11) (.slice va12 l1.2.length vc12) l1 _ (h11.keep (bt hW Bl)) (h12.keep (bt hW Bl)) hs1).mono ?_); rintro e y1 ⟨r11, r12, rfl, ⟨_, _, oo11, oo12, _⟩, hb1'⟩; have q11 := oo11.read; have q12 := oo12.read; clear oo11 oo12; obtain ⟨ra11, rc11, rfl⟩ := q11.form; obtain ⟨ra12, rc12, rfl⟩ := q12.form; have hbp1 : Below y0.heap.size y0 y1 := bt Bl hb1'; have hbs1 : Below h0W.heap.size h0W y1 := bt hbs0 hbp1; have hzz1 := hbp1.size; replace q01 := q01.keep hbp1; replace q02 := q02.keep hbp1)
              | (go_at_call 21; go_must ((refine (proveEntI_any _ _ _ _ l0 l1 _ (q01.keep Bl) (q02.keep Bl) (q11.keep Bl) (q12.keep Bl)).mono ?_); rw [← HD.out.1, ← HD.out.2]; rintro e y2 ⟨r2, rfl, HOO, hb2'⟩; have q2 := HOO.read; clear HOO; obtain ⟨ra2, rc2, rfl⟩ := q2.form; have hbp2 : Below y1.heap.size y1 y2 := bt Bl hb2'; have hbs2 : Below h0W.heap.size h0W y2 := bt hbs1 hbp2; have hzz2 := hbp2.size)))
          all_goals
            have HQ := Lib.hid q2
            clear q01 q02 q11 q12 q2
            go_wp2
            go_meet
            case rel => exact ⟨rfl, (HQ.out.keep Bl).any, bt hbs2 Bl⟩
        case rest =>
          obtain ⟨rfl, ry, hb⟩ := hcut
          have HKP2 := HKP.out
          obtain ⟨ru, om⟩ := HKP2
          replace ru := ru.keep hb
          replace om := om.keep hb
          replace hW := bt hW hb
          clear hb
          obtain ⟨ya, yc, rfl⟩ := ry.form
          go_wp2_with fail
          refine (cb (b := true) (eqCaseProofS_rl _ _ D D _ ry ru) (by simp)).mono ?_
          rintro e e2 ⟨rfl, hb⟩
          replace om := om.keep hb
          replace hW := bt hW hb
          clear hb
          go_wp2_with fail
          refine (heldCaseProofS_rl _ D 1 _ om.read (by omega) (by omega) hsD).mono ?_
          rintro e h1W ⟨rfl, hb⟩
          replace hW := bt hW hb
          go_wp2
          go_ret
          exact ⟨rfl, hW⟩
end Go.Proofs.Ytapoillhgimdiaa
