/- The walk of the law FnExactAbstractAssertion. (Printed by gen_exs.py.) -/
import Derived.Test.YtdjfdopgjlbloaaUAbsA
import Derived.Test.YtdjfdopgjlbloaaUData3
import Derived.Deep.RegionHeld3
import Derived.Deep.Cut
namespace Go.Proofs.Ytdjfdopgjlbloaa
open Go.RowKit

set_option maxRecDepth 100000 in
set_option maxHeartbeats 12800000 in
theorem fnExactAbstractAssertion_walk {S01 S02 S1 : Nat → Prop} (v01 v02 v1 : Value) (l0 : Asn) (l1 : List Int) (w : World) (h01 : RL w S01 v01 l0.1) (h02 : RL w S02 v02 l0.2) (h1 : RL w S1 v1 l1) :
    Calls Try.prog 4 #[.agg #[v01, v02], v1] w fun e w' => e = .returned (.bool true) ∧ Below w.heap.size w w' := by
  obtain ⟨va01, vc01, rfl⟩ := h01.form
  obtain ⟨va02, vc02, rfl⟩ := h02.form
  obtain ⟨va1, vc1, rfl⟩ := h1.form
  by_cases hn1 : l1.length ≤ 1048576
  rotate_left
  · go_enter Try.func4, Try.ntmps4
    go_wp2
    go_ret
    exact ⟨rfl, Bl⟩
  have hs1 : Mk.size l1 ≤ 1048576 := hn1
  have hBX : Below w.heap.size w (w.alloc (.cells #[.slice va01 l0.1.length vc01, .slice va02 l0.2.length vc02] 38)) := Bl
  have hsp0 : (1048576 : Int) < (Mk.size l0 : Nat) ∨ ((Mk.size l0 : Nat) : Int) ≤ (1048576 : Int) := by omega
  rcases hsp0 with hbig | hfit0
  · have HB := Lib.hid (szF_big hbig)
    clear hbig
    go_enter Try.func4, Try.ntmps4
    go_wp2_with fail
    refine (szAssertion_rl _ _ l0 _ _ (h01.keep Bl) (h02.keep Bl) (by omega) (by omega)).mono ?_
    rw [HB.out]
    rintro e z ⟨rfl, hb⟩
    go_wp2
    go_ret
    exact ⟨rfl, bt Bl hb⟩
  have HS0 := Lib.hid (szF_fit hfit0)
  have hs0 : Mk.size l0 ≤ 1048576 := by omega
  have hnn0 : ¬ (1048576 : Int) - ((Mk.size l0 : Nat) : Int) < 0 := by omega
  obtain ⟨D, hD⟩ : ∃ D, D = absR l0 l1 := ⟨_, rfl⟩
  have hsD : Mk.size (absR l0 l1) ≤ 1048576 := absR_size l0 l1
  rw [← hD] at hsD
  obtain ⟨ok, hok⟩ : ∃ ok, ok = absOk l0 l1 := ⟨_, rfl⟩
  have hbne : (ok != ok) = false := by cases ok <;> rfl
  have hbeq : (ok == ok) = true := by cases ok <;> rfl
  have HD := Lib.hid (And.intro hD hok)
  clear hD hok
  clear hfit0
  go_enter Try.func4, Try.ntmps4
  go_wp2_with fail
  refine (szAssertion_rl _ _ l0 _ _ (h01.keep Bl) (h02.keep Bl) (by omega) (by omega)).mono ?_
  rw [HS0.out]
  rintro e z0 ⟨rfl, hb⟩
  have hc01 := cell_keep hb (p := ⟨w.heap.size, 0, none⟩) (v := .slice va01 l0.1.length vc01) (by simp [go_sem])
  have hc02 := cell_keep hb (p := ⟨w.heap.size, 1, none⟩) (v := .slice va02 l0.2.length vc02) (by simp [go_sem])
  have hW : Below w.heap.size w z0 := bt Bl hb
  clear hb
  go_upto_region 7 with fail
  go_cut [6, 7] from 17 (fun pp fl wc => ∃ (g : Nat) (y1 y2 : Value), pp = .pointer (some ⟨g, 0, none⟩) ∧ fl = .bool ok ∧ (wc.cell? ⟨g, 0, none⟩ = some y1 ∧ wc.cell? ⟨g, 1, none⟩ = some y2) ∧ (RL wc (fun _ => True) y1 D.1 ∧ RL wc (fun _ => True) y2 D.2) ∧ Below z0.heap.size z0 wc)
  case first =>
    have hszW := hW.size
    go_wp2_with fail
    (refine (toAssertion_rl (.slice va01 l0.1.length vc01) (.slice va02 l0.2.length vc02) l0 _ (h01.keep (bt hW Bl)) (h02.keep (bt hW Bl)) hs0).mono ?_)
    rintro e y0 ⟨r01, r02, rfl, ⟨_, _, oo01, oo02, _⟩, hb0'⟩
    have q01 := oo01.read
    have q02 := oo02.read
    clear oo01 oo02
    obtain ⟨ra01, rc01, rfl⟩ := q01.form
    obtain ⟨ra02, rc02, rfl⟩ := q02.form
    have hbp0 : Below z0.heap.size z0 y0 := bt Bl hb0'
    have hbs0 : Below z0.heap.size z0 y0 := hbp0
    have hzz0 := hbp0.size
    go_wp2_with fail
    (refine (toIntS_rl (.slice va1 l1.length vc1) l1 _ (h1.keep (bt hW Bl)) hs1).mono ?_)
    rintro e y1 ⟨r1, rfl, oo1, hb1'⟩
    have q1 := oo1.read
    clear oo1
    obtain ⟨ra1, rc1, rfl⟩ := q1.form
    have hbp1 : Below y0.heap.size y0 y1 := bt Bl hb1'
    have hbs1 : Below z0.heap.size z0 y1 := bt hbs0 hbp1
    have hzz1 := hbp1.size
    replace q01 := q01.keep hbp1
    replace q02 := q02.keep hbp1
    go_wp2_with fail
    (refine (abstractS_any _ _ _ l0 l1 _ (q01.keep Bl) (q02.keep Bl) (q1.keep Bl)).mono ?_)
    rw [← HD.out.1, ← HD.out.2]
    rintro e y2 ⟨r21, r22, rfl, ⟨q21, q22⟩, hb2'⟩
    obtain ⟨ra21, rc21, rfl⟩ := q21.form
    obtain ⟨ra22, rc22, rfl⟩ := q22.form
    have hbp2 : Below y1.heap.size y1 y2 := bt Bl hb2'
    have hbs2 : Below z0.heap.size z0 y2 := bt hbs1 hbp2
    have hzz2 := hbp2.size
    have hWn := bt hW hbs2
    have HQ := Lib.hid (And.intro q21 q22)
    clear q01 q02 q1 q21 q22
    go_wp2
    go_meet
    case rel =>
      have q21 := HQ.out.1
      have q22 := HQ.out.2
      refine ⟨_, .slice ra21 D.1.length rc21, .slice ra22 D.2.length rc22, rfl, rfl, ⟨?_, ?_⟩, ⟨?_, ?_⟩, ?_⟩
      · first | exact (box_two _ _ ht0 ht1).1 | (simp; done) | (simp [go_sem]; done)
      · first | exact (box_two _ _ ht0 ht1).2 | (simp; done) | (simp [go_sem]; done)
      · first | (with_reducible refine (q21.set2 ?_ _ _).any; first | omega | (simp; done) | (simp; omega)) | exact (q21.keep Bl).any
      · first | (with_reducible refine (q22.set2 ?_ _ _).any; first | omega | (simp; done) | (simp; omega)) | exact (q22.keep Bl).any
      · first | (with_reducible refine Below.setCell (Below.setCell hbs2 ?_ _) ?_ _ <;> first | omega | (simp; done) | (simp; omega)) | exact bt hbs2 Bl
  case rest =>
    obtain ⟨wg, u1, u2, rfl, rfl, ⟨hw1, hw2⟩, ⟨ru1, ru2⟩, hb⟩ := hcut
    replace hc01 := cell_keep hb hc01
    replace hc02 := cell_keep hb hc02
    replace hW := bt hW hb
    clear hb
    replace ru1 := ru1.lt
    replace ru2 := ru2.lt
    have hwl : wg < wc.heap.size := World.block_lt_of_cell? wc _ hw1
    obtain ⟨ua1, uc1, rfl⟩ := ru1.form
    obtain ⟨ua2, uc2, rfl⟩ := ru2.form
    obtain ⟨s0, hs0e⟩ : ∃ s, s = wc.heap.size := ⟨_, rfl⟩
    rw [← hs0e] at ru1 ru2 hwl
    have hle : w.heap.size ≤ s0 := by have := hW.size; omega
    have hE0 : w.heap.size < s0 := by have := World.block_lt_of_cell? wc _ hc01; simp only at this; omega
    go_wp2_with fail
    refine (toAssertion_rl _ _ l0 _ (by exact h01.keep (bt hW Bl)) (by exact h02.keep (bt hW Bl)) hs0).mono ?_
    rintro e n0 ⟨x01, x02, rfl, ⟨f01, f02, ox01, ox02, nx0⟩, hb⟩
    obtain ⟨xa01, xc01, rfl⟩ := ox01.read.form
    obtain ⟨xa02, xc02, rfl⟩ := ox02.read.form
    have lx0 : ∀ k, k ∈ f01 ++ f02 → s0 ≤ k ∧ k < n0.heap.size := fun k hk => by
      rcases List.mem_append.1 hk with h | h
      · have := ox01.lt k h; first | (simp at this; omega) | omega
      · have := ox02.lt k h; first | (simp at this; omega) | omega
    replace ox01 := ox01.mono (Nat.zero_le _)
    replace ox02 := ox02.mono (Nat.zero_le _)
    have hn0 : s0 ≤ n0.heap.size := by have := hb.size; first | omega | (simp at this; omega)
    replace hc01 := cell_keep hb hc01
    replace hc02 := cell_keep hb hc02
    replace hw1 := cell_keep hb hw1
    replace hw2 := cell_keep hb hw2
    replace ru1 := ru1.keep hb
    replace ru2 := ru2.keep hb
    replace hW := bt hW hb
    clear hb
    have hm0_0 : w.heap.size < n0.heap.size := by omega
    have hmw_0 : wg < n0.heap.size := by omega
    go_wp2_with fail
    refine (toIntS_rl _ l1 _ (by exact h1.keep (bt hW Bl)) hs1).mono ?_
    rintro e n1 ⟨x1, rfl, ⟨f1, ox1, nx1⟩, hb⟩
    obtain ⟨xa1, xc1, rfl⟩ := ox1.read.form
    have lx1 : ∀ k, k ∈ f1 → n0.heap.size + 1 ≤ k ∧ k < n1.heap.size := fun k hk => by have := ox1.lt k hk; first | (simp at this; omega) | omega
    replace ox1 := ox1.mono (Nat.zero_le _)
    have hx01 := cell_keep hb (p := ⟨n0.heap.size, 0, none⟩) (v := .slice xa01 l0.1.length xc01) (by simp)
    have hx02 := cell_keep hb (p := ⟨n0.heap.size, 1, none⟩) (v := .slice xa02 l0.2.length xc02) (by simp)
    replace hb : Below n0.heap.size n0 n1 := bt Bl hb
    have hn1 : n0.heap.size + 1 ≤ n1.heap.size := by have := World.block_lt_of_cell? n1 _ hx01; simp only at this; omega
    replace hc01 := cell_keep hb hc01
    replace hc02 := cell_keep hb hc02
    replace hw1 := cell_keep hb hw1
    replace hw2 := cell_keep hb hw2
    replace ru1 := ru1.keep hb
    replace ru2 := ru2.keep hb
    replace ox01 := ox01.keep hb
    replace ox02 := ox02.keep hb
    replace hW := bt hW hb
    clear hb
    have hm1_0 : w.heap.size < n1.heap.size := by omega
    have hmw_1 : wg < n1.heap.size := by omega
    have hmx1_0 : n0.heap.size < n1.heap.size := by omega
    go_wp2_with fail
    refine (abstractI_any _ _ _ l0 l1 _ (by exact ox01.read.keep Bl) (by exact ox02.read.keep Bl) (by exact ox1.read.keep Bl)).mono ?_
    rw [← HD.out.1, ← HD.out.2]
    rintro e gW ⟨g1, g2, rfl, ⟨fg1, fg2, og1, og2, ng⟩, hb⟩
    obtain ⟨ga1, gc1, rfl⟩ := og1.read.form
    obtain ⟨ga2, gc2, rfl⟩ := og2.read.form
    have lg : ∀ k, k ∈ fg1 ++ fg2 → n1.heap.size ≤ k ∧ k < gW.heap.size := fun k hk => by
      rcases List.mem_append.1 hk with h | h
      · have := og1.lt k h; first | (simp at this; omega) | omega
      · have := og2.lt k h; first | (simp at this; omega) | omega
    replace og1 := og1.mono (Nat.zero_le _)
    replace og2 := og2.mono (Nat.zero_le _)
    have hng : n1.heap.size ≤ gW.heap.size := by have := hb.size; omega
    replace hc01 := cell_keep hb hc01
    replace hc02 := cell_keep hb hc02
    replace hw1 := cell_keep hb hw1
    replace hw2 := cell_keep hb hw2
    replace hx01 := cell_keep hb hx01
    replace hx02 := cell_keep hb hx02
    replace ru1 := ru1.keep hb
    replace ru2 := ru2.keep hb
    replace ox01 := ox01.keep hb
    replace ox02 := ox02.keep hb
    replace ox1 := ox1.keep hb
    replace hW := bt hW hb
    clear hb
    have hmg_0 : w.heap.size < gW.heap.size := by omega
    have hmgw : wg < gW.heap.size := by omega
    have hmgx_0 : n0.heap.size < gW.heap.size := by omega
    go_wp2_with fail
    refine (cb (b := true) (eqAssertion_rl _ _ _ _ D D _ (by exact og1.read.keep Bl) (by exact og2.read.keep Bl) (by exact ru1.keep Bl) (by exact ru2.keep Bl)) (by simp)).mono ?_
    rintro e e0 ⟨rfl, hb⟩
    have hg1 := cell_keep hb (p := ⟨gW.heap.size, 0, none⟩) (v := .slice ga1 D.1.length gc1) (by simp)
    have hg2 := cell_keep hb (p := ⟨gW.heap.size, 1, none⟩) (v := .slice ga2 D.2.length gc2) (by simp)
    replace hb : Below gW.heap.size gW e0 := bt Bl hb
    replace hc01 := cell_keep hb hc01
    replace hc02 := cell_keep hb hc02
    replace hw1 := cell_keep hb hw1
    replace hw2 := cell_keep hb hw2
    replace hx01 := cell_keep hb hx01
    replace hx02 := cell_keep hb hx02
    replace ru1 := ru1.keep hb
    replace ru2 := ru2.keep hb
    replace ox01 := ox01.keep hb
    replace ox02 := ox02.keep hb
    replace ox1 := ox1.keep hb
    replace og1 := og1.keep hb
    replace og2 := og2.keep hb
    replace hW := bt hW hb
    clear hb
    go_wp2
    go_region_held3 (fun w' => (w'.cell? ⟨w.heap.size, 0, none⟩ = some (.slice va01 l0.1.length vc01) ∧ w'.cell? ⟨w.heap.size, 1, none⟩ = some (.slice va02 l0.2.length vc02)) ∧ (w'.cell? ⟨n0.heap.size, 0, none⟩ = some (.slice xa01 l0.1.length xc01) ∧ w'.cell? ⟨n0.heap.size, 1, none⟩ = some (.slice xa02 l0.2.length xc02)))
      (exact ⟨⟨cell_keep Bl hc01, cell_keep Bl hc02⟩, ⟨cell_keep Bl hx01, cell_keep Bl hx02⟩⟩)
      (first
        | (go_at_call 12; go_must (refine (toAssertion_rl _ _ l0 _ (h01.keep (bt hW Bl)) (h02.keep (bt hW Bl)) hs0).mono ?_; rintro e fW ⟨s1, s2, rfl, ⟨_, _, os1, os2, _⟩, hb9'⟩; have qs1 := os1.read; have qs2 := os2.read; clear os1 os2; obtain ⟨sa1, sc1, rfl⟩ := qs1.form; obtain ⟨sa2, sc2, rfl⟩ := qs2.form; have hb9 : Below e0.heap.size e0 fW := bt Bl hb9'))
        | (go_at_call 14; go_must (refine (cb (b := true) (eqAssertion_rl _ _ _ _ l0 l0 _ (ox01.read.keep Bl) (ox02.read.keep Bl) (qs1.keep (by first | exact Below.refl _ _ | exact below_drew _)) (qs2.keep (by first | exact Below.refl _ _ | exact below_drew _))) (by simp)).mono ?_; rintro e t0w ⟨rfl, hbq'⟩; have hb : Below e0.heap.size e0 t0w := bt (bt hb9 Bl) hbq')))
    all_goals
      clear hb9 hb9' hbq' qs1 qs2
      replace hc01 := cell_keep hb hc01
      replace hc02 := cell_keep hb hc02
      replace hw1 := cell_keep hb hw1
      replace hw2 := cell_keep hb hw2
      replace hx01 := cell_keep hb hx01
      replace hx02 := cell_keep hb hx02
      replace hg1 := cell_keep hb hg1
      replace hg2 := cell_keep hb hg2
      replace ru1 := ru1.keep hb
      replace ru2 := ru2.keep hb
      replace ox01 := ox01.keep hb
      replace ox02 := ox02.keep hb
      replace ox1 := ox1.keep hb
      replace og1 := og1.keep hb
      replace og2 := og2.keep hb
      replace hW := bt hW hb
      clear hb
      go_wp2_with fail
      refine (toIntS_rl _ l1 _ (h1.keep hW) hs1).mono ?_
      rintro e fW ⟨s1, rfl, os1, hb⟩
      obtain ⟨sa1, sc1, rfl⟩ := os1.form
      replace hc01 := cell_keep hb hc01
      replace hc02 := cell_keep hb hc02
      replace hw1 := cell_keep hb hw1
      replace hw2 := cell_keep hb hw2
      replace hx01 := cell_keep hb hx01
      replace hx02 := cell_keep hb hx02
      replace hg1 := cell_keep hb hg1
      replace hg2 := cell_keep hb hg2
      replace ru1 := ru1.keep hb
      replace ru2 := ru2.keep hb
      replace ox01 := ox01.keep hb
      replace ox02 := ox02.keep hb
      replace ox1 := ox1.keep hb
      replace og1 := og1.keep hb
      replace og2 := og2.keep hb
      replace hW := bt hW hb
      clear hb
      go_wp2_with fail
      refine (cb (b := true) (eqIntS_rl _ _ l1 l1 _ ox1.read os1.read) (by simp)).mono ?_
      rintro e t1w ⟨rfl, hb⟩
      replace hc01 := cell_keep hb hc01
      replace hc02 := cell_keep hb hc02
      replace hw1 := cell_keep hb hw1
      replace hw2 := cell_keep hb hw2
      replace hx01 := cell_keep hb hx01
      replace hx02 := cell_keep hb hx02
      replace hg1 := cell_keep hb hg1
      replace hg2 := cell_keep hb hg2
      replace ru1 := ru1.keep hb
      replace ru2 := ru2.keep hb
      replace ox01 := ox01.keep hb
      replace ox02 := ox02.keep hb
      replace ox1 := ox1.keep hb
      replace og1 := og1.keep hb
      replace og2 := og2.keep hb
      replace hW := bt hW hb
      clear hb os1
      go_wp2_with fail
      refine (markAssertion_rl 0 _ _ l0 f01 f02 (1) _ ox01 ox02 nx0 (by omega) (by omega) hs0).mono ?_
      rintro e k0w ⟨rfl, _, _, hf⟩
      replace hW := hW.trans (hf.below hW.size fun k hk hm => by have := (lx0 k hm).1; omega)
      replace ru1 := ru1.kept hf (fun k _ h hm => by have := (lx0 k hm).1; have h2 : k < s0 := h; omega)
      replace ru2 := ru2.kept hf (fun k _ h hm => by have := (lx0 k hm).1; have h2 : k < s0 := h; omega)
      replace ox1 := ox1.okept hf (fun k hk hm => by have := lx0 k hm; have := lx1 k (hk); omega)
      replace og1 := og1.okept hf (fun k hk hm => by have := lx0 k hm; have := lg k (List.mem_append_left _ hk); omega)
      replace og2 := og2.okept hf (fun k hk hm => by have := lx0 k hm; have := lg k (List.mem_append_right _ hk); omega)
      replace hc01 := hf.cell (fun hm => by have := lx0 (w.heap.size) hm; omega) hc01
      replace hc02 := hf.cell (fun hm => by have := lx0 (w.heap.size) hm; omega) hc02
      replace hw1 := hf.cell (fun hm => by have := lx0 (wg) hm; omega) hw1
      replace hw2 := hf.cell (fun hm => by have := lx0 (wg) hm; omega) hw2
      replace hg1 := hf.cell (fun hm => by have := lx0 (gW.heap.size) hm; omega) hg1
      replace hg2 := hf.cell (fun hm => by have := lx0 (gW.heap.size) hm; omega) hg2
      clear hf ox01 ox02 hx01 hx02
      have hcl0 := Mk.le l0
      go_wp2_with fail
      refine (markIntS_rl 0 _ l1 f1 (1 + ((Mk.cnt l0 : Nat) : Int)) _ ox1 nx1 (by omega) (by omega) hs1).mono ?_
      rintro e k1w ⟨rfl, _, hf⟩
      replace hW := hW.trans (hf.below hW.size fun k hk hm => by have := (lx1 k hm).1; omega)
      replace ru1 := ru1.kept hf (fun k _ h hm => by have := (lx1 k hm).1; have h2 : k < s0 := h; omega)
      replace ru2 := ru2.kept hf (fun k _ h hm => by have := (lx1 k hm).1; have h2 : k < s0 := h; omega)
      replace og1 := og1.okept hf (fun k hk hm => by have := lx1 k hm; have := lg k (List.mem_append_left _ hk); omega)
      replace og2 := og2.okept hf (fun k hk hm => by have := lx1 k hm; have := lg k (List.mem_append_right _ hk); omega)
      replace hc01 := hf.cell (fun hm => by have := lx1 (w.heap.size) hm; omega) hc01
      replace hc02 := hf.cell (fun hm => by have := lx1 (w.heap.size) hm; omega) hc02
      replace hw1 := hf.cell (fun hm => by have := lx1 (wg) hm; omega) hw1
      replace hw2 := hf.cell (fun hm => by have := lx1 (wg) hm; omega) hw2
      replace hg1 := hf.cell (fun hm => by have := lx1 (gW.heap.size) hm; omega) hg1
      replace hg2 := hf.cell (fun hm => by have := lx1 (gW.heap.size) hm; omega) hg2
      clear hf ox1
      have hcl1 := Mk.le l1
      have hk0 : ¬ 1 + ((Mk.cnt l0 : Nat) : Int) + ((Mk.cnt l1 : Nat) : Int) < 0 := by omega
      go_wp2_with fail
      refine (cb (b := true) (eqAssertion_rl _ _ _ _ D D _ og1.read og2.read ru1 ru2) (by simp)).mono ?_
      rintro e e1 ⟨rfl, hb⟩
      replace hc01 := cell_keep hb hc01
      replace hc02 := cell_keep hb hc02
      replace hw1 := cell_keep hb hw1
      replace hw2 := cell_keep hb hw2
      replace hg1 := cell_keep hb hg1
      replace hg2 := cell_keep hb hg2
      replace ru1 := ru1.keep hb
      replace ru2 := ru2.keep hb
      replace og1 := og1.keep hb
      replace og2 := og2.keep hb
      replace hW := bt hW hb
      clear hb
      go_wp2_with fail
      refine (markAssertion_rl 0 _ _ D fg1 fg2 1 _ og1 og2 ng (by omega) (by omega) hsD).mono ?_
      rintro e mW ⟨rfl, om1, om2, hf⟩
      replace hW := hW.trans (hf.below hW.size fun k hk hm => by have := (lg k hm).1; omega)
      replace ru1 := ru1.kept hf (fun k _ h hm => by have := (lg k hm).1; have h2 : k < s0 := h; omega)
      replace ru2 := ru2.kept hf (fun k _ h hm => by have := (lg k hm).1; have h2 : k < s0 := h; omega)
      replace hc01 := hf.cell (fun hm => by have := lg (w.heap.size) hm; omega) hc01
      replace hc02 := hf.cell (fun hm => by have := lg (w.heap.size) hm; omega) hc02
      replace hw1 := hf.cell (fun hm => by have := lg (wg) hm; omega) hw1
      replace hw2 := hf.cell (fun hm => by have := lg (wg) hm; omega) hw2
      replace hg1 := hf.cell (fun hm => by have := lg (gW.heap.size) hm; omega) hg1
      replace hg2 := hf.cell (fun hm => by have := lg (gW.heap.size) hm; omega) hg2
      clear hf og1 og2
      have hcD := Mk.le D
      have hk1 : ¬ 1 + ((Mk.cnt D : Nat) : Int) < 0 := by omega
      go_wp2_with fail
      refine (heldAssertion_rl _ _ D 1 _ om1.read om2.read (by omega) (by omega) hsD).mono ?_
      rintro e h0W ⟨rfl, hb⟩
      replace hc01 := cell_keep hb hc01
      replace hc02 := cell_keep hb hc02
      replace hw1 := cell_keep hb hw1
      replace hw2 := cell_keep hb hw2
      replace hg1 := cell_keep hb hg1
      replace hg2 := cell_keep hb hg2
      replace ru1 := ru1.keep hb
      replace ru2 := ru2.keep hb
      replace om1 := om1.keep hb
      replace om2 := om2.keep hb
      replace hW := bt hW hb
      clear hb
      have HKP := Lib.hid (And.intro hw1 (And.intro hw2 (And.intro hg1 (And.intro hg2 (And.intro ru1 (And.intro ru2 (And.intro om1 om2)))))))
      clear hw1 hw2 hg1 hg2 ru1 ru2 om1 om2 lx0 lx1 lg hng hk0 hcD hn0 hn1 hcl0 hcl1 hm0_0 hm1_0 hmg_0 hmgx_0 hmx1_0 nx0 nx1 ng hmw_0 hmw_1 hmgw hwl
      go_upto_region 30 with fail
      go_cut [15, 16] from 17 (fun pp fl wc => ∃ (g : Nat) (y1 y2 : Value), pp = .pointer (some ⟨g, 0, none⟩) ∧ fl = .bool ok ∧ (wc.cell? ⟨g, 0, none⟩ = some y1 ∧ wc.cell? ⟨g, 1, none⟩ = some y2) ∧ (RL wc (fun _ => True) y1 D.1 ∧ RL wc (fun _ => True) y2 D.2) ∧ Below h0W.heap.size h0W wc)
      case first =>
        have hszW := hW.size
        go_wp2_with fail
        (refine (toAssertion_rl (.slice va01 l0.1.length vc01) (.slice va02 l0.2.length vc02) l0 _ (h01.keep (bt hW Bl)) (h02.keep (bt hW Bl)) hs0).mono ?_)
        rintro e y0 ⟨r01, r02, rfl, ⟨_, _, oo01, oo02, _⟩, hb0'⟩
        have q01 := oo01.read
        have q02 := oo02.read
        clear oo01 oo02
        obtain ⟨ra01, rc01, rfl⟩ := q01.form
        obtain ⟨ra02, rc02, rfl⟩ := q02.form
        have hbp0 : Below h0W.heap.size h0W y0 := bt Bl hb0'
        have hbs0 : Below h0W.heap.size h0W y0 := hbp0
        have hzz0 := hbp0.size
        go_wp2_with fail
        (refine (toIntS_rl (.slice va1 l1.length vc1) l1 _ (h1.keep (bt hW Bl)) hs1).mono ?_)
        rintro e y1 ⟨r1, rfl, oo1, hb1'⟩
        have q1 := oo1.read
        clear oo1
        obtain ⟨ra1, rc1, rfl⟩ := q1.form
        have hbp1 : Below y0.heap.size y0 y1 := bt Bl hb1'
        have hbs1 : Below h0W.heap.size h0W y1 := bt hbs0 hbp1
        have hzz1 := hbp1.size
        replace q01 := q01.keep hbp1
        replace q02 := q02.keep hbp1
        go_wp2_with fail
        (refine (abstractI_any _ _ _ l0 l1 _ (q01.keep Bl) (q02.keep Bl) (q1.keep Bl)).mono ?_)
        rw [← HD.out.1, ← HD.out.2]
        rintro e y2 ⟨r21, r22, rfl, HOO, hb2'⟩
        have q21 : RL y2 _ _ D.1 := HOO.one
        have q22 : RL y2 _ _ D.2 := HOO.two
        clear HOO
        obtain ⟨ra21, rc21, rfl⟩ := q21.form
        obtain ⟨ra22, rc22, rfl⟩ := q22.form
        have hbp2 : Below y1.heap.size y1 y2 := bt Bl hb2'
        have hbs2 : Below h0W.heap.size h0W y2 := bt hbs1 hbp2
        have hzz2 := hbp2.size
        have hWn := bt hW hbs2
        have HQ := Lib.hid (And.intro q21 q22)
        clear q01 q02 q1 q21 q22
        go_wp2
        go_meet
        case rel =>
          have q21 := HQ.out.1
          have q22 := HQ.out.2
          refine ⟨_, .slice ra21 D.1.length rc21, .slice ra22 D.2.length rc22, rfl, rfl, ⟨?_, ?_⟩, ⟨?_, ?_⟩, ?_⟩
          · first | exact (box_two _ _ ht0 ht1).1 | (simp; done) | (simp [go_sem]; done)
          · first | exact (box_two _ _ ht0 ht1).2 | (simp; done) | (simp [go_sem]; done)
          · first | (with_reducible refine (q21.set2 ?_ _ _).any; first | omega | (simp; done) | (simp; omega)) | exact (q21.keep Bl).any
          · first | (with_reducible refine (q22.set2 ?_ _ _).any; first | omega | (simp; done) | (simp; omega)) | exact (q22.keep Bl).any
          · first | (with_reducible refine Below.setCell (Below.setCell hbs2 ?_ _) ?_ _ <;> first | omega | (simp; done) | (simp; omega)) | exact bt hbs2 Bl
      case rest =>
        obtain ⟨g3, y1, y2, rfl, rfl, ⟨hy1, hy2⟩, ⟨ry1, ry2⟩, hb⟩ := hcut
        have HKP2 := HKP.out
        obtain ⟨hw1, hw2, hg1, hg2, ru1, ru2, om1, om2⟩ := HKP2
        replace hw1 := cell_keep hb hw1
        replace hw2 := cell_keep hb hw2
        replace hg1 := cell_keep hb hg1
        replace hg2 := cell_keep hb hg2
        replace ru1 := ru1.keep hb
        replace ru2 := ru2.keep hb
        replace om1 := om1.keep hb
        replace om2 := om2.keep hb
        replace hW := bt hW hb
        clear hb
        obtain ⟨ya1, yc1, rfl⟩ := ry1.form
        obtain ⟨ya2, yc2, rfl⟩ := ry2.form
        go_wp2_with fail
        refine (cb (b := true) (eqAssertion_rl _ _ _ _ D D _ ry1 ry2 ru1 ru2) (by simp)).mono ?_
        rintro e e2 ⟨rfl, hb⟩
        replace hg1 := cell_keep hb hg1
        replace hg2 := cell_keep hb hg2
        replace om1 := om1.keep hb
        replace om2 := om2.keep hb
        replace hW := bt hW hb
        clear hb
        go_wp2_with fail
        refine (heldAssertion_rl _ _ D 1 _ om1.read om2.read (by omega) (by omega) hsD).mono ?_
        rintro e h1W ⟨rfl, hb⟩
        replace hW := bt hW hb
        go_wp2
        go_ret
        exact ⟨rfl, hW⟩
end Go.Proofs.Ytdjfdopgjlbloaa
