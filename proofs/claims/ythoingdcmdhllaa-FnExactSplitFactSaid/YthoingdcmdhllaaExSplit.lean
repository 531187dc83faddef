/- The walk of the law FnExactSplitFact. (Printed by gen_exs.py.) -/
import Derived.Test.YthoingdcmdhllaaSplit3
import Derived.Test.YthoingdcmdhllaaData2
import Derived.Deep.RegionHeld3
import Derived.Deep.Cut
namespace Go.Proofs.Ythoingdcmdhllaa
open Go.RowKit

theorem split_fam (a : Asn) (f : Fact) : famB (splitR a f) = true := by
  rw [splitR]
  split
  · have hl := splitTo_len a f 2
    simp only [famB, Bool.and_eq_true, decide_eq_true_eq, List.all_eq_true]
    refine ⟨by omega, fun x hx => ?_⟩
    have := (List.mem_filter.1 hx).2
    rw [consB, Bool.and_eq_true] at this
    exact this.1
  · rfl
theorem split_size (a : Asn) (f : Fact) : Mk.size (splitR a f) ≤ 1048576 := by
  have := size_fam (split_fam a f); omega

set_option maxRecDepth 100000 in
set_option maxHeartbeats 12800000 in
theorem fnExactSplitFact_walk {S01 S02 : Nat → Prop} (v01 v02 : Value) (l0 : Asn) (f : Fact) (w : World) (h01 : RL w S01 v01 l0.1) (h02 : RL w S02 v02 l0.2) :
    Calls Try.prog 5 #[.agg #[v01, v02], .agg #[.bool f.1, .int .i64 f.2.1, .int .i64 f.2.2]] w fun e w' => e = .returned (.bool true) ∧ Below w.heap.size w w' := by
  obtain ⟨va01, vc01, rfl⟩ := h01.form
  obtain ⟨va02, vc02, rfl⟩ := h02.form
  have hBX : Below w.heap.size w ((w.alloc (.cells #[.slice va01 l0.1.length vc01, .slice va02 l0.2.length vc02] 54)).alloc (.cells #[.bool f.1, .int .i64 f.2.1, .int .i64 f.2.2] 55)) := (by repeat (first | exact Below.refl _ _ | with_reducible assumption | exact below_alloc _ _ | (refine Below.setCell ?_ (by first | (simp; done) | (simp; omega) | omega) _) | apply bd | apply ba | apply be))
  have hsp0 : (1048576 : Int) < (Mk.size l0 : Nat) ∨ ((Mk.size l0 : Nat) : Int) ≤ (1048576 : Int) := by omega
  rcases hsp0 with hbig | hfit0
  · have HB := Lib.hid (szF_big hbig)
    clear hbig
    go_enter Try.func5, Try.ntmps5
    go_wp2_with fail
    refine (szAssertion_rl _ _ l0 _ _ (h01.keep (by repeat (first | exact Below.refl _ _ | with_reducible assumption | exact below_alloc _ _ | (refine Below.setCell ?_ (by first | (simp; done) | (simp; omega) | omega) _) | apply bd | apply ba | apply be))) (h02.keep (by repeat (first | exact Below.refl _ _ | with_reducible assumption | exact below_alloc _ _ | (refine Below.setCell ?_ (by first | (simp; done) | (simp; omega) | omega) _) | apply bd | apply ba | apply be))) (by omega) (by omega)).mono ?_
    rw [HB.out]
    rintro e z ⟨rfl, hb⟩
    go_wp2
    go_ret
    exact ⟨rfl, bt (by repeat (first | exact Below.refl _ _ | with_reducible assumption | exact below_alloc _ _ | (refine Below.setCell ?_ (by first | (simp; done) | (simp; omega) | omega) _) | apply bd | apply ba | apply be)) hb⟩
  have HS0 := Lib.hid (szF_fit hfit0)
  have hs0 : Mk.size l0 ≤ 1048576 := by omega
  have hnn0 : ¬ (1048576 : Int) - ((Mk.size l0 : Nat) : Int) < 0 := by omega
  obtain ⟨D, hD⟩ : ∃ D, D = splitR l0 f := ⟨_, rfl⟩
  have hsD : Mk.size (splitR l0 f) ≤ 1048576 := split_size l0 f
  rw [← hD] at hsD
  obtain ⟨ok, hok⟩ : ∃ ok, ok = splitOk l0 f := ⟨_, rfl⟩
  have hbne : (ok != ok) = false := by cases ok <;> rfl
  have hbeq : (ok == ok) = true := by cases ok <;> rfl
  have HD := Lib.hid (And.intro hD hok)
  clear hD hok
  clear hfit0
  go_enter Try.func5, Try.ntmps5
  go_wp2_with fail
  refine (szAssertion_rl _ _ l0 _ _ (h01.keep (by repeat (first | exact Below.refl _ _ | with_reducible assumption | exact below_alloc _ _ | (refine Below.setCell ?_ (by first | (simp; done) | (simp; omega) | omega) _) | apply bd | apply ba | apply be))) (h02.keep (by repeat (first | exact Below.refl _ _ | with_reducible assumption | exact below_alloc _ _ | (refine Below.setCell ?_ (by first | (simp; done) | (simp; omega) | omega) _) | apply bd | apply ba | apply be))) (by omega) (by omega)).mono ?_
  rw [HS0.out]
  rintro e z0 ⟨rfl, hb⟩
  have hc01 := cell_keep hb (p := ⟨w.heap.size, 0, none⟩) (v := .slice va01 l0.1.length vc01) (by simp [go_sem])
  have hc02 := cell_keep hb (p := ⟨w.heap.size, 1, none⟩) (v := .slice va02 l0.2.length vc02) (by simp [go_sem])
  have hq0 := cell_keep hb (p := ⟨w.heap.size + 1, 0, none⟩) (v := .bool f.1) (by simp [go_sem])
  have hq1 := cell_keep hb (p := ⟨w.heap.size + 1, 1, none⟩) (v := .int .i64 f.2.1) (by simp [go_sem])
  have hq2 := cell_keep hb (p := ⟨w.heap.size + 1, 2, none⟩) (v := .int .i64 f.2.2) (by simp [go_sem])
  have hW : Below w.heap.size w z0 := bt (by repeat (first | exact Below.refl _ _ | with_reducible assumption | exact below_alloc _ _ | (refine Below.setCell ?_ (by first | (simp; done) | (simp; omega) | omega) _) | apply bd | apply ba | apply be)) hb
  clear hb
  go_upto_region 5 with fail
  go_cut [6, 7] from 16 (fun pp fl wc => fl = .bool ok ∧ RL wc (fun _ => True) pp D ∧ Below z0.heap.size z0 wc)
  case first =>
    have hszW := hW.size
    go_region_held3 (fun w' => (w'.cell? ⟨w.heap.size, 0, none⟩ = some (.slice va01 l0.1.length vc01) ∧ w'.cell? ⟨w.heap.size, 1, none⟩ = some (.slice va02 l0.2.length vc02)) ∧ (w'.cell? ⟨w.heap.size + 1, 0, none⟩ = some (.bool f.1) ∧ w'.cell? ⟨w.heap.size + 1, 1, none⟩ = some (.int .i64 f.2.1) ∧ w'.cell? ⟨w.heap.size + 1, 2, none⟩ = some (.int .i64 f.2.2)))
      (exact ⟨⟨cell_keep (by repeat (first | exact Below.refl _ _ | with_reducible assumption | exact below_alloc _ _ | (refine Below.setCell ?_ (by first | (simp; done) | (simp; omega) | omega) _) | apply bd | apply ba | apply be)) hc01, cell_keep (by repeat (first | exact Below.refl _ _ | with_reducible assumption | exact below_alloc _ _ | (refine Below.setCell ?_ (by first | (simp; done) | (simp; omega) | omega) _) | apply bd | apply ba | apply be)) hc02⟩, cell_keep (by repeat (first | exact Below.refl _ _ | with_reducible assumption | exact below_alloc _ _ | (refine Below.setCell ?_ (by first | (simp; done) | (simp; omega) | omega) _) | apply bd | apply ba | apply be)) hq0, cell_keep (by repeat (first | exact Below.refl _ _ | with_reducible assumption | exact below_alloc _ _ | (refine Below.setCell ?_ (by first | (simp; done) | (simp; omega) | omega) _) | apply bd | apply ba | apply be)) hq1, cell_keep (by repeat (first | exact Below.refl _ _ | with_reducible assumption | exact below_alloc _ _ | (refine Below.setCell ?_ (by first | (simp; done) | (simp; omega) | omega) _) | apply bd | apply ba | apply be)) hq2⟩)
      (first
        | (go_at_call 30; (with_reducible refine (toAssertion_rl (.slice va01 l0.1.length vc01) (.slice va02 l0.2.length vc02) l0 _ (h01.keep (bt hW (by repeat (first | exact Below.refl _ _ | with_reducible assumption | exact below_alloc _ _ | (refine Below.setCell ?_ (by first | (simp; done) | (simp; omega) | omega) _) | apply bd | apply ba | apply be)))) (h02.keep (bt hW (by repeat (first | exact Below.refl _ _ | with_reducible assumption | exact below_alloc _ _ | (refine Below.setCell ?_ (by first | (simp; done) | (simp; omega) | omega) _) | apply bd | apply ba | apply be)))) hs0).mono ?_); rintro e y0 ⟨r01, r02, rfl, ⟨_, _, oo01, oo02, _⟩, hb0'⟩; have q01 := oo01.read; have q02 := oo02.read; clear oo01 oo02; obtain ⟨ra01, rc01, rfl⟩ := q01.form; obtain ⟨ra02, rc02, rfl⟩ := q02.form; have hbp0 : Below z0.heap.size z0 y0 := bt (by repeat (first | exact Below.refl _ _ | with_reducible assumption | exact below_alloc _ _ | (refine Below.setCell ?_ (by first | (simp; done) | (simp; omega) | omega) _) | apply bd | apply ba | apply be)) hb0'; have hbs0 : Below z0.heap.size z0 y0 := hbp0; have hzz0 := hbp0.size)
        | (go_at_call 31; go_must (refine (toFact_any f _).mono ?_; rintro e yX ⟨rfl, hbX'⟩; have hbpX : Below y0.heap.size y0 yX := bt (by repeat (first | exact Below.refl _ _ | with_reducible assumption | exact below_alloc _ _ | (refine Below.setCell ?_ (by first | (simp; done) | (simp; omega) | omega) _) | apply bd | apply ba | apply be)) hbX'; have hbsX : Below z0.heap.size z0 yX := bt hbs0 hbpX; have hzzX := hbpX.size; replace q01 := q01.keep hbpX; replace q02 := q02.keep hbpX))
        | (go_at_call 25; go_must ((refine (splitS_any _ _ l0 f _ (q01.keep (by repeat (first | exact Below.refl _ _ | with_reducible assumption | exact below_alloc _ _ | (refine Below.setCell ?_ (by first | (simp; done) | (simp; omega) | omega) _) | apply bd | apply ba | apply be))) (q02.keep (by repeat (first | exact Below.refl _ _ | with_reducible assumption | exact below_alloc _ _ | (refine Below.setCell ?_ (by first | (simp; done) | (simp; omega) | omega) _) | apply bd | apply ba | apply be)))).mono ?_); rw [← HD.out.1, ← HD.out.2]; rintro e y1 ⟨r1, rfl, q1, hb1'⟩; obtain ⟨ra1, rc1, rfl⟩ := q1.form; have hbp1 : Below yX.heap.size yX y1 := bt (by repeat (first | exact Below.refl _ _ | with_reducible assumption | exact below_alloc _ _ | (refine Below.setCell ?_ (by first | (simp; done) | (simp; omega) | omega) _) | apply bd | apply ba | apply be)) hb1'; have hbs1 : Below z0.heap.size z0 y1 := bt hbsX hbp1; have hzz1 := hbp1.size)))
    all_goals
      have HQ := Lib.hid q1
      clear q01 q02 q1
      go_wp2
      go_meet
      case rel => exact ⟨rfl, (HQ.out.keep (by repeat (first | exact Below.refl _ _ | with_reducible assumption | exact below_alloc _ _ | (refine Below.setCell ?_ (by first | (simp; done) | (simp; omega) | omega) _) | apply bd | apply ba | apply be))).any, bt hbs1 (by repeat (first | exact Below.refl _ _ | with_reducible assumption | exact below_alloc _ _ | (refine Below.setCell ?_ (by first | (simp; done) | (simp; omega) | omega) _) | apply bd | apply ba | apply be))⟩
  case rest =>
    obtain ⟨rfl, ru, hb⟩ := hcut
    replace hc01 := cell_keep hb hc01
    replace hc02 := cell_keep hb hc02
    replace hq0 := cell_keep hb hq0
    replace hq1 := cell_keep hb hq1
    replace hq2 := cell_keep hb hq2
    replace hW := bt hW hb
    clear hb
    replace ru := ru.lt
    obtain ⟨ua, uc, rfl⟩ := ru.form
    obtain ⟨s0, hs0e⟩ : ∃ s, s = wc.heap.size := ⟨_, rfl⟩
    rw [← hs0e] at ru
    have hle : w.heap.size ≤ s0 := by have := hW.size; omega
    have hE1 : w.heap.size + 1 < s0 := by have := World.block_lt_of_cell? wc _ hq0; simp only at this; omega
    have hE0 : w.heap.size < s0 := by have := World.block_lt_of_cell? wc _ hc01; simp only at this; omega
    go_wp2_with fail
    refine (toAssertion_rl _ _ l0 _ (by exact h01.keep (bt hW (by repeat (first | exact Below.refl _ _ | with_reducible assumption | exact below_alloc _ _ | (refine Below.setCell ?_ (by first | (simp; done) | (simp; omega) | omega) _) | apply bd | apply ba | apply be)))) (by exact h02.keep (bt hW (by repeat (first | exact Below.refl _ _ | with_reducible assumption | exact below_alloc _ _ | (refine Below.setCell ?_ (by first | (simp; done) | (simp; omega) | omega) _) | apply bd | apply ba | apply be)))) hs0).mono ?_
    rintro e n0 ⟨x01, x02, rfl, ⟨f01, f02, ox01, ox02, nx0⟩, hb⟩
    obtain ⟨xa01, xc01, rfl⟩ := ox01.read.form
    obtain ⟨xa02, xc02, rfl⟩ := ox02.read.form
    have lx0 : ∀ k, k ∈ f01 ++ f02 → s0 ≤ k ∧ k < n0.heap.size := fun k hk => by
      rcases List.mem_append.1 hk with h | h
      · have := ox01.lt k h; first | (simp at this; omega) | omega
      · have := ox02.lt k h; first | (simp at this; omega) | omega
    replace ox01 := ox01.mono (Nat.zero_le _)
    replace ox02 := ox02.mono (Nat.zero_le _)
    have hn0 : s0 ≤ n0.heap.size := by have := hb.size; first | omega | (simp at this; omega)
    replace hc01 := cell_keep hb hc01
    replace hc02 := cell_keep hb hc02
    replace hq0 := cell_keep hb hq0
    replace hq1 := cell_keep hb hq1
    replace hq2 := cell_keep hb hq2
    replace ru := ru.keep hb
    replace hW := bt hW hb
    clear hb
    have hm0_0 : w.heap.size < n0.heap.size := by omega
    have hp0 : (n0.alloc (.cells #[.slice xa01 l0.1.length xc01, .slice xa02 l0.2.length xc02] 34)).cell? ⟨n0.heap.size, 0, none⟩ = some (.slice xa01 l0.1.length xc01) := by simp
    have hp1 : (n0.alloc (.cells #[.slice xa01 l0.1.length xc01, .slice xa02 l0.2.length xc02] 34)).cell? ⟨n0.heap.size, 1, none⟩ = some (.slice xa02 l0.2.length xc02) := by simp
    have hpb : Below n0.heap.size n0 (n0.alloc (.cells #[.slice xa01 l0.1.length xc01, .slice xa02 l0.2.length xc02] 34)) := below_alloc _ _
    have hq0' := cell_keep hpb hq0
    have hq1' := cell_keep hpb hq1
    have hq2' := cell_keep hpb hq2
    have qx1 := ox01.read.keep hpb
    have qx2 := ox02.read.keep hpb
    go_wp2
    go_region_held3 (fun w' => (w'.cell? ⟨n0.heap.size, 0, none⟩ = some (.slice xa01 l0.1.length xc01) ∧ w'.cell? ⟨n0.heap.size, 1, none⟩ = some (.slice xa02 l0.2.length xc02)) ∧ (w'.cell? ⟨w.heap.size + 1, 0, none⟩ = some (.bool f.1) ∧ w'.cell? ⟨w.heap.size + 1, 1, none⟩ = some (.int .i64 f.2.1) ∧ w'.cell? ⟨w.heap.size + 1, 2, none⟩ = some (.int .i64 f.2.2)))
      (exact ⟨⟨cell_keep (by repeat (first | exact Below.refl _ _ | with_reducible assumption | exact below_alloc _ _ | (refine Below.setCell ?_ (by first | (simp; done) | (simp; omega) | omega) _) | apply bd | apply ba | apply be)) hp0, cell_keep (by repeat (first | exact Below.refl _ _ | with_reducible assumption | exact below_alloc _ _ | (refine Below.setCell ?_ (by first | (simp; done) | (simp; omega) | omega) _) | apply bd | apply ba | apply be)) hp1⟩, cell_keep (by repeat (first | exact Below.refl _ _ | with_reducible assumption | exact below_alloc _ _ | (refine Below.setCell ?_ (by first | (simp; done) | (simp; omega) | omega) _) | apply bd | apply ba | apply be)) hq0', cell_keep (by repeat (first | exact Below.refl _ _ | with_reducible assumption | exact below_alloc _ _ | (refine Below.setCell ?_ (by first | (simp; done) | (simp; omega) | omega) _) | apply bd | apply ba | apply be)) hq1', cell_keep (by repeat (first | exact Below.refl _ _ | with_reducible assumption | exact below_alloc _ _ | (refine Below.setCell ?_ (by first | (simp; done) | (simp; omega) | omega) _) | apply bd | apply ba | apply be)) hq2'⟩)
      (first
        | (go_at_call 31; go_must (refine (toFact_any f _).mono ?_; rintro e gX ⟨rfl, hbX'⟩; have hbX : Below (n0.alloc (.cells #[.slice xa01 l0.1.length xc01, .slice xa02 l0.2.length xc02] 34)).heap.size (n0.alloc (.cells #[.slice xa01 l0.1.length xc01, .slice xa02 l0.2.length xc02] 34)) gX := bt (by repeat (first | exact Below.refl _ _ | with_reducible assumption | exact below_alloc _ _ | (refine Below.setCell ?_ (by first | (simp; done) | (simp; omega) | omega) _) | apply bd | apply ba | apply be)) hbX'))
        | (go_at_call 24; go_must (refine (splitI_any _ _ l0 f _ (qx1.keep (by repeat (first | exact Below.refl _ _ | with_reducible assumption | exact below_alloc _ _ | (refine Below.setCell ?_ (by first | (simp; done) | (simp; omega) | omega) _) | apply bd | apply ba | apply be))) (qx2.keep (by repeat (first | exact Below.refl _ _ | with_reducible assumption | exact below_alloc _ _ | (refine Below.setCell ?_ (by first | (simp; done) | (simp; omega) | omega) _) | apply bd | apply ba | apply be)))).mono ?_; rw [← HD.out.1, ← HD.out.2]; rintro e gW ⟨g, rfl, ⟨fg, og, ng⟩, hb'⟩; have hb : Below (n0.alloc (.cells #[.slice xa01 l0.1.length xc01, .slice xa02 l0.2.length xc02] 34)).heap.size (n0.alloc (.cells #[.slice xa01 l0.1.length xc01, .slice xa02 l0.2.length xc02] 34)) gW := bt (bt hbX (by repeat (first | exact Below.refl _ _ | with_reducible assumption | exact below_alloc _ _ | (refine Below.setCell ?_ (by first | (simp; done) | (simp; omega) | omega) _) | apply bd | apply ba | apply be))) hb')))
    all_goals
      obtain ⟨ga, gc, rfl⟩ := og.read.form
      have hzX := hbX.size
      rw [World.size_alloc] at hzX
      have lg : ∀ k, k ∈ fg → n0.heap.size + 1 ≤ k ∧ k < gW.heap.size := fun k hk => by have := og.lt k hk; first | omega | (simp at this; omega)
      clear qx1 qx2 hp0 hp1 hpb hq0' hq1' hq2' hbX hbX' hb'
      replace og := og.mono (Nat.zero_le _)
      have hx01 := cell_keep hb (p := ⟨n0.heap.size, 0, none⟩) (v := .slice xa01 l0.1.length xc01) (by simp)
      have hx02 := cell_keep hb (p := ⟨n0.heap.size, 1, none⟩) (v := .slice xa02 l0.2.length xc02) (by simp)
      replace hb : Below n0.heap.size n0 gW := bt (by repeat (first | exact Below.refl _ _ | with_reducible assumption | exact below_alloc _ _ | (refine Below.setCell ?_ (by first | (simp; done) | (simp; omega) | omega) _) | apply bd | apply ba | apply be)) hb
      have hng : n0.heap.size + 1 ≤ gW.heap.size := by have := World.block_lt_of_cell? gW _ hx01; simp only at this; omega
      replace hc01 := cell_keep hb hc01
      replace hc02 := cell_keep hb hc02
      replace hq0 := cell_keep hb hq0
      replace hq1 := cell_keep hb hq1
      replace hq2 := cell_keep hb hq2
      replace ru := ru.keep hb
      replace ox01 := ox01.keep hb
      replace ox02 := ox02.keep hb
      replace hW := bt hW hb
      clear hb
      have hmg_0 : w.heap.size < gW.heap.size := by omega
      have hmgx_0 : n0.heap.size < gW.heap.size := by omega
      go_wp2_with fail
      refine (cb (b := true) (eqAssertionS_rl _ _ D D _ og.read ru) (by simp)).mono ?_
      rintro e e0 ⟨rfl, hb⟩
      replace hc01 := cell_keep hb hc01
      replace hc02 := cell_keep hb hc02
      replace hq0 := cell_keep hb hq0
      replace hq1 := cell_keep hb hq1
      replace hq2 := cell_keep hb hq2
      replace hx01 := cell_keep hb hx01
      replace hx02 := cell_keep hb hx02
      replace ru := ru.keep hb
      replace ox01 := ox01.keep hb
      replace ox02 := ox02.keep hb
      replace og := og.keep hb
      replace hW := bt hW hb
      clear hb
      go_wp2
      go_region_held3 (fun w' => (w'.cell? ⟨w.heap.size, 0, none⟩ = some (.slice va01 l0.1.length vc01) ∧ w'.cell? ⟨w.heap.size, 1, none⟩ = some (.slice va02 l0.2.length vc02)) ∧ (w'.cell? ⟨n0.heap.size, 0, none⟩ = some (.slice xa01 l0.1.length xc01) ∧ w'.cell? ⟨n0.heap.size, 1, none⟩ = some (.slice xa02 l0.2.length xc02)))
        (exact ⟨⟨cell_keep (by repeat (first | exact Below.refl _ _ | with_reducible assumption | exact below_alloc _ _ | (refine Below.setCell ?_ (by first | (simp; done) | (simp; omega) | omega) _) | apply bd | apply ba | apply be)) hc01, cell_keep (by repeat (first | exact Below.refl _ _ | with_reducible assumption | exact below_alloc _ _ | (refine Below.setCell ?_ (by first | (simp; done) | (simp; omega) | omega) _) | apply bd | apply ba | apply be)) hc02⟩, ⟨cell_keep (by repeat (first | exact Below.refl _ _ | with_reducible assumption | exact below_alloc _ _ | (refine Below.setCell ?_ (by first | (simp; done) | (simp; omega) | omega) _) | apply bd | apply ba | apply be)) hx01, cell_keep (by repeat (first | exact Below.refl _ _ | with_reducible assumption | exact below_alloc _ _ | (refine Below.setCell ?_ (by first | (simp; done) | (simp; omega) | omega) _) | apply bd | apply ba | apply be)) hx02⟩⟩)
        (first
          | (go_at_call 30; go_must (refine (toAssertion_rl _ _ l0 _ (h01.keep (bt hW (by repeat (first | exact Below.refl _ _ | with_reducible assumption | exact below_alloc _ _ | (refine Below.setCell ?_ (by first | (simp; done) | (simp; omega) | omega) _) | apply bd | apply ba | apply be)))) (h02.keep (bt hW (by repeat (first | exact Below.refl _ _ | with_reducible assumption | exact below_alloc _ _ | (refine Below.setCell ?_ (by first | (simp; done) | (simp; omega) | omega) _) | apply bd | apply ba | apply be)))) hs0).mono ?_; rintro e fW ⟨s1, s2, rfl, ⟨_, _, os1, os2, _⟩, hb9'⟩; have qs1 := os1.read; have qs2 := os2.read; clear os1 os2; obtain ⟨sa1, sc1, rfl⟩ := qs1.form; obtain ⟨sa2, sc2, rfl⟩ := qs2.form; have hb9 : Below e0.heap.size e0 fW := bt (by repeat (first | exact Below.refl _ _ | with_reducible assumption | exact below_alloc _ _ | (refine Below.setCell ?_ (by first | (simp; done) | (simp; omega) | omega) _) | apply bd | apply ba | apply be)) hb9'))
          | (go_at_call 33; go_must (refine (cb (b := true) (eqAssertion_rl _ _ _ _ l0 l0 _ (ox01.read.keep (by repeat (first | exact Below.refl _ _ | with_reducible assumption | exact below_alloc _ _ | (refine Below.setCell ?_ (by first | (simp; done) | (simp; omega) | omega) _) | apply bd | apply ba | apply be))) (ox02.read.keep (by repeat (first | exact Below.refl _ _ | with_reducible assumption | exact below_alloc _ _ | (refine Below.setCell ?_ (by first | (simp; done) | (simp; omega) | omega) _) | apply bd | apply ba | apply be))) (qs1.keep (by first | exact Below.refl _ _ | exact below_drew _)) (qs2.keep (by first | exact Below.refl _ _ | exact below_drew _))) (by simp)).mono ?_; rintro e t0w ⟨rfl, hbq'⟩; have hb : Below e0.heap.size e0 t0w := bt (bt hb9 (by repeat (first | exact Below.refl _ _ | with_reducible assumption | exact below_alloc _ _ | (refine Below.setCell ?_ (by first | (simp; done) | (simp; omega) | omega) _) | apply bd | apply ba | apply be))) hbq')))
      all_goals
        clear hb9 hb9' hbq' qs1 qs2
        replace hc01 := cell_keep hb hc01
        replace hc02 := cell_keep hb hc02
        replace hq0 := cell_keep hb hq0
        replace hq1 := cell_keep hb hq1
        replace hq2 := cell_keep hb hq2
        replace hx01 := cell_keep hb hx01
        replace hx02 := cell_keep hb hx02
        replace ru := ru.keep hb
        replace ox01 := ox01.keep hb
        replace ox02 := ox02.keep hb
        replace og := og.keep hb
        replace hW := bt hW hb
        clear hb
        go_wp2_with fail
        refine (markAssertion_rl 0 _ _ l0 f01 f02 (1) _ ox01 ox02 nx0 (by omega) (by omega) hs0).mono ?_
        rintro e k0w ⟨rfl, _, _, hf⟩
        replace hW := hW.trans (hf.below hW.size fun k hk hm => by have := (lx0 k hm).1; omega)
        replace ru := ru.kept hf (fun k _ h hm => by have := (lx0 k hm).1; have h2 : k < s0 := h; omega)
        replace og := og.okept hf (fun k hk hm => by have := lx0 k hm; have := lg k (hk); omega)
        replace hc01 := hf.cell (fun hm => by have := lx0 (w.heap.size) hm; omega) hc01
        replace hc02 := hf.cell (fun hm => by have := lx0 (w.heap.size) hm; omega) hc02
        replace hq0 := hf.cell (fun hm => by have := lx0 (w.heap.size + 1) hm; omega) hq0
        replace hq1 := hf.cell (fun hm => by have := lx0 (w.heap.size + 1) hm; omega) hq1
        replace hq2 := hf.cell (fun hm => by have := lx0 (w.heap.size + 1) hm; omega) hq2
        clear hf ox01 ox02 hx01 hx02
        have hcl0 := Mk.le l0
        have hk0 : ¬ 1 + ((Mk.cnt l0 : Nat) : Int) < 0 := by omega
        go_wp2_with fail
        refine (cb (b := true) (eqAssertionS_rl _ _ D D _ og.read ru) (by simp)).mono ?_
        rintro e e1 ⟨rfl, hb⟩
        replace hc01 := cell_keep hb hc01
        replace hc02 := cell_keep hb hc02
        replace hq0 := cell_keep hb hq0
        replace hq1 := cell_keep hb hq1
        replace hq2 := cell_keep hb hq2
        replace ru := ru.keep hb
        replace og := og.keep hb
        replace hW := bt hW hb
        clear hb
        go_wp2_with fail
        refine (markAssertionS_rl 0 _ D fg 1 _ og ng (by omega) (by omega) hsD).mono ?_
        rintro e mW ⟨rfl, om, hf⟩
        replace hW := hW.trans (hf.below hW.size fun k hk hm => by have := (lg k hm).1; omega)
        replace ru := ru.kept hf (fun k _ h hm => by have := (lg k hm).1; have h2 : k < s0 := h; omega)
        replace hc01 := hf.cell (fun hm => by have := lg (w.heap.size) hm; omega) hc01
        replace hc02 := hf.cell (fun hm => by have := lg (w.heap.size) hm; omega) hc02
        replace hq0 := hf.cell (fun hm => by have := lg (w.heap.size + 1) hm; omega) hq0
        replace hq1 := hf.cell (fun hm => by have := lg (w.heap.size + 1) hm; omega) hq1
        replace hq2 := hf.cell (fun hm => by have := lg (w.heap.size + 1) hm; omega) hq2
        clear hf og
        have hcD := Mk.le D
        have hk1 : ¬ 1 + ((Mk.cnt D : Nat) : Int) < 0 := by omega
        go_wp2_with fail
        refine (heldAssertionS_rl _ D 1 _ om.read (by omega) (by omega) hsD).mono ?_
        rintro e h0W ⟨rfl, hb⟩
        replace hc01 := cell_keep hb hc01
        replace hc02 := cell_keep hb hc02
        replace hq0 := cell_keep hb hq0
        replace hq1 := cell_keep hb hq1
        replace hq2 := cell_keep hb hq2
        replace ru := ru.keep hb
        replace om := om.keep hb
        replace hW := bt hW hb
        clear hb
        have HKP := Lib.hid (And.intro ru om)
        clear ru om lx0 lg hng hk0 hcD hn0 hcl0 hm0_0 hmg_0 hmgx_0 nx0 ng
        go_upto_region 24 with fail
        go_cut [14, 15] from 16 (fun pp fl wc => fl = .bool ok ∧ RL wc (fun _ => True) pp D ∧ Below h0W.heap.size h0W wc)
        case first =>
          have hszW := hW.size
          go_region_held3 (fun w' => (w'.cell? ⟨w.heap.size, 0, none⟩ = some (.slice va01 l0.1.length vc01) ∧ w'.cell? ⟨w.heap.size, 1, none⟩ = some (.slice va02 l0.2.length vc02)) ∧ (w'.cell? ⟨w.heap.size + 1, 0, none⟩ = some (.bool f.1) ∧ w'.cell? ⟨w.heap.size + 1, 1, none⟩ = some (.int .i64 f.2.1) ∧ w'.cell? ⟨w.heap.size + 1, 2, none⟩ = some (.int .i64 f.2.2)))
            (exact ⟨⟨cell_keep (by repeat (first | exact Below.refl _ _ | with_reducible assumption | exact below_alloc _ _ | (refine Below.setCell ?_ (by first | (simp; done) | (simp; omega) | omega) _) | apply bd | apply ba | apply be)) hc01, cell_keep (by repeat (first | exact Below.refl _ _ | with_reducible assumption | exact below_alloc _ _ | (refine Below.setCell ?_ (by first | (simp; done) | (simp; omega) | omega) _) | apply bd | apply ba | apply be)) hc02⟩, cell_keep (by repeat (first | exact Below.refl _ _ | with_reducible assumption | exact below_alloc _ _ | (refine Below.setCell ?_ (by first | (simp; done) | (simp; omega) | omega) _) | apply bd | apply ba | apply be)) hq0, cell_keep (by repeat (first | exact Below.refl _ _ | with_reducible assumption | exact below_alloc _ _ | (refine Below.setCell ?_ (by first | (simp; done) | (simp; omega) | omega) _) | apply bd | apply ba | apply be)) hq1, cell_keep (by repeat (first | exact Below.refl _ _ | with_reducible assumption | exact below_alloc _ _ | (refine Below.setCell ?_ (by first | (simp; done) | (simp; omega) | omega) _) | apply bd | apply ba | apply be)) hq2⟩)
            (first
              | (go_at_call 30; (with_reducible refine (toAssertion_rl (.slice va01 l0.1.length vc01) (.slice va02 l0.2.length vc02) l0 _ (h01.keep (bt hW (by repeat (first | exact Below.refl _ _ | with_reducible assumption | exact below_alloc _ _ | (refine Below.setCell ?_ (by first | (simp; done) | (simp; omega) | omega) _) | apply bd | apply ba | apply be)))) (h02.keep (bt hW (by repeat (first | exact Below.refl _ _ | with_reducible assumption | exact below_alloc _ _ | (refine Below.setCell ?_ (by first | (simp; done) | (simp; omega) | omega) _) | apply bd | apply ba | apply be)))) hs0).mono ?_); rintro e y0 ⟨r01, r02, rfl, ⟨_, _, oo01, oo02, _⟩, hb0'⟩; have q01 := oo01.read; have q02 := oo02.read; clear oo01 oo02; obtain ⟨ra01, rc01, rfl⟩ := q01.form; obtain ⟨ra02, rc02, rfl⟩ := q02.form; have hbp0 : Below h0W.heap.size h0W y0 := bt (by repeat (first | exact Below.refl _ _ | with_reducible assumption | exact below_alloc _ _ | (refine Below.setCell ?_ (by first | (simp; done) | (simp; omega) | omega) _) | apply bd | apply ba | apply be)) hb0'; have hbs0 : Below h0W.heap.size h0W y0 := hbp0; have hzz0 := hbp0.size)
              | (go_at_call 31; go_must (refine (toFact_any f _).mono ?_; rintro e yX ⟨rfl, hbX'⟩; have hbpX : Below y0.heap.size y0 yX := bt (by repeat (first | exact Below.refl _ _ | with_reducible assumption | exact below_alloc _ _ | (refine Below.setCell ?_ (by first | (simp; done) | (simp; omega) | omega) _) | apply bd | apply ba | apply be)) hbX'; have hbsX : Below h0W.heap.size h0W yX := bt hbs0 hbpX; have hzzX := hbpX.size; replace q01 := q01.keep hbpX; replace q02 := q02.keep hbpX))
              | (go_at_call 24; go_must ((refine (splitI_any _ _ l0 f _ (q01.keep (by repeat (first | exact Below.refl _ _ | with_reducible assumption | exact below_alloc _ _ | (refine Below.setCell ?_ (by first | (simp; done) | (simp; omega) | omega) _) | apply bd | apply ba | apply be))) (q02.keep (by repeat (first | exact Below.refl _ _ | with_reducible assumption | exact below_alloc _ _ | (refine Below.setCell ?_ (by first | (simp; done) | (simp; omega) | omega) _) | apply bd | apply ba | apply be)))).mono ?_); rw [← HD.out.1, ← HD.out.2]; rintro e y1 ⟨r1, rfl, HOO, hb1'⟩; have q1 := HOO.read; clear HOO; obtain ⟨ra1, rc1, rfl⟩ := q1.form; have hbp1 : Below yX.heap.size yX y1 := bt (by repeat (first | exact Below.refl _ _ | with_reducible assumption | exact below_alloc _ _ | (refine Below.setCell ?_ (by first | (simp; done) | (simp; omega) | omega) _) | apply bd | apply ba | apply be)) hb1'; have hbs1 : Below h0W.heap.size h0W y1 := bt hbsX hbp1; have hzz1 := hbp1.size)))
          all_goals
            have HQ := Lib.hid q1
            clear q01 q02 q1
            go_wp2
            go_meet
            case rel => exact ⟨rfl, (HQ.out.keep (by repeat (first | exact Below.refl _ _ | with_reducible assumption | exact below_alloc _ _ | (refine Below.setCell ?_ (by first | (simp; done) | (simp; omega) | omega) _) | apply bd | apply ba | apply be))).any, bt hbs1 (by repeat (first | exact Below.refl _ _ | with_reducible assumption | exact below_alloc _ _ | (refine Below.setCell ?_ (by first | (simp; done) | (simp; omega) | omega) _) | apply bd | apply ba | apply be))⟩
        case rest =>
          obtain ⟨rfl, ry, hb⟩ := hcut
          have HKP2 := HKP.out
          obtain ⟨ru, om⟩ := HKP2
          replace ru := ru.keep hb
          replace om := om.keep hb
          replace hW := bt hW hb
          clear hb
          obtain ⟨ya, yc, rfl⟩ := ry.form
          go_wp2_with fail
          refine (cb (b := true) (eqAssertionS_rl _ _ D D _ ry ru) (by simp)).mono ?_
          rintro e e2 ⟨rfl, hb⟩
          replace om := om.keep hb
          replace hW := bt hW hb
          clear hb
          go_wp2_with fail
          refine (heldAssertionS_rl _ D 1 _ om.read (by omega) (by omega) hsD).mono ?_
          rintro e h1W ⟨rfl, hb⟩
          replace hW := bt hW hb
          go_wp2
          go_ret
          exact ⟨rfl, hW⟩
end Go.Proofs.Ythoingdcmdhllaa
