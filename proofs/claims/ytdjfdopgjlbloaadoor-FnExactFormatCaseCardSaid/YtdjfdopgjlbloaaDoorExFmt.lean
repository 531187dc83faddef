/- The walk of the law FnExactFormatCase. -/
import Derived.Test.YtdjfdopgjlbloaaDoorFmtI
import Derived.Deep.RegionHeld3
import Derived.Deep.DeepMust
namespace Go.Proofs.YtdjfdopgjlbloaaDoor
open Go.RowKit

set_option maxRecDepth 100000 in
set_option maxHeartbeats 6400000 in
theorem fnExactFormatCase_walk {S01 S02 : Nat → Prop} (v01 v02 : Value) (l0 : CPf) (w : World) (h01 : RL w S01 v01 l0.1) (h02 : RL w S02 v02 l0.2) :
    Calls Tryd.prog 3 #[.agg #[v01, v02]] w fun e w' => e = .returned (.bool true) ∧ Below w.heap.size w w' := by
  obtain ⟨va01, vc01, rfl⟩ := h01.form
  obtain ⟨va02, vc02, rfl⟩ := h02.form
  have hsp0 : (1048576 : Int) < (Mk.size l0 : Nat) ∨ ((Mk.size l0 : Nat) : Int) ≤ (1048576 : Int) := by omega
  rcases hsp0 with hbig | hfit0
  · have HB := Lib.hid (szF_big hbig)
    clear hbig
    go_enter Tryd.func3, Tryd.ntmps3
    go_wp2_with fail
    refine (szCaseProof_rl _ _ l0 _ _ (h01.keep Bl) (h02.keep Bl) (by omega) (by omega)).mono ?_
    rw [HB.out]
    rintro e z ⟨rfl, hb⟩
    go_wp2
    go_ret
    exact ⟨rfl, bt Bl hb⟩
  have HS0 := Lib.hid (szF_fit hfit0)
  have hs0 : Mk.size l0 ≤ 1048576 := by omega
  have hnn0 : ¬ (1048576 : Int) - ((Mk.size l0 : Nat) : Int) < 0 := by omega
  clear hfit0
  go_enter Tryd.func3, Tryd.ntmps3
  go_wp2_with fail
  refine (szCaseProof_rl _ _ l0 _ _ (h01.keep Bl) (h02.keep Bl) (by omega) (by omega)).mono ?_
  rw [HS0.out]
  rintro e z0 ⟨rfl, hb⟩
  have hc01 := cell_keep hb (p := ⟨w.heap.size, 0, none⟩) (v := .slice va01 l0.1.length vc01) (by simp [go_sem])
  have hc02 := cell_keep hb (p := ⟨w.heap.size, 1, none⟩) (v := .slice va02 l0.2.length vc02) (by simp [go_sem])
  have hW : Below w.heap.size w z0 := bt Bl hb
  clear hb
  go_wp2_with fail
  refine (toCaseProof_rl _ _ l0 _ (h01.keep hW) (h02.keep hW) hs0).mono ?_
  rintro e y0 ⟨r01, r02, rfl, ⟨_, _, oo01, oo02, _⟩, hb⟩
  have q01 := oo01.read
  have q02 := oo02.read
  clear oo01 oo02
  obtain ⟨ra01, rc01, rfl⟩ := q01.form
  obtain ⟨ra02, rc02, rfl⟩ := q02.form
  replace hc01 := cell_keep hb hc01; replace hc02 := cell_keep hb hc02; replace hW := bt hW hb; clear hb
  go_wp2_with fail
  refine (formatS_any _ _ l0 _ q01 q02).mono ?_
  rintro e y1 ⟨rfl, hb⟩
  clear q01 q02
  replace hc01 := cell_keep hb hc01; replace hc02 := cell_keep hb hc02; replace hW := bt hW hb; clear hb
  go_wp2_with fail
  refine (toCaseProof_rl _ _ l0 _ (h01.keep hW) (h02.keep hW) hs0).mono ?_
  rintro e y2 ⟨x01, x02, rfl, ⟨_, _, oo01, oo02, _⟩, hb⟩
  have q01 := oo01.read
  have q02 := oo02.read
  clear oo01 oo02
  obtain ⟨xa01, xc01, rfl⟩ := q01.form
  obtain ⟨xa02, xc02, rfl⟩ := q02.form
  replace hc01 := cell_keep hb hc01; replace hc02 := cell_keep hb hc02; replace hW := bt hW hb; clear hb
  go_wp2_with fail
  refine (formatI_any _ _ l0 _ (q01.alloc _) (q02.alloc _)).mono ?_
  rintro e y3 ⟨rfl, hb⟩
  have hx01 := cell_keep hb (p := ⟨y2.heap.size, 0, none⟩) (v := .slice xa01 l0.1.length xc01) (by simp [go_sem])
  have hx02 := cell_keep hb (p := ⟨y2.heap.size, 1, none⟩) (v := .slice xa02 l0.2.length xc02) (by simp [go_sem])
  replace hb := bt (below_alloc y2 (.cells #[.slice xa01 l0.1.length xc01, .slice xa02 l0.2.length xc02] 28)) hb
  replace q01 := q01.keep hb
  replace q02 := q02.keep hb
  replace hc01 := cell_keep hb hc01; replace hc02 := cell_keep hb hc02; replace hW := bt hW hb; clear hb
  go_wp2
  go_region_held3 (fun w' => (w'.cell? ⟨w.heap.size, 0, none⟩ = some (.slice va01 l0.1.length vc01) ∧ w'.cell? ⟨w.heap.size, 1, none⟩ = some (.slice va02 l0.2.length vc02)) ∧ (w'.cell? ⟨y2.heap.size, 0, none⟩ = some (.slice xa01 l0.1.length xc01) ∧ w'.cell? ⟨y2.heap.size, 1, none⟩ = some (.slice xa02 l0.2.length xc02)))
    (exact ⟨⟨cell_keep Bl hc01, cell_keep Bl hc02⟩, ⟨cell_keep Bl hx01, cell_keep Bl hx02⟩⟩)
    (first
      | (go_at_call 7; go_must (refine (toCaseProof_rl _ _ l0 _ (h01.keep (bt hW Bl)) (h02.keep (bt hW Bl)) hs0).mono ?_; rintro e fW ⟨s1, s2, rfl, ⟨_, _, os1, os2, _⟩, hb9'⟩; have qs1 := os1.read; have qs2 := os2.read; clear os1 os2; obtain ⟨sa1, sc1, rfl⟩ := qs1.form; obtain ⟨sa2, sc2, rfl⟩ := qs2.form; have hb9 : Below y3.heap.size y3 fW := bt Bl hb9'))
      | (go_at_call 9; go_must (refine (cb (b := true) (eqCaseProof_rl _ _ _ _ l0 l0 _ (q01.keep Bl) (q02.keep Bl) (qs1.keep (by first | exact Below.refl _ _ | exact below_drew _)) (qs2.keep (by first | exact Below.refl _ _ | exact below_drew _))) (by simp)).mono ?_; rintro e t0w ⟨rfl, hbq'⟩; have hb : Below y3.heap.size y3 t0w := bt (bt hb9 Bl) hbq')))
  all_goals
    clear hb9 hb9' hbq' qs1 qs2
    replace hW := bt hW hb
    go_wp2
    go_ret
    exact ⟨rfl, hW⟩
end Go.Proofs.YtdjfdopgjlbloaaDoor
