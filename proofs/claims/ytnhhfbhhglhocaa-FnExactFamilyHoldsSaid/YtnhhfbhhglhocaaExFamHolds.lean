/- The walk of the law FnExactFamilyHolds. -/
import Derived.Test.YtnhhfbhhglhocaaHold8
import Derived.Test.YtnhhfbhhglhocaaData2
import Derived.Deep.RegionHeld3
namespace Go.Proofs.Ytnhhfbhhglhocaa
open Go.RowKit

set_option maxRecDepth 100000 in
set_option maxHeartbeats 3200000 in
theorem fnExactFamilyHolds_walk {S : Nat → Prop} (v1 v2 v : Value) (l1 l2 : List Int) (l : List Asn) (w : World) (h1 : RInts w v1 l1) (h2 : RInts w v2 l2) (h : RL w S v l) :
    Calls Try.prog 10 #[.agg #[v1, v2], v] w fun e w' => e = .returned (.bool true) ∧ Below w.heap.size w w' := by
  obtain ⟨a1, c1, rfl⟩ := h1.form
  obtain ⟨a2, c2, rfl⟩ := h2.form
  obtain ⟨a, c, rfl⟩ := h.form
  have hm1 := h1.len
  have hm2 := h2.len
  by_cases hsz : (l1.length : Int) + l2.length ≤ 1048576
  rotate_left
  · go_enter Try.func10, Try.ntmps10
    go_wp2_with fail
    refine (szState_big _ _ _ _ _ _ _ _ (by omega) (by omega) (by omega) hm1 hm2).mono ?_
    rintro e w1 ⟨rfl, hW⟩
    go_wp2
    go_ret
    exact ⟨rfl, bt (by repeat (first | exact Below.refl _ _ | with_reducible assumption | exact below_alloc _ _ | (refine Below.setCell ?_ (by first | (simp; done) | (simp; omega) | omega) _) | apply bd | apply ba | apply be)) hW⟩
  have hl1 : l1.length ≤ 1048576 := by omega
  have hl2 : l2.length ≤ 1048576 := by omega
  have hn0 : ¬ (1048576 : Int) - (l1.length : Int) - (l2.length : Int) < 0 := by omega
  have hsp : (1048576 : Int) - l1.length - l2.length < (Mk.size l : Nat) ∨ ((Mk.size l : Nat) : Int) ≤ (1048576 : Int) - l1.length - l2.length := by omega
  rcases hsp with hbig | hfit
  · have HB := Lib.hid (szF_big hbig)
    clear hbig
    go_enter Try.func10, Try.ntmps10
    go_wp2_with fail
    refine (szState_fit _ _ _ _ _ _ _ _ (by omega) hsz).mono ?_
    rintro e w1 ⟨rfl, hW⟩
    replace hW : Below w.heap.size w w1 := bt (by repeat (first | exact Below.refl _ _ | with_reducible assumption | exact below_alloc _ _ | (refine Below.setCell ?_ (by first | (simp; done) | (simp; omega) | omega) _) | apply bd | apply ba | apply be)) hW
    go_wp2_with fail
    refine (szAssertionS_rl _ l _ _ (h.keep hW) (by omega) (by omega)).mono ?_
    rw [HB.out]
    rintro e z ⟨rfl, hb⟩
    go_wp2
    go_ret
    exact ⟨rfl, bt hW hb⟩
  have HS := Lib.hid (szF_fit hfit)
  have hs0 : Mk.size l ≤ 1048576 := by omega
  have hnn : ¬ (1048576 : Int) - (l1.length : Int) - (l2.length : Int) - ((Mk.size l : Nat) : Int) < 0 := by omega
  obtain ⟨t, ht⟩ : ∃ t, famHoldsB l1 l2 l = t := ⟨_, rfl⟩
  have HT := Lib.hid ht
  have hbne : (t != t) = false := by cases t <;> rfl
  clear hfit ht
  go_enter Try.func10, Try.ntmps10
  go_wp2_with fail
  refine (szState_fit _ _ _ _ _ _ _ _ (by omega) hsz).mono ?_
  rintro e w1 ⟨rfl, hb⟩
  have hc0 := cell_keep hb (p := ⟨w.heap.size, 0, none⟩) (v := .slice a1 l1.length c1) (by simp)
  have hc1 := cell_keep hb (p := ⟨w.heap.size, 1, none⟩) (v := .slice a2 l2.length c2) (by simp)
  have hW : Below w.heap.size w w1 := bt (by repeat (first | exact Below.refl _ _ | with_reducible assumption | exact below_alloc _ _ | (refine Below.setCell ?_ (by first | (simp; done) | (simp; omega) | omega) _) | apply bd | apply ba | apply be)) hb
  clear hb
  go_wp2_with fail
  refine (szAssertionS_rl _ l _ _ (h.keep hW) (by omega) (by omega)).mono ?_
  rw [HS.out]
  rintro e w2 ⟨rfl, hb⟩
  replace hc0 := cell_keep hb hc0; replace hc1 := cell_keep hb hc1; replace hW := bt hW hb; clear hb
  go_wp2_with fail
  refine (toState_any _ _ l1 l2 _ (h1.keep hW) (h2.keep hW) hl1 hl2).mono ?_
  rintro e w3 ⟨s1, s2, rfl, os1, os2, _, hb⟩
  have rs1 := (own_ints os1).1
  have rs2 := (own_ints os2).1
  replace hc0 := cell_keep hb hc0; replace hc1 := cell_keep hb hc1; replace hW := bt hW hb; clear hb
  clear os1 os2
  go_wp2_with fail
  refine (toAssertionS_rl _ l _ (h.keep hW) hs0).mono ?_
  rintro e w4 ⟨t1, rfl, ot1, hb⟩
  replace hc0 := cell_keep hb hc0; replace hc1 := cell_keep hb hc1; replace hW := bt hW hb; replace rs1 := rs1.keep hb; replace rs2 := rs2.keep hb; clear hb
  obtain ⟨ta1, tc1, rfl⟩ := ot1.form
  go_wp2_with fail
  refine (cb (famHoldsS_any _ _ _ l1 l2 l _ rs1 rs2 ot1.read) HT.out).mono ?_
  rintro e w5 ⟨rfl, hb⟩
  replace hc0 := cell_keep hb hc0; replace hc1 := cell_keep hb hc1; replace hW := bt hW hb; clear hb
  clear rs1 rs2 ot1
  go_wp2_with fail
  refine (toState_any _ _ l1 l2 _ (h1.keep hW) (h2.keep hW) hl1 hl2).mono ?_
  rintro e w6 ⟨x1, x2, rfl, ox1, ox2, _, hb⟩
  replace hc0 := cell_keep hb hc0; replace hc1 := cell_keep hb hc1; replace hW := bt hW hb; clear hb
  obtain ⟨xa1, xc1, rfl, _⟩ := own_form ox1
  obtain ⟨xa2, xc2, rfl, _⟩ := own_form ox2
  have rx1 := (own_ints ox1).1
  have rx2 := (own_ints ox2).1
  clear ox1 ox2
  have hzA : w.heap.size < w6.heap.size := World.block_lt_of_cell? w6 _ hc0
  go_wp2_with fail
  refine (toAssertionS_rl _ l _ (by exact h.keep (bt hW (by repeat (first | exact Below.refl _ _ | with_reducible assumption | exact below_alloc _ _ | (refine Below.setCell ?_ (by first | (simp; done) | (simp; omega) | omega) _) | apply bd | apply ba | apply be)))) hs0).mono ?_
  rintro e w7 ⟨y1, rfl, oy1, hb⟩
  have hx0 := cell_keep hb (p := ⟨w6.heap.size, 0, none⟩) (v := .slice xa1 l1.length xc1) (by simp)
  have hx1 := cell_keep hb (p := ⟨w6.heap.size, 1, none⟩) (v := .slice xa2 l2.length xc2) (by simp)
  replace hb : Below w6.heap.size w6 w7 := bt (by repeat (first | exact Below.refl _ _ | with_reducible assumption | exact below_alloc _ _ | (refine Below.setCell ?_ (by first | (simp; done) | (simp; omega) | omega) _) | apply bd | apply ba | apply be)) hb
  replace hc0 := cell_keep hb hc0; replace hc1 := cell_keep hb hc1; replace hW := bt hW hb; replace rx1 := rx1.keep hb; replace rx2 := rx2.keep hb; clear hb
  obtain ⟨ya1, yc1, rfl⟩ := oy1.form
  have hzB : w.heap.size < w7.heap.size := World.block_lt_of_cell? w7 _ hc0
  have hzC : w6.heap.size < w7.heap.size := World.block_lt_of_cell? w7 _ hx0
  go_wp2_with fail
  refine (cb (famHoldsI_any _ _ _ l1 l2 l _ rx1 rx2 oy1.read) HT.out).mono ?_
  rintro e w8 ⟨rfl, hb⟩
  have ry1 := oy1.read.keep hb
  replace hc0 := cell_keep hb hc0; replace hc1 := cell_keep hb hc1; replace hx0 := cell_keep hb hx0; replace hx1 := cell_keep hb hx1; replace hW := bt hW hb; replace rx1 := rx1.keep hb; replace rx2 := rx2.keep hb; clear hb
  clear oy1
  go_wp2
  go_region_held3 (fun w' => (w'.cell? ⟨w.heap.size, 0, none⟩ = some (.slice a1 l1.length c1) ∧ w'.cell? ⟨w.heap.size, 1, none⟩ = some (.slice a2 l2.length c2)) ∧ (w'.cell? ⟨w6.heap.size, 0, none⟩ = some (.slice xa1 l1.length xc1) ∧ w'.cell? ⟨w6.heap.size, 1, none⟩ = some (.slice xa2 l2.length xc2)))
    (exact ⟨⟨cell_keep (by repeat (first | exact Below.refl _ _ | with_reducible assumption | exact below_alloc _ _ | (refine Below.setCell ?_ (by first | (simp; done) | (simp; omega) | omega) _) | apply bd | apply ba | apply be)) hc0, cell_keep (by repeat (first | exact Below.refl _ _ | with_reducible assumption | exact below_alloc _ _ | (refine Below.setCell ?_ (by first | (simp; done) | (simp; omega) | omega) _) | apply bd | apply ba | apply be)) hc1⟩, ⟨cell_keep (by repeat (first | exact Below.refl _ _ | with_reducible assumption | exact below_alloc _ _ | (refine Below.setCell ?_ (by first | (simp; done) | (simp; omega) | omega) _) | apply bd | apply ba | apply be)) hx0, cell_keep (by repeat (first | exact Below.refl _ _ | with_reducible assumption | exact below_alloc _ _ | (refine Below.setCell ?_ (by first | (simp; done) | (simp; omega) | omega) _) | apply bd | apply ba | apply be)) hx1⟩⟩)
    (first
      | (go_at_call 20; go_must (refine (toState_any _ _ l1 l2 _ (h1.keep (bt hW (by repeat (first | exact Below.refl _ _ | with_reducible assumption | exact below_alloc _ _ | (refine Below.setCell ?_ (by first | (simp; done) | (simp; omega) | omega) _) | apply bd | apply ba | apply be)))) (h2.keep (bt hW (by repeat (first | exact Below.refl _ _ | with_reducible assumption | exact below_alloc _ _ | (refine Below.setCell ?_ (by first | (simp; done) | (simp; omega) | omega) _) | apply bd | apply ba | apply be)))) hl1 hl2).mono ?_; rintro e w9 ⟨p1, p2, rfl, op1, op2, _, hb9'⟩; have hb9 : Below w8.heap.size w8 w9 := bt (by repeat (first | exact Below.refl _ _ | with_reducible assumption | exact below_alloc _ _ | (refine Below.setCell ?_ (by first | (simp; done) | (simp; omega) | omega) _) | apply bd | apply ba | apply be)) hb9'))
      | (go_at_call 22; go_must (refine (eqState_any _ _ _ _ l1 l2 l1 l2 _ (rx1.keep (by repeat (first | exact Below.refl _ _ | with_reducible assumption | exact below_alloc _ _ | (refine Below.setCell ?_ (by first | (simp; done) | (simp; omega) | omega) _) | apply bd | apply ba | apply be))) (rx2.keep (by repeat (first | exact Below.refl _ _ | with_reducible assumption | exact below_alloc _ _ | (refine Below.setCell ?_ (by first | (simp; done) | (simp; omega) | omega) _) | apply bd | apply ba | apply be))) ((own_ints op1).1.keep (by first | exact Below.refl _ _ | exact below_drew _)) ((own_ints op2).1.keep (by first | exact Below.refl _ _ | exact below_drew _))).mono ?_; rintro e wa ⟨rfl, hbq'⟩; have hb : Below w8.heap.size w8 wa := bt (by repeat (first | exact Below.refl _ _ | with_reducible assumption | exact below_alloc _ _ | (refine Below.setCell ?_ (by first | (simp; done) | (simp; omega) | omega) _) | apply bd | apply ba | apply be)) hbq')))
  all_goals
    clear hb9 hb9' hbq' op1 op2
    replace ry1 := ry1.keep hb
    replace hW := bt hW hb; clear hb
    try rw [show (decide (l1 = l1) && decide (l2 = l2)) = true from by simp]
    clear hc0 hc1 hx0 hx1
    go_wp2_with fail
    refine (toAssertionS_rl _ l _ (h.keep hW) hs0).mono ?_
    rintro e wb ⟨y2, rfl, oy2, hb⟩
    replace ry1 := ry1.keep hb
    replace hW := bt hW hb; clear hb
    obtain ⟨ya2, yc2, rfl⟩ := oy2.form
    go_wp2_with fail
    refine (cb (b := true) (eqAssertionS_rl _ _ l l _ ry1 oy2.read) (by simp)).mono ?_
    rintro e wc ⟨rfl, hb⟩
    have hbb := bt hW hb
    go_wp2
    go_ret
    exact ⟨rfl, hbb⟩
end Go.Proofs.Ytnhhfbhhglhocaa
