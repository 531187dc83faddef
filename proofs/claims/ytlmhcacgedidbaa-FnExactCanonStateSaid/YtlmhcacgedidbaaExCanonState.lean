/- The walk of the law FnExactCanonState. -/
import Derived.Test.YtlmhcacgedidbaaL3
import Derived.Test.YtlmhcacgedidbaaCan3
import Derived.Deep.RegionHeld3
namespace Go.Proofs.Ytlmhcacgedidbaa
open Go.RowKit

set_option maxHeartbeats 3200000 in
theorem fnExactCanonState_walk (v1 v2 : Value) (l1 l2 : List Int) (w : World) (h1 : RInts w v1 l1) (h2 : RInts w v2 l2) :
    Calls Try.prog 14 #[.agg #[v1, v2]] w fun e w' => e = .returned (.bool true) ∧ Below w.heap.size w w' := by
  obtain ⟨a1, c1, rfl⟩ := h1.form
  obtain ⟨a2, c2, rfl⟩ := h2.form
  have hm1 := h1.len
  have hm2 := h2.len
  have g1 := h1.alloc (.cells #[.slice a1 l1.length c1, .slice a2 l2.length c2] 24)
  have g2 := h2.alloc (.cells #[.slice a1 l1.length c1, .slice a2 l2.length c2] 24)
  by_cases hsz : (l1.length : Int) + l2.length ≤ 1048576
  rotate_left
  · go_enter Try.func14, Try.ntmps14
    go_wp2_with fail
    refine (szState_big _ _ _ _ _ _ _ _ (by omega) (by omega) (by omega) hm1 hm2).mono ?_
    rintro e w1 ⟨rfl, hW⟩
    go_wp2
    go_ret
    exact ⟨rfl, bt (below_alloc _ _) hW⟩
  have hl1 : l1.length ≤ 1048576 := by omega
  have hl2 : l2.length ≤ 1048576 := by omega
  have hLen := can_len l1 l2
  obtain ⟨LV, hLV⟩ : ∃ LV, LV = canV l1 l2 := ⟨_, rfl⟩
  obtain ⟨LH, hLH⟩ : ∃ LH, LH = canH l1 l2 := ⟨_, rfl⟩
  obtain ⟨ok, hok⟩ : ∃ ok, ok = validB l1 l2 := ⟨_, rfl⟩
  rw [← hLV, ← hLH] at hLen
  have HL := Lib.hid (And.intro hLV (And.intro hLH hok))
  clear hLV hLH hok
  have hbne : (ok != ok) = false := by cases ok <;> rfl
  go_enter Try.func14, Try.ntmps14
  go_wp2_with fail
  refine (szState_fit _ _ _ _ _ _ _ _ (by omega) hsz).mono ?_
  rintro e w1 ⟨rfl, hW⟩
  have hc0 := cell_keep hW (p := ⟨w.heap.size, 0, none⟩) (v := .slice a1 l1.length c1) (by simp)
  have hc1 := cell_keep hW (p := ⟨w.heap.size, 1, none⟩) (v := .slice a2 l2.length c2) (by simp)
  have hz := hW.size
  simp at hz
  go_wp2_with fail
  refine (toState_any _ _ l1 l2 _ (g1.keep hW) (g2.keep hW) hl1 hl2).mono ?_
  rintro e w2 ⟨s1, s2, rfl, os1, os2, _, hb⟩
  have hz2 := hb.size; replace hc0 := cell_keep hb hc0; replace hc1 := cell_keep hb hc1; replace hW := bt hW hb; clear hb
  go_wp2_with fail
  refine (canonStateS_any _ _ l1 l2 _ (own_ints os1).1 (own_ints os2).1).mono ?_
  rintro e w4 ⟨b1, b2, rfl, ow, hb⟩
  rw [← HL.out.1, ← HL.out.2.1] at ow
  rw [← HL.out.2.2]
  replace hc0 := cell_keep hb hc0; replace hc1 := cell_keep hb hc1; replace hW := bt hW hb; clear hb
  clear os1 os2
  obtain ⟨wa1, wc1, rfl, _⟩ := own_form ow.one
  obtain ⟨wa2, wc2, rfl, _⟩ := own_form ow.two
  have uw1 := own_ub ow.one
  have uw2 := own_ub ow.two
  have hz4 := hW.size
  simp at hz4
  have hzA : w.heap.size < w4.heap.size := World.block_lt_of_cell? w4 _ hc0
  go_wp2_with fail
  refine (toState_any _ _ l1 l2 _ (by exact g1.keep (ba hW _)) (by exact g2.keep (ba hW _)) hl1 hl2).mono ?_
  rintro e w5 ⟨x1, x2, rfl, ox1, ox2, osx, hb⟩
  obtain ⟨xa1, xc1, rfl, _⟩ := own_form ox1
  obtain ⟨xa2, xc2, rfl, _⟩ := own_form ox2
  have hw0 := cell_keep hb (p := ⟨w4.heap.size, 0, none⟩) (v := .slice wa1 LV.length wc1) (by simp)
  have hw1 := cell_keep hb (p := ⟨w4.heap.size, 1, none⟩) (v := .slice wa2 LH.length wc2) (by simp)
  have ux1 := own_ub ox1
  have ux2 := own_ub ox2
  have hz5 := hb.size
  simp at ux1 ux2 hz5
  replace ox1 := own_mono (B' := w4.heap.size + 1) ox1 (by simp)
  replace ox2 := own_mono (B' := w4.heap.size + 1) ox2 (by simp)
  replace hb := bt (below_alloc w4 _) hb
  replace hc0 := cell_keep hb hc0; replace hc1 := cell_keep hb hc1; replace hW := bt hW hb; replace ow := ow.keep hb; clear hb
  have hzB : w.heap.size < w5.heap.size := World.block_lt_of_cell? w5 _ hc0
  have hzC : w4.heap.size < w5.heap.size := World.block_lt_of_cell? w5 _ hw0
  go_wp2_with fail
  refine (canonStateI_any _ _ l1 l2 _ (by exact (own_ints (own_allocI ox1)).1) (by exact (own_ints (own_allocI ox2)).1)).mono ?_
  rintro e w7 ⟨r1, r2, rfl, og, hb⟩
  rw [← HL.out.1, ← HL.out.2.1] at og
  rw [← HL.out.2.2]
  have hx0 := cell_keep hb (p := ⟨w5.heap.size, 0, none⟩) (v := .slice xa1 l1.length xc1) (by simp)
  have hx1 := cell_keep hb (p := ⟨w5.heap.size, 1, none⟩) (v := .slice xa2 l2.length xc2) (by simp)
  have hz7 := hb.size
  simp at hz7
  replace og := og.mono (B' := w5.heap.size + 1) (by simp)
  replace hb := bt (below_alloc w5 _) hb
  replace hc0 := cell_keep hb hc0; replace hc1 := cell_keep hb hc1; replace hw0 := cell_keep hb hw0; replace hw1 := cell_keep hb hw1; replace hW := bt hW hb; replace ox1 := own_keep ox1 hb; replace ox2 := own_keep ox2 hb; replace ow := ow.keep hb; clear hb
  obtain ⟨ga1, gc1, rfl, _⟩ := own_form og.one
  obtain ⟨ga2, gc2, rfl, _⟩ := own_form og.two
  have ug1 := own_ub og.one
  have ug2 := own_ub og.two
  have hzD : w.heap.size < w7.heap.size := World.block_lt_of_cell? w7 _ hc0
  have hzE : w4.heap.size < w7.heap.size := World.block_lt_of_cell? w7 _ hw0
  have hzF : w5.heap.size < w7.heap.size := World.block_lt_of_cell? w7 _ hx0
  go_wp2_with fail
  refine (eqState_any _ _ _ _ LV LH LV LH _ (by exact (own_ints (own_allocI og.one)).1) (by exact (own_ints (own_allocI og.two)).1) (by exact (own_ints (own_allocI ow.one)).1) (by exact (own_ints (own_allocI ow.two)).1)).mono ?_
  rintro e w8 ⟨rfl, hb⟩
  have hg0 := cell_keep hb (p := ⟨w7.heap.size, 0, none⟩) (v := .slice ga1 LV.length gc1) (by simp)
  have hg1 := cell_keep hb (p := ⟨w7.heap.size, 1, none⟩) (v := .slice ga2 LH.length gc2) (by simp)
  have hz8 := hb.size
  simp at hz8
  replace hb := bt (below_alloc w7 _) hb
  replace hc0 := cell_keep hb hc0; replace hc1 := cell_keep hb hc1; replace hw0 := cell_keep hb hw0; replace hw1 := cell_keep hb hw1; replace hx0 := cell_keep hb hx0; replace hx1 := cell_keep hb hx1; replace hW := bt hW hb; replace ox1 := own_keep ox1 hb; replace ox2 := own_keep ox2 hb; replace ow := ow.keep hb; replace og := og.keep hb; clear hb
  rw [show (decide (LV = LV) && decide (LH = LH)) = true from by simp]
  go_wp2
  go_region_held3 (fun w' => (w'.cell? ⟨w.heap.size, 0, none⟩ = some (.slice a1 l1.length c1) ∧ w'.cell? ⟨w.heap.size, 1, none⟩ = some (.slice a2 l2.length c2)) ∧ (w'.cell? ⟨w5.heap.size, 0, none⟩ = some (.slice xa1 l1.length xc1) ∧ w'.cell? ⟨w5.heap.size, 1, none⟩ = some (.slice xa2 l2.length xc2)))
    (exact ⟨⟨cell_keep (by repeat (first | exact Below.refl _ _ | with_reducible assumption | exact below_alloc _ _ | (refine Below.setCell ?_ (by first | (simp; done) | (simp; omega) | omega) _) | apply bd | apply ba | apply be)) hc0, cell_keep (by repeat (first | exact Below.refl _ _ | with_reducible assumption | exact below_alloc _ _ | (refine Below.setCell ?_ (by first | (simp; done) | (simp; omega) | omega) _) | apply bd | apply ba | apply be)) hc1⟩, ⟨cell_keep (by repeat (first | exact Below.refl _ _ | with_reducible assumption | exact below_alloc _ _ | (refine Below.setCell ?_ (by first | (simp; done) | (simp; omega) | omega) _) | apply bd | apply ba | apply be)) hx0, cell_keep (by repeat (first | exact Below.refl _ _ | with_reducible assumption | exact below_alloc _ _ | (refine Below.setCell ?_ (by first | (simp; done) | (simp; omega) | omega) _) | apply bd | apply ba | apply be)) hx1⟩⟩)
    (first
      | (go_at_call 17; go_must (refine (toState_any _ _ l1 l2 _ (g1.keep (bt hW (by repeat (first | exact Below.refl _ _ | with_reducible assumption | exact below_alloc _ _ | (refine Below.setCell ?_ (by first | (simp; done) | (simp; omega) | omega) _) | apply bd | apply ba | apply be)))) (g2.keep (bt hW (by repeat (first | exact Below.refl _ _ | with_reducible assumption | exact below_alloc _ _ | (refine Below.setCell ?_ (by first | (simp; done) | (simp; omega) | omega) _) | apply bd | apply ba | apply be)))) hl1 hl2).mono ?_; rintro e w9 ⟨y1, y2, rfl, oy1, oy2, osy, hb9'⟩; have hb9 : Below w8.heap.size w8 w9 := bt (by repeat (first | exact Below.refl _ _ | with_reducible assumption | exact below_alloc _ _ | (refine Below.setCell ?_ (by first | (simp; done) | (simp; omega) | omega) _) | apply bd | apply ba | apply be)) hb9'))
      | (go_at_call 20; go_must (refine (eqState_any _ _ _ _ l1 l2 l1 l2 _ ((own_ints ox1).1.keep (by repeat (first | exact Below.refl _ _ | with_reducible assumption | exact below_alloc _ _ | (refine Below.setCell ?_ (by first | (simp; done) | (simp; omega) | omega) _) | apply bd | apply ba | apply be))) ((own_ints ox2).1.keep (by repeat (first | exact Below.refl _ _ | with_reducible assumption | exact below_alloc _ _ | (refine Below.setCell ?_ (by first | (simp; done) | (simp; omega) | omega) _) | apply bd | apply ba | apply be))) ((own_ints oy1).1.keep (by first | exact Below.refl _ _ | exact below_drew _)) ((own_ints oy2).1.keep (by first | exact Below.refl _ _ | exact below_drew _))).mono ?_; rintro e wq ⟨rfl, hbq'⟩; have hbq : Below w8.heap.size w8 wq := bt (by repeat (first | exact Below.refl _ _ | with_reducible assumption | exact below_alloc _ _ | (refine Below.setCell ?_ (by first | (simp; done) | (simp; omega) | omega) _) | apply bd | apply ba | apply be)) hbq')))
  all_goals
    clear hb9 hb9' hbq' oy1 oy2 osy
    have hzq := hbq.size; replace hc0 := cell_keep hbq hc0; replace hc1 := cell_keep hbq hc1; replace hw0 := cell_keep hbq hw0; replace hw1 := cell_keep hbq hw1; replace hx0 := cell_keep hbq hx0; replace hx1 := cell_keep hbq hx1; replace hg0 := cell_keep hbq hg0; replace hg1 := cell_keep hbq hg1; replace hW := bt hW hbq; replace ox1 := own_keep ox1 hbq; replace ox2 := own_keep ox2 hbq; replace ow := ow.keep hbq; replace og := og.keep hbq; clear hbq
    go_wp2_with fail
    refine (markState_any (w4.heap.size + 1) _ _ l1 l2 _ _ ox1 ox2 osx (by omega) (by omega) hl1 hl2).mono ?_
    rintro e wv ⟨rfl, _, _, hf⟩
    replace hf : Fr (fun k => w4.heap.size + 1 ≤ k ∧ k < w5.heap.size) wq wv := hf.mono fun k _ h => by
      rcases h with h | h
      · exact ux1 k h
      · exact ux2 k h
    replace hc0 := hf.cell (fun hS => by first | (simp at hS; done) | (simp at hS; omega) | omega) hc0
    replace hc1 := hf.cell (fun hS => by first | (simp at hS; done) | (simp at hS; omega) | omega) hc1
    replace hw0 := hf.cell (fun hS => by first | (simp at hS; done) | (simp at hS; omega) | omega) hw0
    replace hw1 := hf.cell (fun hS => by first | (simp at hS; done) | (simp at hS; omega) | omega) hw1
    replace hg0 := hf.cell (fun hS => by first | (simp at hS; done) | (simp at hS; omega) | omega) hg0
    replace hg1 := hf.cell (fun hS => by first | (simp at hS; done) | (simp at hS; omega) | omega) hg1
    replace ow := ownSt_kept ow hf (fun k hk hS => by have := uw1 k hk; omega) (fun k hk hS => by have := uw2 k hk; omega)
    replace og := ownSt_kept og hf (fun k hk hS => by have := ug1 k hk; omega) (fun k hk hS => by have := ug2 k hk; omega)
    replace hW := hW.trans (hf.below hW.size fun k hk hS => by simp at hk; omega)
    clear hf ox1 ox2 hx0 hx1
    go_wp2_with fail
    refine (eqState_any _ _ _ _ LV LH LV LH _ (own_ints og.one).1 (own_ints og.two).1 (own_ints ow.one).1 (own_ints ow.two).1).mono ?_
    rintro e wy ⟨rfl, hb⟩
    have hzy := hb.size; replace hc0 := cell_keep hb hc0; replace hc1 := cell_keep hb hc1; replace hw0 := cell_keep hb hw0; replace hw1 := cell_keep hb hw1; replace hg0 := cell_keep hb hg0; replace hg1 := cell_keep hb hg1; replace hW := bt hW hb; replace ow := ow.keep hb; replace og := og.keep hb; clear hb
    rw [show (decide (LV = LV) && decide (LH = LH)) = true from by simp]
    go_wp2_with fail
    refine (markState_any (w5.heap.size + 1) _ _ LV LH _ _ og.one og.two og.apart (by omega) (by omega) (by omega) (by omega)).mono ?_
    rintro e wz ⟨rfl, om1, om2, hf⟩
    replace hf : Fr (fun k => (w5.heap.size + 1) ≤ k ∧ k < w7.heap.size) wy wz := hf.mono fun k _ h => by
      rcases h with h | h
      · exact ug1 k h
      · exact ug2 k h
    replace hc0 := hf.cell (fun hS => by first | (simp at hS; done) | (simp at hS; omega) | omega) hc0
    replace hc1 := hf.cell (fun hS => by first | (simp at hS; done) | (simp at hS; omega) | omega) hc1
    replace hw0 := hf.cell (fun hS => by first | (simp at hS; done) | (simp at hS; omega) | omega) hw0
    replace hw1 := hf.cell (fun hS => by first | (simp at hS; done) | (simp at hS; omega) | omega) hw1
    replace hg0 := hf.cell (fun hS => by first | (simp at hS; done) | (simp at hS; omega) | omega) hg0
    replace hg1 := hf.cell (fun hS => by first | (simp at hS; done) | (simp at hS; omega) | omega) hg1
    replace ow := ownSt_kept ow hf (fun k hk hS => by have := uw1 k hk; omega) (fun k hk hS => by have := uw2 k hk; omega)
    replace hW := hW.trans (hf.below hW.size fun k hk hS => by simp at hk; omega)
    clear hf og
    go_wp2_with fail
    refine (heldState_any _ _ LV.length LH.length _ _ (own_ints om1).1 (own_ints om2).1 (by omega) (by omega) (by omega) (by omega)).mono ?_
    rintro e wa ⟨rfl, hb⟩
    replace hc0 := cell_keep hb hc0; replace hc1 := cell_keep hb hc1; replace hw0 := cell_keep hb hw0; replace hw1 := cell_keep hb hw1; replace hg0 := cell_keep hb hg0; replace hg1 := cell_keep hb hg1; replace hW := bt hW hb; replace om1 := own_keep om1 hb; replace om2 := own_keep om2 hb; replace ow := ow.keep hb; clear hb
    go_wp2_with fail
    refine (toState_any _ _ l1 l2 _ (g1.keep hW) (g2.keep hW) hl1 hl2).mono ?_
    rintro e wb ⟨p1, p2, rfl, op1, op2, _, hb⟩
    replace hc0 := cell_keep hb hc0; replace hc1 := cell_keep hb hc1; replace hw0 := cell_keep hb hw0; replace hw1 := cell_keep hb hw1; replace hg0 := cell_keep hb hg0; replace hg1 := cell_keep hb hg1; replace hW := bt hW hb; replace om1 := own_keep om1 hb; replace om2 := own_keep om2 hb; replace ow := ow.keep hb; clear hb
    go_wp2_with fail
    refine (canonStateI_any _ _ l1 l2 _ (own_ints op1).1 (own_ints op2).1).mono ?_
    rintro e wd ⟨q1, q2, rfl, oh, hb⟩
    rw [← HL.out.1, ← HL.out.2.1] at oh
    rw [← HL.out.2.2]
    replace hc0 := cell_keep hb hc0; replace hc1 := cell_keep hb hc1; replace hw0 := cell_keep hb hw0; replace hw1 := cell_keep hb hw1; replace hg0 := cell_keep hb hg0; replace hg1 := cell_keep hb hg1; replace hW := bt hW hb; replace om1 := own_keep om1 hb; replace om2 := own_keep om2 hb; replace ow := ow.keep hb; clear hb
    clear op1 op2
    obtain ⟨ha1, hcc1, rfl, _⟩ := own_form oh.one
    obtain ⟨ha2, hcc2, rfl, _⟩ := own_form oh.two
    have hzd := hW.size
    simp at hzd
    have hzG : w.heap.size < wd.heap.size := World.block_lt_of_cell? wd _ hc0
    have hzw : w4.heap.size < wd.heap.size := World.block_lt_of_cell? wd _ hw0
    have hzg : w7.heap.size < wd.heap.size := World.block_lt_of_cell? wd _ hg0
    go_wp2_with fail
    refine (eqState_any _ _ _ _ LV LH LV LH _ (by exact (own_ints (own_allocI oh.one)).1) (by exact (own_ints (own_allocI oh.two)).1) (by exact (own_ints (own_allocI ow.one)).1) (by exact (own_ints (own_allocI ow.two)).1)).mono ?_
    rintro e we ⟨rfl, hb⟩
    replace hb := bt (below_alloc wd _) hb
    replace hc0 := cell_keep hb hc0; replace hc1 := cell_keep hb hc1; replace hw0 := cell_keep hb hw0; replace hw1 := cell_keep hb hw1; replace hg0 := cell_keep hb hg0; replace hg1 := cell_keep hb hg1; replace hW := bt hW hb; replace om1 := own_keep om1 hb; replace om2 := own_keep om2 hb; replace ow := ow.keep hb; clear hb
    clear oh
    rw [show (decide (LV = LV) && decide (LH = LH)) = true from by simp]
    go_wp2_with fail
    refine (heldState_any _ _ LV.length LH.length _ _ (own_ints om1).1 (own_ints om2).1 (by omega) (by omega) (by omega) (by omega)).mono ?_
    rintro e wg ⟨rfl, hb⟩
    go_wp2
    go_ret
    exact ⟨rfl, bt (below_alloc _ _) (bt hW hb)⟩
end Go.Proofs.Ytlmhcacgedidbaa
