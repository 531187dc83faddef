/- The walk of the law FnExactGarbageCells. -/
import Derived.Test.YtlmhcacgedidbaaL3
import Derived.Test.YtlmhcacgedidbaaW11
import Derived.Deep.RegionHeld3
namespace Go.Proofs.Ytlmhcacgedidbaa
open Go.RowKit

set_option maxHeartbeats 1600000 in
theorem fnExactGarbageCells_walk (v1 v2 : Value) (l1 l2 : List Int) (w : World) (h1 : RInts w v1 l1) (h2 : RInts w v2 l2) :
    Calls Try.prog 8 #[.agg #[v1, v2]] w fun e w' => e = .returned (.bool true) ∧ Below w.heap.size w w' := by
  obtain ⟨a1, c1, rfl⟩ := h1.form
  obtain ⟨a2, c2, rfl⟩ := h2.form
  have hm1 := h1.len
  have hm2 := h2.len
  have g1 := h1.alloc (.cells #[.slice a1 l1.length c1, .slice a2 l2.length c2] 24)
  have g2 := h2.alloc (.cells #[.slice a1 l1.length c1, .slice a2 l2.length c2] 24)
  by_cases hsz : (l1.length : Int) + l2.length ≤ 1048576
  · have hl1 : l1.length ≤ 1048576 := by omega
    have hl2 : l2.length ≤ 1048576 := by omega
    have hLL : (garbageL l1 l2).length ≤ 9 := by have := sel_len (garbageP l1 l2) 1 8; unfold garbageL; split <;> simp_all <;> omega
    go_enter Try.func8, Try.ntmps8
    go_wp2_with fail
    refine (szState_fit _ _ _ _ _ _ _ _ (by omega) hsz).mono ?_
    rintro e w1 ⟨rfl, hW⟩
    have hc0 := cell_keep hW (p := ⟨w.heap.size, 0, none⟩) (v := .slice a1 l1.length c1) (by simp)
    have hc1 := cell_keep hW (p := ⟨w.heap.size, 1, none⟩) (v := .slice a2 l2.length c2) (by simp)
    go_wp2_with fail
    refine (toState_any _ _ l1 l2 _ (g1.keep hW) (g2.keep hW) hl1 hl2).mono ?_
    rintro e w2 ⟨s1, s2, rfl, os1, os2, _, hb⟩
    replace hW := bt hW hb
    clear hb
    go_wp2_with fail
    refine (specGarbageCells_any _ _ l1 l2 _ (own_ints os1).1 (own_ints os2).1).mono ?_
    rintro e w3 ⟨rw0, rfl, ow0, hb⟩
    replace hW := bt hW hb
    have uw0 := own_ub ow0
    clear hb os1 os2 hc0 hc1
    have hc0 := cell_keep hW (p := ⟨w.heap.size, 0, none⟩) (v := .slice a1 l1.length c1) (by simp)
    have hc1 := cell_keep hW (p := ⟨w.heap.size, 1, none⟩) (v := .slice a2 l2.length c2) (by simp)
    go_wp2_with fail
    refine (toState_any _ _ l1 l2 _ (g1.keep hW) (g2.keep hW) hl1 hl2).mono ?_
    rintro e w4 ⟨x1, x2, rfl, ox1, ox2, osx, hb⟩
    obtain ⟨xa1, xc1, rfl, _⟩ := own_form ox1
    obtain ⟨xa2, xc2, rfl, _⟩ := own_form ox2
    have ux1 := own_ub ox1
    have ux2 := own_ub ox2
    have z34 := hb.size
    have zW3 := hW.size
    replace hW := bt hW hb
    replace ow0 := own_keep ow0 hb
    clear hb
    go_wp2_with fail
    refine (garbageCells_any _ _ l1 l2 _ (own_ints (ox1.alloc _)).1 (own_ints (ox2.alloc _)).1).mono ?_
    rintro e w5 ⟨rg0, rfl, og0, hb⟩
    have hx0 := cell_keep hb (p := ⟨w4.heap.size, 0, none⟩) (v := .slice xa1 l1.length xc1) (by simp)
    have hx1 := cell_keep hb (p := ⟨w4.heap.size, 1, none⟩) (v := .slice xa2 l2.length xc2) (by simp)
    replace og0 := own_mono (B' := w4.heap.size + 1) og0 (by simp)
    replace hb := bt (below_alloc w4 _) hb
    replace hW := bt hW hb
    replace ow0 := own_keep ow0 hb
    replace ox1 := own_keep ox1 hb
    replace ox2 := own_keep ox2 hb
    clear hb
    go_wp2_with fail
    refine (eqIntS_any _ _ _ _ _ (own_ints og0).1 (own_ints ow0).1).mono ?_
    rintro e w6 ⟨rfl, hb⟩
    replace hW := bt hW hb
    replace og0 := own_keep og0 hb
    replace ow0 := own_keep ow0 hb
    replace ox1 := own_keep ox1 hb
    replace ox2 := own_keep ox2 hb
    replace hx0 := cell_keep hb hx0
    replace hx1 := cell_keep hb hx1
    clear hb hc0 hc1
    have hc0 := cell_keep hW (p := ⟨w.heap.size, 0, none⟩) (v := .slice a1 l1.length c1) (by simp)
    have hc1 := cell_keep hW (p := ⟨w.heap.size, 1, none⟩) (v := .slice a2 l2.length c2) (by simp)
    go_wp2
    go_region_held3 (fun w' => (w'.cell? ⟨w.heap.size, 0, none⟩ = some (.slice a1 l1.length c1) ∧ w'.cell? ⟨w.heap.size, 1, none⟩ = some (.slice a2 l2.length c2)) ∧ (w'.cell? ⟨w4.heap.size, 0, none⟩ = some (.slice xa1 l1.length xc1) ∧ w'.cell? ⟨w4.heap.size, 1, none⟩ = some (.slice xa2 l2.length xc2)))
      (first
        | exact ⟨⟨hc0, hc1⟩, ⟨hx0, hx1⟩⟩
        | exact ⟨⟨cell_keep hb7 hc0, cell_keep hb7 hc1⟩, ⟨cell_keep hb7 hx0, cell_keep hb7 hx1⟩⟩
        | exact ⟨⟨cell_keep hb8 hc0, cell_keep hb8 hc1⟩, ⟨cell_keep hb8 hx0, cell_keep hb8 hx1⟩⟩
        | exact ⟨⟨by assumption, by assumption⟩, ⟨by assumption, by assumption⟩⟩)
      (first
        | (go_at_call 17; refine (toState_any _ _ l1 l2 _ (g1.keep (bt hW (below_drew _))) (g2.keep (bt hW (below_drew _))) hl1 hl2).mono ?_; rintro e w7 ⟨y1, y2, rfl, oy1, oy2, osy, hb7'⟩; have hb7 := bt (below_drew w6) hb7')
        | (go_at_call 20; refine (eqState_any _ _ _ _ l1 l2 l1 l2 _ ((own_ints ox1).1.keep hb7) ((own_ints ox2).1.keep hb7) (own_ints oy1).1 (own_ints oy2).1).mono ?_; rintro e w8 ⟨rfl, hb8'⟩; have hb8 := bt hb7 hb8'))
    replace hW := bt hW hb8
    replace og0 := own_keep og0 hb8
    replace ow0 := own_keep ow0 hb8
    replace ox1 := own_keep ox1 hb8
    replace ox2 := own_keep ox2 hb8
    clear hb7 hb7' hb8' oy1 oy2 osy hc0 hc1
    replace hx0 := cell_keep hb8 hx0
    replace hx1 := cell_keep hb8 hx1
    clear hb8
    go_wp2_with fail
    refine (markState_any w3.heap.size _ _ l1 l2 _ _ ox1 ox2 osx (by omega) (by omega) hl1 hl2).mono ?_
    rintro e w9 ⟨rfl, _, _, hf⟩
    replace hf : Fr (fun k => w3.heap.size ≤ k ∧ k < w4.heap.size) w8 w9 := hf.mono fun k _ h => by
      rcases h with h | h
      · exact ux1 k h
      · exact ux2 k h
    replace hW := hW.trans (hf.below hW.size fun k hk hS => by omega)
    replace og0 := own_kept og0 hf fun k hk hS => by have := (own_lt og0 hk).1; omega
    replace ow0 := own_kept ow0 hf fun k hk hS => by have := (uw0 k hk).2; omega
    clear hf ox1 ox2 hx0 hx1
    go_wp2_with fail
    refine (eqIntS_any _ _ _ _ _ (own_ints og0).1 (own_ints ow0).1).mono ?_
    rintro e w10 ⟨rfl, hb⟩
    replace hW := bt hW hb
    replace og0 := own_keep og0 hb
    replace ow0 := own_keep ow0 hb
    clear hb
    go_wp2_with fail
    refine (markIntS_any _ _ _ _ _ og0 (by omega) (by omega) (by omega)).mono ?_
    rintro e w11 ⟨rfl, om, hf⟩
    replace hf : Fr (fun k => w4.heap.size + 1 ≤ k) w10 w11 := hf.mono fun k _ h => (own_lt og0 h).1
    replace hW := hW.trans (hf.below hW.size fun k hk hS => by omega)
    replace ow0 := own_kept ow0 hf fun k hk hS => by have := (uw0 k hk).2; omega
    clear hf og0
    go_wp2_with fail
    refine (heldIntS_any _ _ _ _ (own_ints om).1 (by omega) (by omega) (by omega)).mono ?_
    rintro e w11' ⟨rfl, rfl⟩
    have hc0 := cell_keep hW (p := ⟨w.heap.size, 0, none⟩) (v := .slice a1 l1.length c1) (by simp)
    have hc1 := cell_keep hW (p := ⟨w.heap.size, 1, none⟩) (v := .slice a2 l2.length c2) (by simp)
    go_wp2_with fail
    refine (toState_any _ _ l1 l2 _ (g1.keep hW) (g2.keep hW) hl1 hl2).mono ?_
    rintro e w12 ⟨x1, x2, rfl, ox1, ox2, _, hb⟩
    replace hW := bt hW hb
    replace om := own_keep om hb
    replace ow0 := own_keep ow0 hb
    clear hb hc0 hc1
    go_wp2_with fail
    refine (garbageCells_any _ _ l1 l2 _ (own_ints ox1).1 (own_ints ox2).1).mono ?_
    rintro e w13 ⟨rh0, rfl, oh0, hb⟩
    replace hW := bt hW hb
    replace om := own_keep om hb
    replace ow0 := own_keep ow0 hb
    clear hb ox1 ox2
    go_wp2_with fail
    refine (eqIntS_any _ _ _ _ _ (own_ints oh0).1 (own_ints ow0).1).mono ?_
    rintro e w14 ⟨rfl, hb⟩
    replace hW := bt hW hb
    replace om := own_keep om hb
    clear hb ow0 oh0
    go_wp2_with fail
    refine (heldIntS_any _ _ _ _ (own_ints om).1 (by omega) (by omega) (by omega)).mono ?_
    rintro e w14' ⟨rfl, rfl⟩
    go_wp2
    go_ret
    exact ⟨rfl, bt (below_alloc _ _) hW⟩
  · go_enter Try.func8, Try.ntmps8
    go_wp2_with fail
    refine (szState_big _ _ _ _ _ _ _ _ (by omega) (by omega) (by omega) hm1 hm2).mono ?_
    rintro e w1 ⟨rfl, hW⟩
    go_wp2
    go_ret
    exact ⟨rfl, bt (below_alloc _ _) hW⟩
end Go.Proofs.Ytlmhcacgedidbaa
