/- Walks: GarbageCells and CycleCells of the reference. -/
import Derived.Test.YtlmhcacgedidbaaW10
import Derived.Deep.RegionHeld3
namespace Go.Proofs.Ytlmhcacgedidbaa
open Go.RowKit

theorem flags_form {w : World} {B m : Nat} {v : Value} (h : w.ownsRow B 4 1 v 9 (flagsOf m)) : ∃ g cap, v = .slice (some ⟨g, 0, none⟩) 9 cap := by
  rcases h.2 with ⟨_, h⟩ | ⟨g, cap, _, rfl, _⟩
  · omega
  · exact ⟨g, cap, rfl⟩

/-- A readable list that came in is not in a block of the call's own. -/
theorem RInts.apart {w : World} {v : Value} {l : List Int} (h : RInts w v l) (hl : 0 < l.length) : ∀ k, v.ownBlock = some k → k < w.heap.size := by
  obtain ⟨b, o, cap, rfl, _, _, hc⟩ := h.ne hl
  intro k hk
  simp [Value.ownBlock] at hk
  have := World.block_lt_of_cell? w _ (hc 0 hl)
  simp at this; omega

set_option maxHeartbeats 800000 in
theorem specGarbageCells_any (vs hv : Value) (vl hl : List Int) (w : World) (h1 : RInts w vs vl) (h2 : RInts w hv hl) :
    Calls Try.prog 33 #[.agg #[vs, hv]] w fun e w' => ∃ v, e = .returned v ∧ w'.ownsRow w.heap.size 3 1 v (garbageL vl hl).length (ints (garbageL vl hl)) ∧ Below w.heap.size w w' := by
  have hmk := make9
  have g1 := (h1.alloc (.cells #[vs, hv] 27)).alloc (.cells #[] 3)
  have g2 := (h2.alloc (.cells #[vs, hv] 27)).alloc (.cells #[] 3)
  by_cases hv1 : validB vl hl = true
  · have hlen := valid_len hv1
    have HLEN := Lib.hid hlen
    have hap := h2.apart (by omega)
    clear hlen
    have hfin : garbageL vl hl = sel (garbageP vl hl) 1 8 := by rw [garbageL, if_pos hv1]
    have HF := Lib.hid hfin
    clear hfin
    go_enter Try.func33, Try.ntmps33
    go_wp2_with fail
    refine (specStateValid_any _ _ vl hl _ g1 g2).mono ?_
    rintro e w1 ⟨rfl, hW⟩
    have hz1 : w.heap.size + 2 ≤ w1.heap.size := by have := hW.size; simp at this; omega
    have hz0 : w.heap.size < w1.heap.size := by omega
    have oE := own_keep (own_empty_at (w.alloc (.cells #[vs, hv] 27)) (w.heap.size + 1) 3 (w.heap.size + 1) (by simp) (Nat.le_refl _)) hW
    go_wp2
    go_loopg [5] 4 (fun q i wr => ∃ k : Nat, k + q = 4 ∧ i = .int .i64 (k + 1 : Nat) ∧ wr.ownsRow w1.heap.size 4 1 (.slice (some ⟨w1.heap.size, 0, none⟩) 9 9) 9 (flagsOf (markAll vl hl k)) ∧ Below w1.heap.size w1 wr)
    case atStart => exact ⟨0, by omega, rfl, own_flags w1 _ (Nat.le_refl _), below_alloc _ _⟩
    case round =>
      obtain ⟨k, hk, rfl, hown, hb⟩ := hrel
      have HK := Lib.hid hk
      clear hk
      have e1 : (((k + 1 : Nat) : Int)) = (k : Int) + 1 := by omega
      rw [e1]
      clear e1
      have hWr := bt hW hb
      have hc0 := cell_keep hWr (p := ⟨w.heap.size, 0, none⟩) (v := vs) (by simp [go_sem])
      have hc1 := cell_keep hWr (p := ⟨w.heap.size, 1, none⟩) (v := hv) (by simp [go_sem])
      have hzr := hb.size
      have hz : w.heap.size < wr.heap.size := by omega
      by_cases hk8 : k < 4
      · obtain ⟨b, o, cap, rfl, _, _, hcell⟩ := (g1.keep hWr).ne (by rw [HLEN.out.1]; omega)
        have hck := hcell k (by rw [HLEN.out.1]; omega)
        have hki : (k : Int) < (vl.length : Int) := by rw [HLEN.out.1]; omega
        have hk0 : (0 : Int) ≤ (k : Int) := by omega
        have hwr : IntKind.i64.wrap (k : Int) = (k : Int) := IntWalk.i64_in _ (by omega)
        have hsep : ∀ k', hv.ownBlock = some k' → ¬ some k' = (Value.slice (some ⟨w1.heap.size, 0, none⟩) 9 9).ownBlock := fun k' h1 h2 => by
          have := hap k' h1; simp [Value.ownBlock] at h2; omega
        have hn0 : ¬ w.heap.size = w1.heap.size := by omega
        have hnb : ¬ b = w1.heap.size := by
          have := h1.apart (by rw [HLEN.out.1]; omega) b rfl; omega
        clear hcell
        go_wp2
        go_region_held3 (fun w' => (w'.cell? ⟨w.heap.size, 0, none⟩ = some (.slice (some ⟨b, o, none⟩) vl.length cap) ∧ w'.cell? ⟨w.heap.size, 1, none⟩ = some hv) ∧ w'.cell? ⟨b, o + k, none⟩ = some (.int .i64 (gi vl k)))
          (first
            | exact ⟨⟨hc0, hc1⟩, hck⟩
            | exact ⟨⟨hf.cell hn0 hc0, hf.cell hn0 hc1⟩, hf.cell hnb hck⟩
            | exact ⟨⟨by assumption, by assumption⟩, by assumption⟩)
          (first
            | (go_at_call 57; refine (l15Mark_any _ _ _ hl (markAll vl hl k) w1.heap.size _ _ ((g2.keep hWr).keep (below_drew _)) HLEN.out.2 (mark_lt vl hl k) hown.drew hsep).mono ?_; rintro e w3 ⟨rfl, hown3, hf'⟩; have hf : Fr (fun k' => k' = w1.heap.size) wr w3 := ((Below.fr (below_drew wr)).mono (fun _ _ h => h.elim)).trans (hf'.mono fun k' _ h => by simpa [Value.ownBlock] using h)))
        go_wp2
        go_roundg (gk - 1)
        case rel =>
          refine ⟨k + 1, by have := HK.out; omega, by go_num, ?_, ?_⟩
          · have e : markAll vl hl (k + 1) = reachF hl (markAll vl hl k) (gi vl k) := by
              have : tv vl ((k : Int) + 1) = gi vl k := by unfold tv; rw [if_neg (by omega)]; congr 1; omega
              rw [markAll, this]
            rw [e]; exact hown3
          · exact hb.trans (hf.below (by omega) (by intro j hj e; omega))
        case measure => have := HK.out; omega
      · obtain rfl : k = 4 := by have := HK.out; omega
        clear hc0 hc1
        obtain ⟨wo, rfl⟩ : ∃ wo : World, wo = wr := ⟨_, rfl⟩
        go_wp2
        go_loopg [3, 6] 8 (fun q v i w2 => ∃ k : Nat, k + q = 8 ∧ i = .int .i64 (k + 1 : Nat) ∧ w2.ownsRow (w.heap.size + 1) 3 1 v (sel (garbageP vl hl) 1 k).length (ints (sel (garbageP vl hl) 1 k)) ∧
            w2.ownsRow w1.heap.size 4 1 (.slice (some ⟨w1.heap.size, 0, none⟩) 9 9) 9 (flagsOf (markAll vl hl 4)) ∧ (∀ j, some j = v.ownBlock → ¬ j = w1.heap.size) ∧ Below (w.heap.size + 1) wo w2)
        case atStart => exact ⟨0, by omega, rfl, own_kept oE (Below.chg hb) (by intro j hj e; simp [Value.ownBlock] at hj; omega), hown, by intro j hj; simp [Value.ownBlock] at hj; omega, Below.refl _ _⟩
        case round =>
          clear hown
          obtain ⟨k, hk, rfl, hout, hown, hne, hb2⟩ := hrel
          have HK := Lib.hid hk
          clear hk
          have e1 : (((k + 1 : Nat) : Int)) = (k : Int) + 1 := by omega
          rw [e1]
          clear e1
          have hzz := hb2.size
          have hW2 : Below (w.alloc (.cells #[vs, hv] 27)).heap.size (w.alloc (.cells #[vs, hv] 27)) wr := (bt (below_alloc _ _) hWr).trans (hb2.mono (by simp))
          have hc0 := cell_keep hW2 (p := ⟨w.heap.size, 0, none⟩) (v := vs) (by simp)
          have hc1 := cell_keep hW2 (p := ⟨w.heap.size, 1, none⟩) (v := hv) (by simp)
          have g2 := h2.alloc (.cells #[vs, hv] 27)
          by_cases hk8 : k < 8
          · have hsl := sel_len (garbageP vl hl) 1 k
            have e2 : (((1 + k : Nat) : Int)) = (k : Int) + 1 := by omega
            have hka : (k : Int) + 1 < 9 := by omega
            go_wp2_with fail
            refine (l2Has_any _ _ hl _ _ (g2.keep hW2) (by rw [HLEN.out.2]; omega)).mono ?_
            rintro e w3 ⟨rfl, hb3⟩
            have hout3 := own_keep hout hb3
            have hown3 := own_keep hown hb3
            have hb23 := hb2.trans (hb3.mono (by omega))
            have hz3 := hb23.size
            have hck : w3.cell? ⟨w1.heap.size, k + 1, none⟩ = some (.bool ((markAll vl hl 4).testBit (1 + k))) := by
              rw [hown3.cellAt (k + 1) (by omega), flags_at _ _ (by omega), Nat.add_comm]
            clear hout hown hc0 hc1
            by_cases ha : alB hl ((k : Int) + 1) = true
            · by_cases hm : (markAll vl hl 4).testBit (1 + k) = true
              · have hp : garbageP vl hl (1 + k) = false := by unfold garbageP; rw [e2, ha, hm]; rfl
                have hy := sel_no hp
                rw [hm] at hck
                have HY := Lib.hid hy
                clear hy e2 hp hm
                go_wp2
                go_roundg (gk - 1)
                case rel => exact ⟨k + 1, by have := HK.out; omega, by go_num, by rw [HY.out]; exact hout3, hown3, hne, hb23⟩
                case measure => have := HK.out; omega
              · have hm' : (markAll vl hl 4).testBit (1 + k) = false := by simpa using hm
                have hp : garbageP vl hl (1 + k) = true := by unfold garbageP; rw [e2, ha, hm']; rfl
                have hy := sel_yes hp
                rw [e2] at hy
                rw [hm'] at hck
                have HY := Lib.hid hy
                clear hy e2 hp hm hm'
                go_wp2_with (at_builtin; refine app_int2 _ rfl _ _ rfl (w.heap.size + 1) _ _ rfl (own_keep hout3 (below_alloc _ _)) ⟨w3.heap.size, 0, none⟩ _ rfl (cell_new1 _ _ _) (by omega) (by simp; omega) ?_; intro v' w4 hout4 hf4 hlie)
                go_roundg (gk - 1)
                case rel =>
                  refine ⟨k + 1, by have := HK.out; omega, by go_num, by rw [HY.out]; exact hout4, ?_, ?_, ?_⟩
                  · exact own_kept (own_keep hown3 (below_alloc _ _)) hf4 (fun j hj hS => hne j hS (by simpa [Value.ownBlock] using hj))
                  · intro j hj e
                    rcases hlie j hj with h | h
                    · exact hne j h e
                    · simp at h; omega
                  · exact below_own (own_keep hout3 (below_alloc _ _)) hf4 (hb23.trans ((below_alloc _ _).mono (by omega))) (by simp; omega)
                case measure => have := HK.out; omega
            · have ha' : alB hl ((k : Int) + 1) = false := by simpa using ha
              have hp : garbageP vl hl (1 + k) = false := by unfold garbageP; rw [e2, ha']; rfl
              have hy := sel_no hp
              have HY := Lib.hid hy
              clear hy e2 hp ha
              go_wp2
              go_roundg (gk - 1)
              case rel => exact ⟨k + 1, by have := HK.out; omega, by go_num, by rw [HY.out]; exact hout3, hown3, hne, hb23⟩
              case measure => have := HK.out; omega
          · obtain rfl : k = 8 := by have := HK.out; omega
            go_wp2
            go_ret
            exact ⟨_, rfl, by rw [HF.out]; exact own_mono hout (by omega), bt (below_alloc _ _) hW2⟩
  · have hv' : validB vl hl = false := by simpa using hv1
    have hfin : garbageL vl hl = [] := by rw [garbageL, if_neg (by simp [hv'])]
    have HF := Lib.hid hfin
    clear hfin hv1
    go_enter Try.func33, Try.ntmps33
    go_wp2_with fail
    refine (specStateValid_any _ _ vl hl _ g1 g2).mono ?_
    rintro e w1 ⟨rfl, hb1⟩
    go_wp2
    go_ret
    exact ⟨_, rfl, by rw [HF.out]; exact own_keep (own_empty_at (w.alloc _) w.heap.size _ (w.heap.size + 1) (by simp) (by omega)) hb1, bt (bt (below_alloc _ _) (below_alloc _ _)) hb1⟩
set_option maxHeartbeats 1600000 in
theorem specCycleCells_any (vs hv : Value) (vl hl : List Int) (w : World) (h1 : RInts w vs vl) (h2 : RInts w hv hl) :
    Calls Try.prog 30 #[.agg #[vs, hv]] w fun e w' => ∃ v, e = .returned v ∧ w'.ownsRow w.heap.size 3 1 v (cycleL vl hl).length (ints (cycleL vl hl)) ∧ Below w.heap.size w w' := by
  have hmk := make9
  have g1 := h1.alloc (.cells #[vs, hv] 27)
  have g2 := h2.alloc (.cells #[vs, hv] 27)
  by_cases hv1 : validB vl hl = true
  · have hlen := valid_len hv1
    have HLEN := Lib.hid hlen
    have hap := h2.apart (by omega)
    clear hlen
    have hfin : cycleL vl hl = sel (cycleP hl) 1 8 := by rw [cycleL, if_pos hv1]
    have HF := Lib.hid hfin
    clear hfin
    go_enter Try.func30, Try.ntmps30
    go_wp2
    go_loopg [3, 4] 8 (fun q v i wr => ∃ k : Nat, k + q = 8 ∧ i = .int .i64 (k + 1 : Nat) ∧ wr.ownsRow (w.heap.size + 1) 3 1 v (sel (cycleP hl) 1 k).length (ints (sel (cycleP hl) 1 k)) ∧ Below (w.heap.size + 1) (w.alloc (.cells #[vs, hv] 27)) wr)
    case atStart => exact ⟨0, by omega, rfl, own_empty_at (w.alloc (.cells #[vs, hv] 27)) (w.heap.size + 1) 3 (w.heap.size + 1) (by simp) (Nat.le_refl _), (Below.refl (w.heap.size + 1) (w.alloc (.cells #[vs, hv] 27))).alloc (by simp) _⟩
    case round =>
      obtain ⟨k, hk, rfl, hown, hb⟩ := hrel
      have HK := Lib.hid hk
      clear hk
      have e1 : (((k + 1 : Nat) : Int)) = (k : Int) + 1 := by omega
      rw [e1]
      clear e1
      have hWr := hb.mono (B' := (w.alloc (.cells #[vs, hv] 27)).heap.size) (by simp)
      have hc0 := cell_keep hWr (p := ⟨w.heap.size, 0, none⟩) (v := vs) (by simp)
      have hc1 := cell_keep hWr (p := ⟨w.heap.size, 1, none⟩) (v := hv) (by simp)
      by_cases hk8 : k < 8
      · have hsl := sel_len (cycleP hl) 1 k
        have e2 : (((1 + k : Nat) : Int)) = (k : Int) + 1 := by omega
        go_wp2_with fail
        refine (specStateValid_any _ _ vl hl _ (g1.keep hWr) (g2.keep hWr)).mono ?_
        rintro e w1 ⟨rfl, hb1⟩
        have hb01 := hb.trans (hb1.mono (by have := hb.size; simp at this; omega))
        have hown1 := own_keep hown hb1
        have hW1 := bt hWr hb1
        clear hown hc0 hc1 hb hb1 hWr
        have hc0 := cell_keep hW1 (p := ⟨w.heap.size, 0, none⟩) (v := vs) (by simp)
        have hc1 := cell_keep hW1 (p := ⟨w.heap.size, 1, none⟩) (v := hv) (by simp)
        go_wp2_with fail
        refine (l2Has_any _ _ hl _ _ (g2.keep hW1) (by rw [HLEN.out.2]; omega)).mono ?_
        rintro e w2 ⟨rfl, hb2⟩
        have hb02 := hb01.trans (hb2.mono (by have := hb01.size; simp at this; omega))
        have hown2 := own_keep hown1 hb2
        have hW2 := bt hW1 hb2
        clear hown1 hc0 hc1 hb2 hW1 hb01
        have hz2 : w.heap.size + 1 ≤ w2.heap.size := by have := hb02.size; simpa using this
        by_cases ha : alB hl ((k : Int) + 1) = true
        · have hc0 := cell_keep hW2 (p := ⟨w.heap.size, 0, none⟩) (v := vs) (by simp)
          have hc1 := cell_keep hW2 (p := ⟨w.heap.size, 1, none⟩) (v := hv) (by simp)
          have hz : w.heap.size < w2.heap.size := by omega
          obtain ⟨b, o, cap, rfl, _, _, hcell⟩ := (g2.keep hW2).ne (by rw [HLEN.out.2]; omega)
          have hck := hcell k (by rw [HLEN.out.2]; omega)
          have hki : (k : Int) < (hl.length : Int) := by rw [HLEN.out.2]; omega
          have hk0 : (0 : Int) ≤ (k : Int) := by omega
          have hwr : IntKind.i64.wrap (k : Int) = (k : Int) := IntWalk.i64_in _ (by omega)
          have hbB : b < w.heap.size := hap b rfl
          have hb2 : b < w2.heap.size := by omega
          have hsep : ∀ k', (Value.slice (some ⟨b, o, none⟩) hl.length cap).ownBlock = some k' → ¬ some k' = (Value.slice (some ⟨w2.heap.size, 0, none⟩) 9 9).ownBlock := fun k' h1 h2 => by
            have := hap k' h1; simp [Value.ownBlock] at h2; omega
          have hn0 : ¬ w.heap.size = w2.heap.size := by omega
          have hnb : ¬ b = w2.heap.size := by omega
          have hcm0 := cell_keep (below_alloc w2 (.cells #[.bool false, .bool false, .bool false, .bool false, .bool false, .bool false, .bool false, .bool false, .bool false] 4)) hc0
          have hcm1 := cell_keep (below_alloc w2 (.cells #[.bool false, .bool false, .bool false, .bool false, .bool false, .bool false, .bool false, .bool false, .bool false] 4)) hc1
          have hcmk := cell_keep (below_alloc w2 (.cells #[.bool false, .bool false, .bool false, .bool false, .bool false, .bool false, .bool false, .bool false, .bool false] 4)) hck
          have hgW := (g2.keep hW2).alloc (.cells #[.bool false, .bool false, .bool false, .bool false, .bool false, .bool false, .bool false, .bool false, .bool false] 4)
          have hofl := own_flags w2 w2.heap.size (Nat.le_refl _)
          have hown2a := own_keep hown2 (below_alloc w2 (.cells #[.bool false, .bool false, .bool false, .bool false, .bool false, .bool false, .bool false, .bool false, .bool false] 4))
          have hbal := below_alloc w2 (.cells #[.bool false, .bool false, .bool false, .bool false, .bool false, .bool false, .bool false, .bool false, .bool false] 4)
          have hub := own_ub hown2
          clear hcell
          go_wp2
          generalize hWM : w2.alloc (.cells #[.bool false, .bool false, .bool false, .bool false, .bool false, .bool false, .bool false, .bool false, .bool false] 4) = wm at *
          clear hWM
          go_region_held3 (fun w' => (w'.cell? ⟨w.heap.size, 0, none⟩ = some vs ∧ w'.cell? ⟨w.heap.size, 1, none⟩ = some (.slice (some ⟨b, o, none⟩) hl.length cap)) ∧ w'.cell? ⟨b, o + k, none⟩ = some (.int .i64 (gi hl k)))
            (first
              | exact ⟨⟨hcm0, hcm1⟩, hcmk⟩
              | exact ⟨⟨hf.cell hn0 hcm0, hf.cell hn0 hcm1⟩, hf.cell hnb hcmk⟩
              | exact ⟨⟨by assumption, by assumption⟩, by assumption⟩)
            (first
              | (go_at_call 57; refine (l15Mark_any _ _ _ hl 0 w2.heap.size _ _ (hgW.keep (below_drew _)) HLEN.out.2 (by omega) hofl.drew hsep).mono ?_; rintro e w3 ⟨rfl, hfl3, hf'⟩; have hf : Fr (fun k' => k' = w2.heap.size) wm w3 := ((Below.fr (below_drew wm)).mono (fun _ _ h => h.elim)).trans (hf'.mono fun k' _ h => by simpa [Value.ownBlock] using h)))
          have hzm := hbal.size
          have hb03 : Below (w.heap.size + 1) (w.alloc (.cells #[vs, .slice (some ⟨b, o, none⟩) hl.length cap] 27)) w3 := (hb02.trans (hbal.mono (by omega))).trans (hf.below (by omega) (by intro j hj e; omega))
          have hown3 := own_kept hown2a hf (fun j hj e => by have := (hub j hj).2; omega)
          have hz3 := hf.size
          have hct : ct hl ((k : Int) + 1) = gi hl k := by
            unfold ct; rw [if_pos (isAddrB_iff.2 (by omega))]; congr 1; omega
          have hck3 : w3.cell? ⟨w2.heap.size, k + 1, none⟩ = some (.bool ((reachF hl 0 (gi hl k)).testBit (1 + k))) := by
            rw [hfl3.cellAt (k + 1) (by omega), flags_at _ _ (by omega), Nat.add_comm]
          have hcp : cycI hl ((k : Int) + 1) = (reachF hl 0 (gi hl k)).testBit (1 + k) := by
            unfold cycI; rw [hct, hasB_al ha]; congr 1; omega
          have hpp : cycleP hl (1 + k) = (reachF hl 0 (gi hl k)).testBit (1 + k) := by
            unfold cycleP; rw [e2, ha, hcp]; rfl
          have hka : (k : Int) + 1 < 9 := by omega
          have HPP := Lib.hid hpp
          clear hfl3 hf hf' hct hcp hpp hcm0 hcm1 hcmk hc0 hc1 hck hofl hown2 hown2a hgW hmk
          by_cases hm : (reachF hl 0 (gi hl k)).testBit (1 + k) = true
          · have hy := sel_yes (p := cycleP hl) (a := 1) (k := k) (by rw [HPP.out]; exact hm)
            rw [e2] at hy
            rw [hm] at hck3
            have HY := Lib.hid hy
            clear hy e2 hm
            go_wp2_with (at_builtin; refine app_int _ rfl _ _ rfl (w.heap.size + 1) _ _ rfl (own_keep hown3 (below_alloc _ _)) ⟨w3.heap.size, 0, none⟩ _ rfl (cell_new1 _ _ _) (by omega) (by simp; omega) ?_; intro v' w4 hout4 hf4)
            go_roundg (gk - 1)
            case rel => exact ⟨k + 1, by have := HK.out; omega, by go_num, by rw [HY.out]; exact hout4, below_own (own_keep hown3 (below_alloc _ _)) hf4 (hb03.trans ((below_alloc _ _).mono (by omega))) (by simp; omega)⟩
            case measure => have := HK.out; omega
          · have hm' : (reachF hl 0 (gi hl k)).testBit (1 + k) = false := by simpa using hm
            have hy := sel_no (p := cycleP hl) (a := 1) (k := k) (by rw [HPP.out]; exact hm')
            rw [hm'] at hck3
            have HY := Lib.hid hy
            clear hy e2 hm hm'
            go_wp2
            go_roundg (gk - 1)
            case rel => exact ⟨k + 1, by have := HK.out; omega, by go_num, by rw [HY.out]; exact hown3, hb03⟩
            case measure => have := HK.out; omega
        · have ha' : alB hl ((k : Int) + 1) = false := by simpa using ha
          have hp : cycleP hl (1 + k) = false := by unfold cycleP; rw [e2, ha']; rfl
          have hy := sel_no hp
          have HY := Lib.hid hy
          clear hy e2 hp ha
          go_wp2
          go_roundg (gk - 1)
          case rel => exact ⟨k + 1, by have := HK.out; omega, by go_num, by rw [HY.out]; exact hown2, hb02⟩
          case measure => have := HK.out; omega
      · obtain rfl : k = 8 := by have := HK.out; omega
        go_wp2
        go_ret
        exact ⟨_, rfl, by rw [HF.out]; exact own_mono hown (by omega), bt (below_alloc _ _) hWr⟩
  · have hv' : validB vl hl = false := by simpa using hv1
    have hfin : cycleL vl hl = [] := by rw [cycleL, if_neg (by simp [hv'])]
    have HF := Lib.hid hfin
    clear hfin hv1
    go_enter Try.func30, Try.ntmps30
    go_wp2
    go_loopg [3, 4] 1 (fun q v i wr => q = 1 ∧ i = .int .i64 1 ∧ v = .slice (some ⟨w.heap.size + 1, 0, none⟩) 0 0 ∧ wr = (w.alloc (.cells #[vs, hv] 27)).alloc (.cells #[] 3))
    case atStart => exact ⟨rfl, rfl, rfl, rfl⟩
    case round =>
      obtain ⟨_, rfl, rfl, rfl⟩ := hrel
      go_wp2_with fail
      refine (specStateValid_any _ _ vl hl _ (g1.alloc _) (g2.alloc _)).mono ?_
      rintro e w1 ⟨rfl, hb1⟩
      go_wp2
      go_ret
      exact ⟨_, rfl, by rw [HF.out]; exact own_keep (own_empty_at (w.alloc _) w.heap.size _ (w.heap.size + 1) (by simp) (by omega)) hb1, bt (bt (below_alloc _ _) (below_alloc _ _)) hb1⟩
end Go.Proofs.Ytlmhcacgedidbaa
