/- Walks: drawing states with lists. -/
import Derived.Test.YtnhhfbhhglhocaaDr2
namespace Go.Proofs.Ytnhhfbhhglhocaa
open Go.RowKit

section
variable {w0 w w' : World} {g q q' B bA bB : Nat} {v1 v2 : Value} {l1 l2 : List Int}
theorem DrSt.start {w1 : World} {hB : Nat} (hst : OwnSt w1 (w.heap.size + 1) v1 v2 l1 l2) (hr : Rdr w g q) (hb : Below (w.alloc (.cells #[.slice none 0 0, .slice none 0 0] 34)).heap.size (w.alloc (.cells #[.slice none 0 0, .slice none 0 0] 34)) w1) (hB1 : w1.heap.size = hB) :
    DrSt w (w1.alloc (.cells #[v1, v2] 34)) g q (w.heap.size + 1) w.heap.size hB v1 v2 l1 l2 := by
  subst hB1
  exact ⟨hst.keep (below_alloc _ _), ((hr.keep (below_alloc w _)).keep hb).keep (below_alloc _ _), box_keep (box_keep (heap_alloc_new w _) hb) (below_alloc _ _), heap_alloc_new w1 _,
    ((Below.fr (bt (below_alloc w _) hb)).mono fun _ _ h => h.elim).thenB (below_alloc _ _)⟩
theorem DrSt.finish (h : DrSt w0 w g q B w0.heap.size bB v1 v2 l1 l2) (hB : w0.heap.size < B) (hg : g < w0.heap.size) :
    OwnSt ((w.setCell ⟨w0.heap.size, 0, none⟩ v1).setCell ⟨w0.heap.size, 1, none⟩ v2) w0.heap.size v1 v2 l1 l2 ∧ Rdr ((w.setCell ⟨w0.heap.size, 0, none⟩ v1).setCell ⟨w0.heap.size, 1, none⟩ v2) g q ∧ Fr (fun j => j = g) w0 ((w.setCell ⟨w0.heap.size, 0, none⟩ v1).setCell ⟨w0.heap.size, 1, none⟩ v2) := by
  refine ⟨?_, ?_, ?_⟩
  · exact ((h.own.kept (fr_set _ _ _) (fun k h1 _ e => by simp at e; omega)).kept (fr_set _ _ _) (fun k h1 _ e => by simp at e; omega)).mono (by omega)
  · exact (h.rdr.kept (fr_set _ _ _) (fun k h1 e => by simp at e; omega)).kept (fr_set _ _ _) (fun k h1 e => by simp at e; omega)
  · exact (h.fr.then (fr_set _ _ _) (fun i hi e => by simp at e; omega)).then (fr_set _ _ _) (fun i hi e => by simp at e; omega)
end

set_option maxHeartbeats 3200000 in
theorem l9Lists_any (g q : Nat) (w : World) (hr : Rdr w g q) (hq : q ≤ 1000000) :
    Calls Try.prog 136 #[.pointer (some ⟨g, 0, none⟩)] w fun e w' => ∃ v1 v2 l1 l2, e = .returned (.agg #[v1, v2]) ∧ l1.length = 8 ∧ l2.length = 8 ∧ OwnSt w' w.heap.size v1 v2 l1 l2 ∧ Rdr w' g (q + 40) ∧ Fr (fun j => j = g) w w' := by
  have hgl := hr.lt
  go_enter Try.func136, Try.ntmps136
  go_wp2_with fail
  refine (l2Blank_any _).mono ?_
  rintro e w1 ⟨v1, v2, rfl, hst, hb⟩
  obtain ⟨g1, c1, rfl, hg1, hgu1⟩ := own_at hst.one (by rw [reps_len]; omega)
  obtain ⟨g2, c2, rfl, hg2, hgu2⟩ := own_at hst.two (by rw [reps_len]; omega)
  have hz1 : w.heap.size < w1.heap.size := by have := hb.size; simp at this; omega
  simp at hg1 hg2
  rw [World.size_alloc] at hst
  have D0 := DrSt.start hst hr hb rfl
  have e8 : (reps 0 8).length = 8 := reps_len 0 8
  have e8' : (reps (-1) 8).length = 8 := reps_len (-1) 8
  clear hst hb hr
  rw [e8, e8'] at D0
  rw [e8, e8']
  have E8 := Lib.hid e8
  have E8' := Lib.hid e8'
  clear e8 e8'
  go_wp2
  go_loopg [4, 5] 2 (fun k nx i wr => ∃ (j n : Nat) (l1 l2 : List Int), j + k = 2 ∧ i = .int .i64 (j + 1 : Nat) ∧ nx = .int .i64 n ∧ 1 ≤ n ∧ n ≤ 1 + 3 * j ∧ l1.length = 8 ∧ l2.length = 8 ∧
    DrSt w wr g (q + j) (w.heap.size + 1) w.heap.size w1.heap.size (.slice (some ⟨g1, 0, none⟩) 8 c1) (.slice (some ⟨g2, 0, none⟩) 8 c2) l1 l2)
  case atStart => exact ⟨0, 1, _, _, by omega, rfl, rfl, by omega, by omega, E8.out, E8'.out, D0⟩
  case round =>
    clear D0
    obtain ⟨j, n, l1, l2, hk, rfl, rfl, hn1, hn2, hl1, hl2, D⟩ := hrel
    have HK := Lib.hid hk
    have HL1 := Lib.hid hl1
    have HL2 := Lib.hid hl2
    have e1 : (((j + 1 : Nat) : Int)) = (j : Int) + 1 := by omega
    rw [e1]
    have hzz := box_lt D.boxB
    clear hk hl1 hl2 e1
    by_cases hj2 : j < 2
    · go_wp2_with fail
      refine (num_any g (q + j) _ [2, 1, 0, 3] _ (D.rdr.keep (below_alloc _ _)) (lit_ints _ [2, 1, 0, 3] (by decide)) (by omega) (by decide) (by decide) (fun k hk e => by simp [Value.ownBlock] at hk; omega)).mono ?_
      rintro e w2 ⟨x, hx, rfl, hr2, hf2⟩
      obtain ⟨m, rfl, hm3⟩ : ∃ m : Nat, x = (m : Int) ∧ m ≤ 3 := ⟨x.toNat, by simp at hx; omega, by simp at hx; omega⟩
      have D2 := (D.keep (below_alloc wr _)).drawn hr2 hf2 (by omega) (by omega) (by omega)
      clear hr2 hf2 D hx
      have hc0 := box0 D2.boxB
      have hc1 := box1 D2.boxB
      have hji : (j : Int) < 8 := by omega
      have hown1 : w2.ownsRow (w.heap.size + 1) 3 1 (.slice (some ⟨g1, 0, none⟩) l1.length c1) l1.length (ints l1) := by have := D2.own.one; rw [HL1.out]; rw [HL1.out] at this; exact this
      obtain ⟨hck, hfz⟩ := own_cell hown1 j (by rw [HL1.out]; omega)
      have HD := Lib.hid D2
      clear D2 hown1
      obtain ⟨ko, rfl⟩ : ∃ ko : Nat, ko = gk := ⟨_, rfl⟩
      by_cases hm0 : 0 < m
      · have D3 := (show DrSt w w2 g (q + j + 1) (w.heap.size + 1) w.heap.size w1.heap.size (.slice (some ⟨g1, 0, none⟩) l1.length c1) (.slice (some ⟨g2, 0, none⟩) 8 c2) l1 l2 from by rw [HL1.out]; exact HD.out).set1 j (n : Int) (by omega) (by omega) (by omega) (by omega)
        rw [HL1.out] at D3
        have hl1' : (l1.set j (n : Int)).length = 8 := by rw [List.length_set]; exact HL1.out
        generalize l1.set j (n : Int) = l1' at D3 hl1'
        have HD3 := Lib.hid D3
        have HL3 := Lib.hid hl1'
        clear D3 hl1' HD
        go_wp2
        obtain ⟨wx, hwx⟩ : ∃ wx, wx = w2.setCell ⟨g1, j, none⟩ (.int .i64 (n : Int)) := ⟨_, rfl⟩
        rw [← hwx] at HD3 ⊢
        clear hwx hc0 hc1 hck hfz
        go_loopg [4, 7] m (fun k nx i wr => ∃ (i' : Nat) (l2 : List Int), i' + k = m ∧ i = .int .i64 (i' + 1 : Nat) ∧ nx = .int .i64 (n + i' : Nat) ∧ l2.length = 8 ∧
          DrSt w wr g (q + j + 1) (w.heap.size + 1) w.heap.size w1.heap.size (.slice (some ⟨g1, 0, none⟩) 8 c1) (.slice (some ⟨g2, 0, none⟩) 8 c2) l1' l2)
        case atStart => exact ⟨0, _, by omega, rfl, by simp, HL2.out, HD3.out⟩
        case round =>
          clear HD3 HL2
          obtain ⟨i', l2, hik, rfl, rfl, hl2, D⟩ := hrel
          have HL2 := Lib.hid hl2
          have HIK := Lib.hid hik
          clear hik hl2
          have e1 : (((i' + 1 : Nat) : Int)) = (i' : Int) + 1 := by omega
          have e2 : (((n + i' : Nat) : Int)) = (n : Int) + i' := by omega
          rw [e1, e2]
          clear e1 e2
          have HD := Lib.hid D
          clear D
          by_cases him : i' < m
          · have hc0 := box0 HD.out.boxB
            have hc1 := box1 HD.out.boxB
            have D1 := (show DrSt w wr g (q + j + 1) (w.heap.size + 1) w.heap.size w1.heap.size (.slice (some ⟨g1, 0, none⟩) 8 c1) (.slice (some ⟨g2, 0, none⟩) l2.length c2) l1' l2 from by rw [HL2.out]; exact HD.out)
            obtain ⟨hck, hfz⟩ := own_cell D1.own.two (n + i' - 1) (by rw [HL2.out]; omega)
            have D4 := D1.set2 (n + i' - 1) 0 (by omega) (by omega) (by omega) (by omega)
            rw [show (.slice (some ⟨g2, 0, none⟩) l2.length c2 : Value) = .slice (some ⟨g2, 0, none⟩) (l2.set (n + i' - 1) 0).length c2 from by rw [List.length_set]] at D4
            have D5 := D4.set2 (n + i' - 1) ((n : Int) + i' + 1) (by omega) (by omega) (by omega) (by omega)
            have HD4 := Lib.hid D4
            have HD5 := Lib.hid D5
            have hni : (n : Int) + i' - 1 < 8 := by omega
            have hni0 : (0 : Int) ≤ (n : Int) + i' - 1 := by omega
            have hnat : ((n : Int) + i' - 1).toNat = n + i' - 1 := by omega
            have n1 : ¬ w1.heap.size = g2 := by omega
            clear D1 D4 D5 HD
            by_cases hlast : i' + 1 < m
            · go_wp2
              go_roundg (gk - 1)
              case rel => exact ⟨i' + 1, (l2.set (n + i' - 1) 0).set (n + i' - 1) ((n : Int) + i' + 1), by have := HIK.out; omega, by go_num, by rw [show (((n + (i' + 1) : Nat)) : Int) = (n : Int) + i' + 1 by omega], by rw [List.length_set, List.length_set]; exact HL2.out, by have := HD5.out; rw [List.length_set, HL2.out] at this; exact this⟩
              case measure => have := HIK.out; omega
            · go_wp2
              go_roundg (gk - 1)
              case rel => exact ⟨i' + 1, l2.set (n + i' - 1) 0, by have := HIK.out; omega, by go_num, by rw [show (((n + (i' + 1) : Nat)) : Int) = (n : Int) + i' + 1 by omega], by rw [List.length_set]; exact HL2.out, by have := HD4.out; rw [List.length_set, HL2.out] at this; exact this⟩
              case measure => have := HIK.out; omega
          · obtain rfl : i' = m := by have := HIK.out; omega
            go_wp2
            go_roundg (ko - 1)
            case rel => exact ⟨j + 1, n + i', l1', l2, by have := HK.out; omega, by go_num, by rw [show (((n + i' : Nat)) : Int) = (n : Int) + i' by omega], by omega, by omega, HL3.out, HL2.out, HD.out⟩
            case measure => have := HK.out; omega
      · obtain rfl : m = 0 := by omega
        clear hc0 hc1 hck hfz
        go_wp2
        go_loopg [4, 7] 0 (fun k nx i wr => i = .int .i64 1 ∧ nx = .int .i64 n ∧ wr = w2)
        case atStart => exact ⟨rfl, rfl, rfl⟩
        case round =>
          obtain ⟨rfl, rfl, rfl⟩ := hrel
          go_wp2
          go_roundg (ko - 1)
          case rel => exact ⟨j + 1, n, l1, l2, by have := HK.out; omega, by go_num, rfl, by omega, by omega, HL1.out, HL2.out, HD.out⟩
          case measure => have := HK.out; omega
    · obtain rfl : j = 2 := by have := HK.out; omega
      clear HK
      go_wp2
      obtain ⟨wo, rfl⟩ : ∃ wo : World, wo = wr := ⟨_, rfl⟩
      go_loopg [8] 6 (fun k i wr => ∃ (j : Nat) (l1 : List Int), j + k = 6 ∧ i = .int .i64 (j + 3 : Nat) ∧ l1.length = 8 ∧
        DrSt w wr g (q + 2 + j) (w.heap.size + 1) w.heap.size w1.heap.size (.slice (some ⟨g1, 0, none⟩) 8 c1) (.slice (some ⟨g2, 0, none⟩) 8 c2) l1 l2)
      case atStart => exact ⟨0, l1, by omega, rfl, HL1.out, D⟩
      case round =>
        clear D HL1
        obtain ⟨j, l1, hk, rfl, hl1, D⟩ := hrel
        have HK := Lib.hid hk
        have HL1 := Lib.hid hl1
        have e1 : (((j + 3 : Nat) : Int)) = (j : Int) + 3 := by omega
        rw [e1]
        have hzz := box_lt D.boxB
        clear hk hl1 e1
        by_cases hj6 : j < 6
        · have hc0 := box0 D.boxB
          have hlit := lit_ints wr [0, 1, 2, 0, 3] (by decide)
          have HLIT := Lib.hid hlit
          have D0 := Lib.hid (show DrSt w wr g (q + 2 + j) (w.heap.size + 1) w.heap.size w1.heap.size (.slice (some ⟨g1, 0, none⟩) l1.length c1) (.slice (some ⟨g2, 0, none⟩) 8 c2) l1 l2 from by rw [HL1.out]; exact D)
          have hj0 : (0 : Int) ≤ (j : Int) + 2 := by omega
          have hj8 : (j : Int) + 2 < 8 := by omega
          have hwr1 : IntKind.i64.wrap ((j : Int) + 2) = (j : Int) + 2 := IntWalk.i64_in _ (by omega)
          have hwr2 : IntKind.i64.wrap ((j : Int) + 3 - 1) = (j : Int) + 2 := by rw [IntWalk.i64_in _ (by omega)]; omega
          have hnat : ((j : Int) + 2).toNat = j + 2 := by omega
          clear hlit D
          go_wp2
          go_region_held3 (fun w' => w'.cell? ⟨w1.heap.size, 0, none⟩ = some (.slice (some ⟨g1, 0, none⟩) 8 c1))
            (first
              | exact hc0
              | exact cell_keep (bt (below_alloc wr _) (below_drew _)) hc0
              | (have hh := box0 D6.boxB; rw [HL1.out] at hh; rw [World.cell?_of_block (w := w6) (Below.heap_setCell _ _ _ _ (by simp; omega))]; exact hh)
              | (have hh := box0 D6.boxB; rw [HL1.out] at hh; exact hh))
            (first
              | (go_at_call 86; refine (num_any g (q + 2 + j) _ [0, 1, 2, 0, 3] _ ((D0.out.keep (bt (below_alloc wr _) (below_drew _))).rdr) (HLIT.out.keep (below_drew _)) (by omega) (by decide) (by decide) (fun k hk e => by simp [Value.ownBlock] at hk; have := D0.out.rdr.lt; omega)).mono ?_; rintro e w6 ⟨x, _, rfl, hr6, hf6⟩; have D6 := (D0.out.keep (bt (below_alloc wr _) (below_drew _))).drawn hr6 hf6 (by omega) (by omega) (by omega); obtain ⟨hck6, hfz6⟩ := own_cell D6.own.one (j + 2) (by rw [HL1.out]; omega)))
          have HD7 := Lib.hid (D6.set1 (j + 2) x (by omega) (by omega) (by omega) (by omega))
          clear D6 D0 hf6 hck6 hfz6 hr6 HLIT hc0
          go_wp2
          go_roundg (gk - 1)
          case rel => exact ⟨j + 1, l1.set (j + 2) x, by have := HK.out; omega, by go_num, by rw [List.length_set]; exact HL1.out, by have := HD7.out; rw [HL1.out] at this; exact this⟩
          case measure => have := HK.out; omega
        · have hfin := D.finish (by omega) hgl
          have HF := Lib.hid hfin
          have hc0 := box0 D.boxB
          have hc1 := box1 D.boxB
          have ha0 := box0 D.boxA
          have ha1 := box1 D.boxA
          have haz := boxz D.boxA 0
          have haz1 := boxz D.boxA 1
          clear D hfin
          go_wp2
          refine bodyPost_ret (v := .agg #[.slice (some ⟨g1, 0, none⟩) 8 c1, .slice (some ⟨g2, 0, none⟩) 8 c2]) (by simp [results, Try.results136, go_sem, ha0, ha1]) rfl ?_
          exact ⟨_, _, l1, l2, rfl, HL1.out, HL2.out, HF.out.1, HF.out.2.1.more (by have := HK.out; omega), HF.out.2.2⟩
set_option maxHeartbeats 800000 in
theorem l15State_any (g q : Nat) (w : World) (hr : Rdr w g q) (hq : q ≤ 100000) :
    Calls Try.prog 83 #[.pointer (some ⟨g, 0, none⟩)] w fun e w' => ∃ v1 v2 l1 l2, e = .returned (.agg #[v1, v2]) ∧ l1.length = 8 ∧ l2.length = 8 ∧ OwnSt w' w.heap.size v1 v2 l1 l2 ∧ Rdr w' g (q + 41) ∧ Fr (fun j => j = g) w w' := by
  have hgl := hr.lt
  go_enter Try.func83, Try.ntmps83
  go_wp2_with fail
  refine (pick_any g q _ _ (hr.keep (below_alloc _ _)) (by omega) (by omega) (by omega)).mono ?_
  rintro e w1 ⟨k, rfl, hk, hr1, hf1⟩
  have hA := box_kept (heap_alloc_new w (.cells #[.slice none 0 0, .slice none 0 0] 34)) hf1 (by omega)
  have hfw := ((Below.fr (below_alloc w (.cells #[.slice none 0 0, .slice none 0 0] 34))).mono (fun _ _ h => h.elim)).trans hf1
  have HA := Lib.hid hA
  clear hA hf1 hr
  have hz1 := box_lt HA.out
  by_cases hk0 : k = 0
  · subst hk0
    go_wp2_with fail
    refine (l9Lists_any g (q + 1) _ hr1 (by omega)).mono ?_
    rintro e w2 ⟨v1, v2, l1, l2, rfl, hl1, hl2, hst, hr2, hf2⟩
    obtain ⟨g1, c1, rfl, hg1, _⟩ := own_at hst.one (by omega)
    obtain ⟨g2, c2, rfl, hg2, _⟩ := own_at hst.two (by omega)
    have hA2 := box_kept HA.out hf2 (by omega)
    have hz2 := hf2.size
    have ha0 := box0 hA2
    have ha1 := box1 hA2
    have haz := boxz hA2 0
    have haz1 := boxz hA2 1
    have HST := Lib.hid hst
    have HL1 := Lib.hid hl1
    have HL2 := Lib.hid hl2
    clear hA2 hst hl1 hl2
    go_wp2
    refine bodyPost_ret (v := .agg #[.slice (some ⟨g1, 0, none⟩) l1.length c1, .slice (some ⟨g2, 0, none⟩) l2.length c2]) (by simp [results, Try.results83, go_sem, ha0, ha1]) rfl ?_
    refine ⟨_, _, l1, l2, rfl, HL1.out, HL2.out, ?_, ?_, ?_⟩
    · exact ((HST.out.kept (fr_set _ _ _) (fun k h1 _ e => by simp at e; omega)).kept (fr_set _ _ _) (fun k h1 _ e => by simp at e; omega)).mono (by omega)
    · exact ((hr2.kept (fr_set _ _ _) (fun k h1 e => by simp at e; omega)).kept (fr_set _ _ _) (fun k h1 e => by simp at e; omega)).more (by omega)
    · exact ((hfw.trans hf2).then (fr_set _ _ _) (fun i hi e => by simp at e; omega)).then (fr_set _ _ _) (fun i hi e => by simp at e; omega)
  · have hkb : ((k : Int) == 0) = false := by simp; omega
    go_wp2_with fail
    refine (l2Draw_any g (q + 1) _ hr1 (by omega)).mono ?_
    rintro e w2 ⟨v1, v2, l1, l2, rfl, hl1, hl2, hst, hr2, hf2⟩
    obtain ⟨g1, c1, rfl, hg1, _⟩ := own_at hst.one (by omega)
    obtain ⟨g2, c2, rfl, hg2, _⟩ := own_at hst.two (by omega)
    have hA2 := box_kept HA.out hf2 (by omega)
    have hz2 := hf2.size
    have ha0 := box0 hA2
    have ha1 := box1 hA2
    have haz := boxz hA2 0
    have haz1 := boxz hA2 1
    have HST := Lib.hid hst
    have HL1 := Lib.hid hl1
    have HL2 := Lib.hid hl2
    clear hA2 hst hl1 hl2
    go_wp2
    refine bodyPost_ret (v := .agg #[.slice (some ⟨g1, 0, none⟩) l1.length c1, .slice (some ⟨g2, 0, none⟩) l2.length c2]) (by simp [results, Try.results83, go_sem, ha0, ha1]) rfl ?_
    refine ⟨_, _, l1, l2, rfl, HL1.out, HL2.out, ?_, ?_, ?_⟩
    · exact ((HST.out.kept (fr_set _ _ _) (fun k h1 _ e => by simp at e; omega)).kept (fr_set _ _ _) (fun k h1 _ e => by simp at e; omega)).mono (by omega)
    · exact ((hr2.kept (fr_set _ _ _) (fun k h1 e => by simp at e; omega)).kept (fr_set _ _ _) (fun k h1 e => by simp at e; omega)).more (by omega)
    · exact ((hfw.trans hf2).then (fr_set _ _ _) (fun i hi e => by simp at e; omega)).then (fr_set _ _ _) (fun i hi e => by simp at e; omega)
end Go.Proofs.Ytnhhfbhhglhocaa
