/- Draw2: texts Dr3, Dr4, Dr5, Dr6, Dr7 in one. -/
import Derived.Test.YtgfnoinkajfndaaGreatADraw1
import Derived.Test.YtgfnoinkajfndaaGreatABase2
import Derived.Deep.DeepMust
/- Walks: drawing states with lists. -/
namespace Go.Proofs.YtgfnoinkajfndaaGreat
open Go.RowKit

section
variable {w0 w w' : World} {g q q' B bA bB : Nat} {v1 v2 : Value} {l1 l2 : List Int}
theorem DrSt.start {w1 : World} {hB : Nat} (hst : OwnSt w1 (w.heap.size + 1) v1 v2 l1 l2) (hr : Rdr w g q) (hb : Below (w.alloc (.cells #[.slice none 0 0, .slice none 0 0] 25)).heap.size (w.alloc (.cells #[.slice none 0 0, .slice none 0 0] 25)) w1) (hB1 : w1.heap.size = hB) :
    DrSt w (w1.alloc (.cells #[v1, v2] 25)) g q (w.heap.size + 1) w.heap.size hB v1 v2 l1 l2 := by
  subst hB1
  exact ⟨hst.keep (below_alloc _ _), ((hr.keep (below_alloc w _)).keep hb).keep (below_alloc _ _), box_keep (box_keep (heap_alloc_new w _) hb) (below_alloc _ _), heap_alloc_new w1 _,
    ((Below.fr (bt (below_alloc w _) hb)).mono fun _ _ h => h.elim).thenB (below_alloc _ _)⟩
theorem DrSt.finish (h : DrSt w0 w g q B w0.heap.size bB v1 v2 l1 l2) (hB : w0.heap.size < B) (hg : g < w0.heap.size) :
    OwnSt ((w.setCell ⟨w0.heap.size, 0, none⟩ v1).setCell ⟨w0.heap.size, 1, none⟩ v2) w0.heap.size v1 v2 l1 l2 ∧ Rdr ((w.setCell ⟨w0.heap.size, 0, none⟩ v1).setCell ⟨w0.heap.size, 1, none⟩ v2) g q ∧ Fr (fun j => j = g) w0 ((w.setCell ⟨w0.heap.size, 0, none⟩ v1).setCell ⟨w0.heap.size, 1, none⟩ v2) := by
  refine ⟨?_, ?_, ?_⟩
  · exact ((h.own.kept (fr_set _ _ _) (fun k h1 _ e => by simp at e; omega)).kept (fr_set _ _ _) (fun k h1 _ e => by simp at e; omega)).mono (by omega)
  · exact (h.rdr.kept (fr_set _ _ _) (fun k h1 e => by simp at e; omega)).kept (fr_set _ _ _) (fun k h1 e => by simp at e; omega)
  · exact (h.fr.then (fr_set _ _ _) (fun i hi e => by simp at e; omega)).then (fr_set _ _ _) (fun i hi e => by simp at e; omega)
end

set_option maxHeartbeats 3200000 in
theorem l9Lists_any (g q : Nat) (w : World) (hr : Rdr w g q) (hq : q ≤ 1000000) :
    Calls Tryz.prog 19 #[.pointer (some ⟨g, 0, none⟩)] w fun e w' => ∃ v1 v2 l1 l2, e = .returned (.agg #[v1, v2]) ∧ l1.length = 8 ∧ l2.length = 8 ∧ OwnSt w' w.heap.size v1 v2 l1 l2 ∧ Rdr w' g (q + 40) ∧ Fr (fun j => j = g) w w' := by
  have hgl := hr.lt
  go_enter Tryz.func19, Tryz.ntmps19
  go_wp2_with fail
  refine (l2Blank_any _).mono ?_
  rintro e w1 ⟨v1, v2, rfl, hst, hb⟩
  obtain ⟨g1, c1, rfl, hg1, hgu1⟩ := own_at hst.one (by rw [reps_len]; omega)
  obtain ⟨g2, c2, rfl, hg2, hgu2⟩ := own_at hst.two (by rw [reps_len]; omega)
  have hz1 : w.heap.size < w1.heap.size := by have := hb.size; simp at this; omega
  simp at hg1 hg2
  rw [World.size_alloc] at hst
  have D0 := DrSt.start hst hr hb rfl
  have e8 : (reps 0 8).length = 8 := reps_len 0 8
  have e8' : (reps (-1) 8).length = 8 := reps_len (-1) 8
  clear hst hb hr
  rw [e8, e8'] at D0
  rw [e8, e8']
  have E8 := Lib.hid e8
  have E8' := Lib.hid e8'
  clear e8 e8'
  go_wp2
  go_loopg [4, 5] 2 (fun k nx i wr => ∃ (j n : Nat) (l1 l2 : List Int), j + k = 2 ∧ i = .int .i64 (j + 1 : Nat) ∧ nx = .int .i64 n ∧ 1 ≤ n ∧ n ≤ 1 + 3 * j ∧ l1.length = 8 ∧ l2.length = 8 ∧
    DrSt w wr g (q + j) (w.heap.size + 1) w.heap.size w1.heap.size (.slice (some ⟨g1, 0, none⟩) 8 c1) (.slice (some ⟨g2, 0, none⟩) 8 c2) l1 l2)
  case atStart => exact ⟨0, 1, _, _, by omega, rfl, rfl, by omega, by omega, E8.out, E8'.out, D0⟩
  case round =>
    clear D0
    obtain ⟨j, n, l1, l2, hk, rfl, rfl, hn1, hn2, hl1, hl2, D⟩ := hrel
    have HK := Lib.hid hk
    have HL1 := Lib.hid hl1
    have HL2 := Lib.hid hl2
    have e1 : (((j + 1 : Nat) : Int)) = (j : Int) + 1 := by omega
    rw [e1]
    have hzz := box_lt D.boxB
    clear hk hl1 hl2 e1
    by_cases hj2 : j < 2
    · go_wp2_with fail
      refine (num_any g (q + j) _ [2, 1, 0, 3] _ (D.rdr.keep (below_alloc _ _)) (lit_ints _ [2, 1, 0, 3] (by decide)) (by omega) (by decide) (by decide) (fun k hk e => by simp [Value.ownBlock] at hk; omega)).mono ?_
      rintro e w2 ⟨x, hx, rfl, hr2, hf2⟩
      obtain ⟨m, rfl, hm3⟩ : ∃ m : Nat, x = (m : Int) ∧ m ≤ 3 := ⟨x.toNat, by simp at hx; omega, by simp at hx; omega⟩
      have D2 := (D.keep (below_alloc wr _)).drawn hr2 hf2 (by omega) (by omega) (by omega)
      clear hr2 hf2 D hx
      have hc0 := box0 D2.boxB
      have hc1 := box1 D2.boxB
      have hji : (j : Int) < 8 := by omega
      have hown1 : w2.ownsRow (w.heap.size + 1) 3 1 (.slice (some ⟨g1, 0, none⟩) l1.length c1) l1.length (ints l1) := by have := D2.own.one; rw [HL1.out]; rw [HL1.out] at this; exact this
      obtain ⟨hck, hfz⟩ := own_cell hown1 j (by rw [HL1.out]; omega)
      have HD := Lib.hid D2
      clear D2 hown1
      obtain ⟨ko, rfl⟩ : ∃ ko : Nat, ko = gk := ⟨_, rfl⟩
      by_cases hm0 : 0 < m
      · have D3 := (show DrSt w w2 g (q + j + 1) (w.heap.size + 1) w.heap.size w1.heap.size (.slice (some ⟨g1, 0, none⟩) l1.length c1) (.slice (some ⟨g2, 0, none⟩) 8 c2) l1 l2 from by rw [HL1.out]; exact HD.out).set1 j (n : Int) (by omega) (by omega) (by omega) (by omega)
        rw [HL1.out] at D3
        have hl1' : (l1.set j (n : Int)).length = 8 := by rw [List.length_set]; exact HL1.out
        generalize l1.set j (n : Int) = l1' at D3 hl1'
        have HD3 := Lib.hid D3
        have HL3 := Lib.hid hl1'
        clear D3 hl1' HD
        go_wp2
        obtain ⟨wx, hwx⟩ : ∃ wx, wx = w2.setCell ⟨g1, j, none⟩ (.int .i64 (n : Int)) := ⟨_, rfl⟩
        rw [← hwx] at HD3 ⊢
        clear hwx hc0 hc1 hck hfz
        go_loopg [4, 7] m (fun k nx i wr => ∃ (i' : Nat) (l2 : List Int), i' + k = m ∧ i = .int .i64 (i' + 1 : Nat) ∧ nx = .int .i64 (n + i' : Nat) ∧ l2.length = 8 ∧
          DrSt w wr g (q + j + 1) (w.heap.size + 1) w.heap.size w1.heap.size (.slice (some ⟨g1, 0, none⟩) 8 c1) (.slice (some ⟨g2, 0, none⟩) 8 c2) l1' l2)
        case atStart => exact ⟨0, _, by omega, rfl, by simp, HL2.out, HD3.out⟩
        case round =>
          clear HD3 HL2
          obtain ⟨i', l2, hik, rfl, rfl, hl2, D⟩ := hrel
          have HL2 := Lib.hid hl2
          have HIK := Lib.hid hik
          clear hik hl2
          have e1 : (((i' + 1 : Nat) : Int)) = (i' : Int) + 1 := by omega
          have e2 : (((n + i' : Nat) : Int)) = (n : Int) + i' := by omega
          rw [e1, e2]
          clear e1 e2
          have HD := Lib.hid D
          clear D
          by_cases him : i' < m
          · have hc0 := box0 HD.out.boxB
            have hc1 := box1 HD.out.boxB
            have D1 := (show DrSt w wr g (q + j + 1) (w.heap.size + 1) w.heap.size w1.heap.size (.slice (some ⟨g1, 0, none⟩) 8 c1) (.slice (some ⟨g2, 0, none⟩) l2.length c2) l1' l2 from by rw [HL2.out]; exact HD.out)
            obtain ⟨hck, hfz⟩ := own_cell D1.own.two (n + i' - 1) (by rw [HL2.out]; omega)
            have D4 := D1.set2 (n + i' - 1) 0 (by omega) (by omega) (by omega) (by omega)
            rw [show (.slice (some ⟨g2, 0, none⟩) l2.length c2 : Value) = .slice (some ⟨g2, 0, none⟩) (l2.set (n + i' - 1) 0).length c2 from by rw [List.length_set]] at D4
            have D5 := D4.set2 (n + i' - 1) ((n : Int) + i' + 1) (by omega) (by omega) (by omega) (by omega)
            have HD4 := Lib.hid D4
            have HD5 := Lib.hid D5
            have hni : (n : Int) + i' - 1 < 8 := by omega
            have hni0 : (0 : Int) ≤ (n : Int) + i' - 1 := by omega
            have hnat : ((n : Int) + i' - 1).toNat = n + i' - 1 := by omega
            have n1 : ¬ w1.heap.size = g2 := by omega
            clear D1 D4 D5 HD
            by_cases hlast : i' + 1 < m
            · go_wp2
              go_roundg (gk - 1)
              case rel => exact ⟨i' + 1, (l2.set (n + i' - 1) 0).set (n + i' - 1) ((n : Int) + i' + 1), by have := HIK.out; omega, by go_num, by rw [show (((n + (i' + 1) : Nat)) : Int) = (n : Int) + i' + 1 by omega], by rw [List.length_set, List.length_set]; exact HL2.out, by have := HD5.out; rw [List.length_set, HL2.out] at this; exact this⟩
              case measure => have := HIK.out; omega
            · go_wp2
              go_roundg (gk - 1)
              case rel => exact ⟨i' + 1, l2.set (n + i' - 1) 0, by have := HIK.out; omega, by go_num, by rw [show (((n + (i' + 1) : Nat)) : Int) = (n : Int) + i' + 1 by omega], by rw [List.length_set]; exact HL2.out, by have := HD4.out; rw [List.length_set, HL2.out] at this; exact this⟩
              case measure => have := HIK.out; omega
          · obtain rfl : i' = m := by have := HIK.out; omega
            go_wp2
            go_roundg (ko - 1)
            case rel => exact ⟨j + 1, n + i', l1', l2, by have := HK.out; omega, by go_num, by rw [show (((n + i' : Nat)) : Int) = (n : Int) + i' by omega], by omega, by omega, HL3.out, HL2.out, HD.out⟩
            case measure => have := HK.out; omega
      · obtain rfl : m = 0 := by omega
        clear hc0 hc1 hck hfz
        go_wp2
        go_loopg [4, 7] 0 (fun k nx i wr => i = .int .i64 1 ∧ nx = .int .i64 n ∧ wr = w2)
        case atStart => exact ⟨rfl, rfl, rfl⟩
        case round =>
          obtain ⟨rfl, rfl, rfl⟩ := hrel
          go_wp2
          go_roundg (ko - 1)
          case rel => exact ⟨j + 1, n, l1, l2, by have := HK.out; omega, by go_num, rfl, by omega, by omega, HL1.out, HL2.out, HD.out⟩
          case measure => have := HK.out; omega
    · obtain rfl : j = 2 := by have := HK.out; omega
      clear HK
      go_wp2
      obtain ⟨wo, rfl⟩ : ∃ wo : World, wo = wr := ⟨_, rfl⟩
      go_loopg [8] 6 (fun k i wr => ∃ (j : Nat) (l1 : List Int), j + k = 6 ∧ i = .int .i64 (j + 3 : Nat) ∧ l1.length = 8 ∧
        DrSt w wr g (q + 2 + j) (w.heap.size + 1) w.heap.size w1.heap.size (.slice (some ⟨g1, 0, none⟩) 8 c1) (.slice (some ⟨g2, 0, none⟩) 8 c2) l1 l2)
      case atStart => exact ⟨0, l1, by omega, rfl, HL1.out, D⟩
      case round =>
        clear D HL1
        obtain ⟨j, l1, hk, rfl, hl1, D⟩ := hrel
        have HK := Lib.hid hk
        have HL1 := Lib.hid hl1
        have e1 : (((j + 3 : Nat) : Int)) = (j : Int) + 3 := by omega
        rw [e1]
        have hzz := box_lt D.boxB
        clear hk hl1 e1
        by_cases hj6 : j < 6
        · have hc0 := box0 D.boxB
          have hlit := lit_ints wr [0, 1, 2, 0, 3] (by decide)
          have HLIT := Lib.hid hlit
          have D0 := Lib.hid (show DrSt w wr g (q + 2 + j) (w.heap.size + 1) w.heap.size w1.heap.size (.slice (some ⟨g1, 0, none⟩) l1.length c1) (.slice (some ⟨g2, 0, none⟩) 8 c2) l1 l2 from by rw [HL1.out]; exact D)
          have hj0 : (0 : Int) ≤ (j : Int) + 2 := by omega
          have hj8 : (j : Int) + 2 < 8 := by omega
          have hwr1 : IntKind.i64.wrap ((j : Int) + 2) = (j : Int) + 2 := IntWalk.i64_in _ (by omega)
          have hwr2 : IntKind.i64.wrap ((j : Int) + 3 - 1) = (j : Int) + 2 := by rw [IntWalk.i64_in _ (by omega)]; omega
          have hnat : ((j : Int) + 2).toNat = j + 2 := by omega
          clear hlit D
          go_wp2
          go_region_held3 (fun w' => w'.cell? ⟨w1.heap.size, 0, none⟩ = some (.slice (some ⟨g1, 0, none⟩) 8 c1))
            (first
              | exact hc0
              | exact cell_keep (bt (below_alloc wr _) (below_drew _)) hc0
              | (have hh := box0 D6.boxB; rw [HL1.out] at hh; rw [World.cell?_of_block (w := w6) (Below.heap_setCell _ _ _ _ (by simp; omega))]; exact hh)
              | (have hh := box0 D6.boxB; rw [HL1.out] at hh; exact hh))
            (first
              | (go_at_call 60; refine (num_any g (q + 2 + j) _ [0, 1, 2, 0, 3] _ ((D0.out.keep (bt (below_alloc wr _) (below_drew _))).rdr) (HLIT.out.keep (below_drew _)) (by omega) (by decide) (by decide) (fun k hk e => by simp [Value.ownBlock] at hk; have := D0.out.rdr.lt; omega)).mono ?_; rintro e w6 ⟨x, _, rfl, hr6, hf6⟩; have D6 := (D0.out.keep (bt (below_alloc wr _) (below_drew _))).drawn hr6 hf6 (by omega) (by omega) (by omega); obtain ⟨hck6, hfz6⟩ := own_cell D6.own.one (j + 2) (by rw [HL1.out]; omega)))
          have HD7 := Lib.hid (D6.set1 (j + 2) x (by omega) (by omega) (by omega) (by omega))
          clear D6 D0 hf6 hck6 hfz6 hr6 HLIT hc0
          go_wp2
          go_roundg (gk - 1)
          case rel => exact ⟨j + 1, l1.set (j + 2) x, by have := HK.out; omega, by go_num, by rw [List.length_set]; exact HL1.out, by have := HD7.out; rw [HL1.out] at this; exact this⟩
          case measure => have := HK.out; omega
        · have hfin := D.finish (by omega) hgl
          have HF := Lib.hid hfin
          have hc0 := box0 D.boxB
          have hc1 := box1 D.boxB
          have ha0 := box0 D.boxA
          have ha1 := box1 D.boxA
          have haz := boxz D.boxA 0
          have haz1 := boxz D.boxA 1
          clear D hfin
          go_wp2
          refine bodyPost_ret (v := .agg #[.slice (some ⟨g1, 0, none⟩) 8 c1, .slice (some ⟨g2, 0, none⟩) 8 c2]) (by simp [results, Tryz.results19, go_sem, ha0, ha1]) rfl ?_
          exact ⟨_, _, l1, l2, rfl, HL1.out, HL2.out, HF.out.1, HF.out.2.1.more (by have := HK.out; omega), HF.out.2.2⟩
set_option maxHeartbeats 800000 in
theorem l15State_any (g q : Nat) (w : World) (hr : Rdr w g q) (hq : q ≤ 100000) :
    Calls Tryz.prog 23 #[.pointer (some ⟨g, 0, none⟩)] w fun e w' => ∃ v1 v2 l1 l2, e = .returned (.agg #[v1, v2]) ∧ l1.length = 8 ∧ l2.length = 8 ∧ OwnSt w' w.heap.size v1 v2 l1 l2 ∧ Rdr w' g (q + 41) ∧ Fr (fun j => j = g) w w' := by
  have hgl := hr.lt
  go_enter Tryz.func23, Tryz.ntmps23
  go_wp2_with fail
  refine (pick_any g q _ _ (hr.keep (below_alloc _ _)) (by omega) (by omega) (by omega)).mono ?_
  rintro e w1 ⟨k, rfl, hk, hr1, hf1⟩
  have hA := box_kept (heap_alloc_new w (.cells #[.slice none 0 0, .slice none 0 0] 25)) hf1 (by omega)
  have hfw := ((Below.fr (below_alloc w (.cells #[.slice none 0 0, .slice none 0 0] 25))).mono (fun _ _ h => h.elim)).trans hf1
  have HA := Lib.hid hA
  clear hA hf1 hr
  have hz1 := box_lt HA.out
  by_cases hk0 : k = 0
  · subst hk0
    go_wp2_with fail
    refine (l9Lists_any g (q + 1) _ hr1 (by omega)).mono ?_
    rintro e w2 ⟨v1, v2, l1, l2, rfl, hl1, hl2, hst, hr2, hf2⟩
    obtain ⟨g1, c1, rfl, hg1, _⟩ := own_at hst.one (by omega)
    obtain ⟨g2, c2, rfl, hg2, _⟩ := own_at hst.two (by omega)
    have hA2 := box_kept HA.out hf2 (by omega)
    have hz2 := hf2.size
    have ha0 := box0 hA2
    have ha1 := box1 hA2
    have haz := boxz hA2 0
    have haz1 := boxz hA2 1
    have HST := Lib.hid hst
    have HL1 := Lib.hid hl1
    have HL2 := Lib.hid hl2
    clear hA2 hst hl1 hl2
    go_wp2
    refine bodyPost_ret (v := .agg #[.slice (some ⟨g1, 0, none⟩) l1.length c1, .slice (some ⟨g2, 0, none⟩) l2.length c2]) (by simp [results, Tryz.results23, go_sem, ha0, ha1]) rfl ?_
    refine ⟨_, _, l1, l2, rfl, HL1.out, HL2.out, ?_, ?_, ?_⟩
    · exact ((HST.out.kept (fr_set _ _ _) (fun k h1 _ e => by simp at e; omega)).kept (fr_set _ _ _) (fun k h1 _ e => by simp at e; omega)).mono (by omega)
    · exact ((hr2.kept (fr_set _ _ _) (fun k h1 e => by simp at e; omega)).kept (fr_set _ _ _) (fun k h1 e => by simp at e; omega)).more (by omega)
    · exact ((hfw.trans hf2).then (fr_set _ _ _) (fun i hi e => by simp at e; omega)).then (fr_set _ _ _) (fun i hi e => by simp at e; omega)
  · have hkb : ((k : Int) == 0) = false := by simp; omega
    go_wp2_with fail
    refine (l2Draw_any g (q + 1) _ hr1 (by omega)).mono ?_
    rintro e w2 ⟨v1, v2, l1, l2, rfl, hl1, hl2, hst, hr2, hf2⟩
    obtain ⟨g1, c1, rfl, hg1, _⟩ := own_at hst.one (by omega)
    obtain ⟨g2, c2, rfl, hg2, _⟩ := own_at hst.two (by omega)
    have hA2 := box_kept HA.out hf2 (by omega)
    have hz2 := hf2.size
    have ha0 := box0 hA2
    have ha1 := box1 hA2
    have haz := boxz hA2 0
    have haz1 := boxz hA2 1
    have HST := Lib.hid hst
    have HL1 := Lib.hid hl1
    have HL2 := Lib.hid hl2
    clear hA2 hst hl1 hl2
    go_wp2
    refine bodyPost_ret (v := .agg #[.slice (some ⟨g1, 0, none⟩) l1.length c1, .slice (some ⟨g2, 0, none⟩) l2.length c2]) (by simp [results, Tryz.results23, go_sem, ha0, ha1]) rfl ?_
    refine ⟨_, _, l1, l2, rfl, HL1.out, HL2.out, ?_, ?_, ?_⟩
    · exact ((HST.out.kept (fr_set _ _ _) (fun k h1 _ e => by simp at e; omega)).kept (fr_set _ _ _) (fun k h1 _ e => by simp at e; omega)).mono (by omega)
    · exact ((hr2.kept (fr_set _ _ _) (fun k h1 e => by simp at e; omega)).kept (fr_set _ _ _) (fun k h1 e => by simp at e; omega)).more (by omega)
    · exact ((hfw.trans hf2).then (fr_set _ _ _) (fun i hi e => by simp at e; omega)).then (fr_set _ _ _) (fun i hi e => by simp at e; omega)
end Go.Proofs.YtgfnoinkajfndaaGreat
/- Walks: copies of states in the reference; changed states. -/
namespace Go.Proofs.YtgfnoinkajfndaaGreat
open Go.RowKit

theorem news_of {w : World} {b o n c : Nat} {l : List Int} (h : RInts w (.slice (some ⟨b, o, none⟩) n c) l) : ∀ j u, (ints l)[j]? = some u → w.cell? ((⟨b, o, none⟩ : Addr).add j) = some u := by
  intro j u hj
  have hjl : j < l.length := by
    rcases Nat.lt_or_ge j l.length with h | h
    · exact h
    · rw [List.getElem?_eq_none (by simpa [ints] using h)] at hj; cases hj
  have hu : u = .int .i64 (gi l j) := by
    simp [ints, hjl] at hj; rw [gi_of hjl, ← hj]
  have := (h.at j hjl).2
  have e : (⟨b, o, none⟩ : Addr).add j = ⟨b, o + j, none⟩ := by unfold Addr.add; split <;> simp_all
  rw [e, this, hu]

theorem RInts.news {w : World} {b o c : Nat} {l : List Int} (h : RInts w (.slice (some ⟨b, o, none⟩) l.length c) l) : ∀ j u, (ints l)[j]? = some u → w.cell? ((⟨b, o, none⟩ : Addr).add j) = some u := news_of h

/-- A step: a readable list is appended to an empty row of the call's own. -/
theorem step_copy (w : World) {ops : Array Oper} {o : Oper} {a : Act} {K : Act → World → Prop} {Q : Exit → Act → World → Prop} {E : Prop} (hgd : o.guard = none) (s x : Operand) (t : TypeId)
    (ho : o.op = .call { callee := .builtin .append, args := #[s, x], argTypes := #[t, t] })
    (base e0 : Nat) (ht : Tryz.prog.underlying t = some (.slice 3)) (hs : a.eval s = .slice (some ⟨e0, 0, none⟩) 0 0)
    (hown : w.ownsRow base 3 1 (.slice (some ⟨e0, 0, none⟩) 0 0) 0 (ints [])) (b oo c : Nat) (l : List Int) (hx : a.eval x = .slice (some ⟨b, oo, none⟩) l.length c)
    (hr : RInts w (.slice (some ⟨b, oo, none⟩) l.length c) l) (hl : l.length ≤ 1048576) (hp : 0 < l.length) (hbase : base ≤ w.heap.size)
    (h : ∀ g cap w', w'.ownsRow base 3 1 (.slice (some ⟨g, 0, none⟩) l.length cap) l.length (ints l) → Fr (fun k => k = e0) w w' → (g = e0 ∨ g = w.heap.size) → g < w'.heap.size → K (a.put o.dst (.slice (some ⟨g, 0, none⟩) l.length cap)) w') :
    if Region.wanted o (yielded ops a.tmps) = true then Oper.wp Tryz.prog o a w K Q else E := by
  obtain ⟨i0, hi, hz0, hz1, hz2⟩ := info_parts info_int
  refine step_append_lies w hgd s x t ho base 3 i0 (.int .i64 0) 1 8 ht hi hz0 hz1 hz2 rfl (by omega) _ 0 (ints []) hs hown ⟨b, oo, none⟩ l.length c (ints l) hx (by simp [ints]) hr.news ?_ hp (by unfold maxLen; omega) (by omega) hbase _ rfl ?_
  · intro u hu
    simp [ints] at hu
    obtain ⟨_, _, rfl⟩ := hu
    rfl
  · intro g cap w' hown' hgrow hlie hlt
    rw [Nat.zero_add] at hown' ⊢
    have e0' : ints [] ++ ints l = ints l := by simp [ints]
    rw [e0'] at hown'
    refine h g cap w' hown' ((grown_fr hgrow).mono fun k _ hk => by simpa [Value.ownBlock] using hk) ?_ hlt
    rcases hlie with hh | hh
    · left; simpa [Value.ownBlock] using hh.symm
    · exact .inr hh

set_option maxHeartbeats 3200000 in
theorem l2Copy_any (v1 v2 : Value) (l1 l2 : List Int) (w : World) (h1 : RInts w v1 l1) (h2 : RInts w v2 l2) (hl1 : l1.length ≤ 1048576) (hl2 : l2.length ≤ 1048576) (hp1 : 0 < l1.length) (hp2 : 0 < l2.length) :
    Calls Tryz.prog 28 #[.agg #[v1, v2]] w fun e w' => ∃ u1 u2, e = .returned (.agg #[u1, u2]) ∧ OwnSt w' w.heap.size u1 u2 l1 l2 ∧ Below w.heap.size w w' := by
  obtain ⟨b1, o1, c1, rfl, _, _, hcell1⟩ := h1.ne hp1
  obtain ⟨b2, o2, c2, rfl, _, _, hcell2⟩ := h2.ne hp2
  clear hcell1 hcell2
  have q1 := (h1.alloc (.cells #[.slice (some ⟨b1, o1, none⟩) l1.length c1, .slice (some ⟨b2, o2, none⟩) l2.length c2] 25)).alloc (.cells #[.slice none 0 0, .slice none 0 0] 25)
  have q2 := (h2.alloc (.cells #[.slice (some ⟨b1, o1, none⟩) l1.length c1, .slice (some ⟨b2, o2, none⟩) l2.length c2] 25)).alloc (.cells #[.slice none 0 0, .slice none 0 0] 25)
  go_enter Tryz.func28, Tryz.ntmps28
  go_wp2
  generalize hw0 : (w.alloc (.cells #[.slice (some ⟨b1, o1, none⟩) l1.length c1, .slice (some ⟨b2, o2, none⟩) l2.length c2] 25)).alloc (.cells #[.slice none 0 0, .slice none 0 0] 25) = w0 at *
  have hc0 : w0.cell? ⟨w.heap.size, 0, none⟩ = some (.slice (some ⟨b1, o1, none⟩) l1.length c1) := by rw [← hw0]; simp [go_sem]
  have hc1 : w0.cell? ⟨w.heap.size, 1, none⟩ = some (.slice (some ⟨b2, o2, none⟩) l2.length c2) := by rw [← hw0]; simp [go_sem]
  have hA : w0.heap[w.heap.size + 1]? = some (.cells #[.slice none 0 0, .slice none 0 0] 25 (0, 0)) := by
    rw [← hw0]
    have := heap_alloc_new (w.alloc (.cells #[.slice (some ⟨b1, o1, none⟩) l1.length c1, .slice (some ⟨b2, o2, none⟩) l2.length c2] 25)) (.cells #[.slice none 0 0, .slice none 0 0] 25)
    simpa using this
  have hsz : w0.heap.size = w.heap.size + 2 := by rw [← hw0]; simp
  have hbw : Below w.heap.size w w0 := by rw [← hw0]; exact bt (below_alloc _ _) (below_alloc _ _)
  clear hw0 h1 h2
  have HSZ := Lib.hid hsz
  have HA := Lib.hid hA
  clear hsz hA
  go_region_held3 (fun w' => Fr (fun k => k = w.heap.size + 1) w0 w' ∧ w'.cell? ⟨w.heap.size, 0, none⟩ = some (.slice (some ⟨b1, o1, none⟩) l1.length c1) ∧ w'.cell? ⟨w.heap.size, 1, none⟩ = some (.slice (some ⟨b2, o2, none⟩) l2.length c2))
    (first
      | exact ⟨(Below.fr (Below.refl _ _)).mono fun _ _ h => h.elim, hc0, hc1⟩
      | exact ⟨(Below.fr (below_drew _)).mono fun _ _ h => h.elim, hc0, hc1⟩
      | exact ⟨(Below.fr (below_alloc _ _)).mono fun _ _ h => h.elim, cell_keep (below_alloc _ _) hc0, cell_keep (below_alloc _ _) hc1⟩
      | exact ⟨(Below.fr (bt (below_alloc _ _) (below_drew _))).mono fun _ _ h => h.elim, cell_keep (bt (below_alloc _ _) (below_drew _)) hc0, cell_keep (bt (below_alloc _ _) (below_drew _)) hc1⟩
      | exact ⟨(Below.fr (bt (below_alloc _ _) (below_alloc _ _))).mono fun _ _ h => h.elim, cell_keep (bt (below_alloc _ _) (below_alloc _ _)) hc0, cell_keep (bt (below_alloc _ _) (below_alloc _ _)) hc1⟩
      | exact ⟨(Below.fr (bt (bt (below_alloc _ _) (below_alloc _ _)) (below_drew _))).mono fun _ _ h => h.elim, cell_keep (bt (bt (below_alloc _ _) (below_alloc _ _)) (below_drew _)) hc0, cell_keep (bt (bt (below_alloc _ _) (below_alloc _ _)) (below_drew _)) hc1⟩
      | exact ⟨(Below.fr hb3).mono fun _ _ h => h.elim, cell_keep hb3 hc0, cell_keep hb3 hc1⟩
      | exact ⟨(Below.fr (bt hb3 (below_alloc _ _))).mono fun _ _ h => h.elim, cell_keep (bt hb3 (below_alloc _ _)) hc0, cell_keep (bt hb3 (below_alloc _ _)) hc1⟩
      | exact ⟨(Below.fr hb4).mono fun _ _ h => h.elim, cell_keep hb4 hc0, cell_keep hb4 hc1⟩
      | exact ⟨(((Below.fr hb4).mono fun _ _ h => h.elim).then (fr_set _ _ _) (fun i hi e => by simp at e; omega)).then (fr_set _ _ _) (fun i hi e => by simp at e; omega), (fr_set _ _ _).cell (by simp) ((fr_set _ _ _).cell (by simp) (cell_keep hb4 hc0)), (fr_set _ _ _).cell (by simp) ((fr_set _ _ _).cell (by simp) (cell_keep hb4 hc1))⟩)
    (first
      | (refine step_copy _ (by rfl) _ _ _ (by rfl) (w.heap.size + 2) _ Tryz.underlying23 (by rfl) (by
          first
          | exact own_empty_at _ _ _ _ (by first | rfl | exact World.size_alloc _ _) (by have := HSZ.out; omega)
          | exact own_keep (own_empty_at _ _ _ _ (by first | rfl | exact World.size_alloc _ _) (by have := HSZ.out; omega)) (below_drew _)
          | exact own_keep (own_empty_at w0 _ _ _ (by first | rfl | exact World.size_alloc _ _) (by have := HSZ.out; omega)) (below_alloc _ _)
          | exact own_keep (own_empty_at w0 _ _ _ (by first | rfl | exact World.size_alloc _ _) (by have := HSZ.out; omega)) (bt (below_alloc _ _) (below_drew _))) b1 o1 c1 l1 (by rfl) (q1.keep (by first | exact below_drew _ | exact below_alloc _ _ | exact bt (below_alloc _ _) (below_drew _) | exact bt (below_alloc _ _) (below_alloc _ _) | exact bt (bt (below_alloc _ _) (below_alloc _ _)) (below_drew _))) hl1 hp1 (by have := HSZ.out; simp; omega) ?_; intro gg1 cc1 w3 hown3 hf3 hlie3 hlt3;
          have hb3 : Below w0.heap.size w0 w3 := (by first
            | exact (((Below.fr (bt (below_alloc _ _) (below_drew _))).mono fun _ _ h => h.elim).trans hf3).below (Nat.le_refl _) (fun k hk e => by omega)
            | exact (((Below.fr (bt (bt (below_alloc _ _) (below_alloc _ _)) (below_drew _))).mono fun _ _ h => h.elim).trans hf3).below (Nat.le_refl _) (fun k hk e => by omega));
          have hz3 := hb3.size;
          (try have hE := own_kept (own_keep (own_empty_at (w0.alloc (.cells #[] 3)) (w.heap.size + 2) 3 (w0.heap.size + 1) (World.size_alloc _ _) (by have := HSZ.out; omega)) (below_drew _)) hf3 (fun k hk e => by simp [Value.ownBlock] at hk; omega));
          (try have hE := own_kept (own_keep (own_empty_at w0 (w.heap.size + 2) 3 w0.heap.size rfl (by have := HSZ.out; omega)) (bt (below_alloc _ _) (below_drew _))) hf3 (fun k hk e => by simp [Value.ownBlock] at hk; omega)))
      | (refine step_copy _ (by rfl) _ _ _ (by rfl) (w.heap.size + 2) _ Tryz.underlying23 (by rfl) (by
          first
          | exact own_empty_at _ _ _ _ (by first | rfl | exact World.size_alloc _ _) (by have := HSZ.out; omega)
          | exact hE) b2 o2 c2 l2 (by rfl) (q2.keep (by first | exact hb3 | exact bt hb3 (below_alloc _ _))) hl2 hp2 (by have := HSZ.out; first | omega | (simp; omega)) ?_; intro gg2 cc2 w4 hown4 hf4 hlie4 hlt4;
          have hb4 : Below w0.heap.size w0 w4 := (by first
            | exact (((Below.fr hb3).mono fun _ _ h => h.elim).trans hf4).below (Nat.le_refl _) (fun k hk e => by omega)
            | exact (((Below.fr (bt hb3 (below_alloc _ _))).mono fun _ _ h => h.elim).trans hf4).below (Nat.le_refl _) (fun k hk e => by omega));
          have hA4 := box_keep HA.out hb4;
          have hz4 := hb4.size;
          have hst : OwnSt w4 (w.heap.size + 2) (.slice (some ⟨gg1, 0, none⟩) l1.length cc1) (.slice (some ⟨gg2, 0, none⟩) l2.length cc2) l1 l2 := ⟨(by first | exact own_kept hown3 hf4 (fun k hk e => by simp [Value.ownBlock] at hk; simp at hlie3; omega) | exact own_kept (own_keep hown3 (below_alloc _ _)) hf4 (fun k hk e => by simp [Value.ownBlock] at hk; simp at hlie3; omega)), hown4, (fun k hk hk2 => by simp [Value.ownBlock] at hk hk2; simp at hlie3 hlie4; omega)⟩; have ha0 := box0 hA4; have ha1 := box1 hA4; have haz := boxz hA4 0; have haz1 := boxz hA4 1))
  all_goals
    have HST := Lib.hid hst
    have HB4 := Lib.hid hb4
    clear hst hb4 hb3 hown3 hown4 hf3 hf4 hlie3 hlie4 hA4
    go_wp2
    refine bodyPost_ret (v := .agg #[.slice (some ⟨gg1, 0, none⟩) l1.length cc1, .slice (some ⟨gg2, 0, none⟩) l2.length cc2]) (by simp [results, Tryz.results28, go_sem, ha0, ha1]) rfl ?_
    have hs2 := HSZ.out
    refine ⟨_, _, rfl, ?_, ?_⟩
    · exact ((HST.out.kept (fr_set _ _ _) (fun k h1 _ e => by simp at e; omega)).kept (fr_set _ _ _) (fun k h1 _ e => by simp at e; omega)).mono (by omega)
    · exact (((((Below.fr hbw).mono (S' := fun k => k = w.heap.size + 1) fun _ _ h => h.elim).thenB HB4.out).then (fr_set _ _ _) (fun i hi e => by simp at e; omega)).then (fr_set _ _ _) (fun i hi e => by simp at e; omega)).below (Nat.le_refl _) (fun k hk e => by omega)
end Go.Proofs.YtgfnoinkajfndaaGreat
namespace Go.Proofs.YtgfnoinkajfndaaGreat
open Go.RowKit
section
variable {w0 w : World} {g q B bA bB : Nat} {v1 v2 : Value} {l1 l2 : List Int}
theorem DrSt.done (h : DrSt w0 w g q B bA bB v1 v2 l1 l2) (hB : bA < B) (hA : w0.heap.size ≤ bA) (hg : g < w0.heap.size) (x y : Value) :
    OwnSt ((w.setCell ⟨bA, 0, none⟩ x).setCell ⟨bA, 1, none⟩ y) B v1 v2 l1 l2 ∧ Rdr ((w.setCell ⟨bA, 0, none⟩ x).setCell ⟨bA, 1, none⟩ y) g q ∧ Fr (fun j => j = g) w0 ((w.setCell ⟨bA, 0, none⟩ x).setCell ⟨bA, 1, none⟩ y) := by
  refine ⟨?_, ?_, ?_⟩
  · exact (h.own.kept (fr_set _ _ _) (fun k h1 _ e => by simp at e; omega)).kept (fr_set _ _ _) (fun k h1 _ e => by simp at e; omega)
  · exact (h.rdr.kept (fr_set _ _ _) (fun k h1 e => by simp at e; omega)).kept (fr_set _ _ _) (fun k h1 e => by simp at e; omega)
  · exact (h.fr.then (fr_set _ _ _) (fun i hi e => by simp at e; omega)).then (fr_set _ _ _) (fun i hi e => by simp at e; omega)
end
theorem own_nil (w : World) (B : Nat) : OwnSt w B (.slice none 0 0) (.slice none 0 0) [] [] :=
  ⟨⟨rfl, .inl ⟨rfl, rfl⟩⟩, ⟨rfl, .inl ⟨rfl, rfl⟩⟩, fun k hk => by simp [Value.ownBlock] at hk⟩

set_option maxHeartbeats 3200000 in
theorem l2Mutate_any (g q : Nat) (v1 v2 : Value) (l1 l2 : List Int) (w : World) (hr : Rdr w g q) (hq : q ≤ 1000000) (h1 : RInts w v1 l1) (h2 : RInts w v2 l2) (hl1 : l1.length = 8) (hl2 : l2.length = 8) :
    Calls Tryz.prog 18 #[.pointer (some ⟨g, 0, none⟩), .agg #[v1, v2]] w fun e w' => ∃ u1 u2 m1 m2, e = .returned (.agg #[u1, u2]) ∧ m1.length ≤ 9 ∧ m2.length ≤ 9 ∧ OwnSt w' w.heap.size u1 u2 m1 m2 ∧ Rdr w' g (q + 2) ∧ Fr (fun j => j = g) w w' := by
  have hgl := hr.lt
  go_enter Tryz.func18, Tryz.ntmps18
  go_wp2_with fail
  refine (l2Copy_any _ _ l1 l2 _ ((h1.alloc _).alloc _) ((h2.alloc _).alloc _) (by omega) (by omega) (by omega) (by omega)).mono ?_
  rintro e w1 ⟨u1, u2, rfl, hst, hb⟩
  obtain ⟨g1, c1, rfl, hg1, hgu1⟩ := own_at hst.one (by omega)
  obtain ⟨g2, c2, rfl, hg2, hgu2⟩ := own_at hst.two (by omega)
  have hz1 : w.heap.size + 1 < w1.heap.size := by have := hb.size; simp at this; omega
  simp at hg1 hg2
  rw [World.size_alloc] at hst
  have D0 := DrSt.start (w := w.alloc (.cells #[v1, v2] 25)) hst (hr.keep (below_alloc _ _)) hb rfl
  simp only [World.size_alloc] at D0
  clear hst hb hr h1 h2
  rw [hl1, hl2] at D0
  rw [hl1, hl2]
  have E8 := Lib.hid hl1
  have E8' := Lib.hid hl2
  clear hl1 hl2
  go_wp2_with fail
  refine (pick_any g q _ _ D0.rdr (by omega) (by omega) (by omega)).mono ?_
  rintro e w2 ⟨k, rfl, hk, hr1, hf1⟩
  have D := D0.drawn hr1 hf1 (by omega) (by omega) (by omega)
  clear D0 hr1 hf1
  have hc0 := box0 D.boxB
  have hc1 := box1 D.boxB
  have hzz := box_lt D.boxB
  have hgl2 := D.rdr.lt
  have ha0 := box0 D.boxA
  have ha1 := box1 D.boxA
  have haz := boxz D.boxA 0
  have haz1 := boxz D.boxA 1
  have HD := Lib.hid D
  clear D
  by_cases k0 : k = 0
  · subst k0
    have hlit := lit_ints w2 [9, -1, 9223372036854775807] (by decide)
    have HLIT := Lib.hid hlit
    have D0 := Lib.hid (show DrSt (w.alloc (.cells #[v1, v2] 25)) w2 g (q + 1) (w.heap.size + 1 + 1) (w.heap.size + 1) w1.heap.size (.slice (some ⟨g1, 0, none⟩) l1.length c1) (.slice (some ⟨g2, 0, none⟩) 8 c2) l1 l2 from by rw [E8.out]; exact HD.out)
    clear hlit HD
    go_wp2
    go_region_held3 (fun w' => w'.cell? ⟨w1.heap.size, 0, none⟩ = some (.slice (some ⟨g1, 0, none⟩) 8 c1))
      (first
        | exact hc0
        | exact cell_keep (bt (below_alloc w2 _) (below_drew _)) hc0
        | (have hh := box0 D6.boxB; rw [E8.out] at hh; rw [World.cell?_of_block (w := w6) (Below.heap_setCell _ _ _ _ (by simp; omega))]; exact hh)
        | (have hh := box0 D6.boxB; rw [E8.out] at hh; exact hh))
      (first
        | (go_at_call 60; refine (num_any g (q + 1) _ [9, -1, 9223372036854775807] _ ((D0.out.keep (bt (below_alloc w2 _) (below_drew _))).rdr) (HLIT.out.keep (below_drew _)) (by omega) (by decide) (by decide) (fun k hk e => by simp [Value.ownBlock] at hk; have := D0.out.rdr.lt; omega)).mono ?_; rintro e w6 ⟨x, _, rfl, hr6, hf6⟩; have D6 := (D0.out.keep (bt (below_alloc w2 _) (below_drew _))).drawn hr6 hf6 (by omega) (by omega) (by omega); obtain ⟨hck6, hfz6⟩ := own_cell D6.own.one 0 (by rw [E8.out]; omega)))
    have D7 := D6.set1 0 x (by simp; omega) (by omega) (by omega) (by omega)
    rw [E8.out] at D7
    have hF := Lib.hid (D7.done (by omega) (by simp) (by simp; omega) (.slice (some ⟨g1, 0, none⟩) 8 c1) (.slice (some ⟨g2, 0, none⟩) 8 c2))
    have hc0 := box0 D7.boxB
    have hc1 := box1 D7.boxB
    have ha0 := box0 D7.boxA
    have ha1 := box1 D7.boxA
    have haz := boxz D7.boxA 0
    have haz1 := boxz D7.boxA 1
    clear D6 D0 D7 hf6 hck6 hfz6 hr6 HLIT
    go_wp2
    refine bodyPost_ret (v := .agg #[.slice (some ⟨g1, 0, none⟩) 8 c1, .slice (some ⟨g2, 0, none⟩) 8 c2]) (by simp [results, Tryz.results18, go_sem, ha0, ha1]) rfl ?_
    refine ⟨_, _, (l1.set 0 x), l2, rfl, by (try rw [List.length_set]); have := E8.out; omega, by (try rw [List.length_set]); have := E8'.out; omega, hF.out.1.mono (by omega), hF.out.2.1.more (by omega), ?_⟩
    exact ((Below.fr (below_alloc w _)).mono fun _ _ h => h.elim).trans hF.out.2.2
  · have kb0 : ((k : Int) == 0) = false := by simp; omega
    by_cases k1 : k = 1
    · subst k1
      have hlit := lit_ints w2 [9, -2, -1] (by decide)
      have HLIT := Lib.hid hlit
      have D0 := Lib.hid (show DrSt (w.alloc (.cells #[v1, v2] 25)) w2 g (q + 1) (w.heap.size + 1 + 1) (w.heap.size + 1) w1.heap.size (.slice (some ⟨g1, 0, none⟩) 8 c1) (.slice (some ⟨g2, 0, none⟩) l2.length c2) l1 l2 from by rw [E8'.out]; exact HD.out)
      clear hlit HD
      go_wp2
      go_region_held3 (fun w' => w'.cell? ⟨w1.heap.size, 1, none⟩ = some (.slice (some ⟨g2, 0, none⟩) 8 c2))
        (first
          | exact hc1
          | exact cell_keep (bt (below_alloc w2 _) (below_drew _)) hc1
          | (have hh := box1 D6.boxB; rw [E8'.out] at hh; rw [World.cell?_of_block (w := w6) (Below.heap_setCell _ _ _ _ (by simp; omega))]; exact hh)
          | (have hh := box1 D6.boxB; rw [E8'.out] at hh; exact hh))
        (first
          | (go_at_call 60; refine (num_any g (q + 1) _ [9, -2, -1] _ ((D0.out.keep (bt (below_alloc w2 _) (below_drew _))).rdr) (HLIT.out.keep (below_drew _)) (by omega) (by decide) (by decide) (fun k hk e => by simp [Value.ownBlock] at hk; have := D0.out.rdr.lt; omega)).mono ?_; rintro e w6 ⟨x, _, rfl, hr6, hf6⟩; have D6 := (D0.out.keep (bt (below_alloc w2 _) (below_drew _))).drawn hr6 hf6 (by omega) (by omega) (by omega); obtain ⟨hck6, hfz6⟩ := own_cell D6.own.two 0 (by rw [E8'.out]; omega)))
      have D7 := D6.set2 0 x (by simp; omega) (by omega) (by omega) (by omega)
      rw [E8'.out] at D7
      have hF := Lib.hid (D7.done (by omega) (by simp) (by simp; omega) (.slice (some ⟨g1, 0, none⟩) 8 c1) (.slice (some ⟨g2, 0, none⟩) 8 c2))
      have hc0 := box0 D7.boxB
      have hc1 := box1 D7.boxB
      have ha0 := box0 D7.boxA
      have ha1 := box1 D7.boxA
      have haz := boxz D7.boxA 0
      have haz1 := boxz D7.boxA 1
      clear D6 D0 D7 hf6 hck6 hfz6 hr6 HLIT
      go_wp2
      refine bodyPost_ret (v := .agg #[.slice (some ⟨g1, 0, none⟩) 8 c1, .slice (some ⟨g2, 0, none⟩) 8 c2]) (by simp [results, Tryz.results18, go_sem, ha0, ha1]) rfl ?_
      refine ⟨_, _, l1, (l2.set 0 x), rfl, by (try rw [List.length_set]); have := E8.out; omega, by (try rw [List.length_set]); have := E8'.out; omega, hF.out.1.mono (by omega), hF.out.2.1.more (by omega), ?_⟩
      exact ((Below.fr (below_alloc w _)).mono fun _ _ h => h.elim).trans hF.out.2.2
    · have kb1 : ((k : Int) == 1) = false := by simp; omega
      by_cases k2 : k = 2
      · subst k2
        have hn2 : ¬ w1.heap.size = g2 := by omega
        go_wp2_with (at_builtin; go_must (refine app_int2 _ rfl _ _ rfl (w.heap.size + 1 + 1) _ l2 rfl (own_keep HD.out.own.two (below_alloc _ _)) ⟨w2.heap.size, 0, none⟩ _ rfl (cell_new1 _ _ _) (by have := E8'.out; omega) (by simp; omega) ?_); go_must (intro v' w4 hown4 hf4 hlie4; obtain ⟨g3, c3, rfl, hg3, hgu3⟩ := own_at hown4 (by simp); have hbA4 := box_kept (box_keep HD.out.boxA (below_alloc _ _)) hf4 (fun e => by have e' : _ = g2 := Option.some.inj e; omega); have hbB4 := box_kept (box_keep HD.out.boxB (below_alloc _ _)) hf4 (fun e => by have e' : _ = g2 := Option.some.inj e; omega); have hd0 := box0 hbB4; have hd1 := box1 hbB4; have hdz := boxz hbB4 1; have ha0 := box0 hbA4; have ha1 := box1 hbA4; have haz := boxz hbA4 0; have haz1 := boxz hbA4 1; have H4 := Lib.hid (And.intro hown4 (And.intro hf4 hlie4)); clear hown4 hf4 hlie4))
        refine bodyPost_ret (v := .agg #[.slice (some ⟨g1, 0, none⟩) 8 c1, .slice (some ⟨g3, 0, none⟩) (l2 ++ [-1]).length c3]) (by simp [results, Tryz.results18, go_sem, ha0, ha1]) rfl ?_
        obtain ⟨hown4, hf4, hlie4⟩ := H4.out
        have hD := HD.out
        have e9 : (l2 ++ [(-1 : Int)]).length ≤ 9 := by have := E8'.out; simp; omega
        have hwf : Fr (fun j => j = g) w w4 := (((Below.fr (below_alloc w _)).mono fun _ _ h => h.elim).trans hD.fr |>.thenB (below_alloc _ _)).then hf4 (fun i hi e => by have e' : i = g2 := Option.some.inj e; omega)
        have hgz : g < w4.heap.size := by have := hf4.size; simp at this; omega
        have hO : OwnSt w4 (w.heap.size + 1 + 1) (.slice (some ⟨g1, 0, none⟩) 8 c1) (.slice (some ⟨g3, 0, none⟩) (l2 ++ [-1]).length c3) l1 (l2 ++ [-1]) :=
          ⟨own_kept (own_keep hD.own.one (below_alloc _ _)) hf4 (fun k hk e => hD.own.apart k hk e), hown4, fun k hk hk3 => by
            have hlt := own_ub hD.own.one k hk
            rcases hlie4 k hk3 with h | h
            · exact hD.own.apart k hk h
            · simp at h; omega⟩
        have hR : Rdr w4 g (q + 1) := (hD.rdr.keep (below_alloc _ _)).kept hf4 (fun k h1 e => by have e' : k = g2 := Option.some.inj e; omega)
        refine ⟨_, _, l1, l2 ++ [-1], rfl, by have := E8.out; omega, e9, ?_, ?_, ?_⟩
        · refine ((OwnSt.kept (w := w4.setCell ⟨w1.heap.size, 1, none⟩ _) ⟨own_kept hO.one (fr_set _ _ _) ?_, own_kept hO.two (fr_set _ _ _) ?_, hO.apart⟩ (fr_set _ _ _) (fun k h1 _ e => by simp at e; omega)).kept (fr_set _ _ _) (fun k h1 _ e => by simp at e; omega)).mono (by omega)
          · intro k hk e
            have hk' : k = g1 := Option.some.inj hk
            simp at e; omega
          · intro k hk e
            simp at e
            rcases hlie4 k hk with h | h
            · have h' : k = g2 := Option.some.inj h
              omega
            · simp at h; omega
        · exact (((hR.kept (fr_set _ _ _) (fun k h1 e => by simp at e; omega)).kept (fr_set _ _ _) (fun k h1 e => by simp at e; omega)).kept (fr_set _ _ _) (fun k h1 e => by simp at e; omega)).more (by omega)
        · exact ((hwf.then (fr_set _ _ _) (fun i hi e => by simp at e; omega)).then (fr_set _ _ _) (fun i hi e => by simp at e; omega)).then (fr_set _ _ _) (fun i hi e => by simp at e; omega)
      · have kb2 : ((k : Int) == 2) = false := by simp; omega
        by_cases k3 : k = 3
        · subst k3
          have hF := Lib.hid (HD.out.done (by omega) (by simp) (by simp; omega) (.slice none 0 0) (.slice none 0 0))
          clear HD
          go_wp2
          refine bodyPost_ret (v := .agg #[.slice none 0 0, .slice none 0 0]) (by simp [results, Tryz.results18, go_sem, ha0, ha1]) rfl ?_
          refine ⟨_, _, [], [], rfl, by simp, by simp, own_nil _ _, hF.out.2.1.more (by omega), ?_⟩
          exact ((Below.fr (below_alloc w _)).mono fun _ _ h => h.elim).trans hF.out.2.2
        · have kb3 : ((k : Int) == 3) = false := by simp; omega
          have hF := Lib.hid (HD.out.done (by omega) (by simp) (by simp; omega) (.slice (some ⟨g1, 0, none⟩) 8 c1) (.slice (some ⟨g2, 0, none⟩) 8 c2))
          clear HD
          go_wp2
          refine bodyPost_ret (v := .agg #[.slice (some ⟨g1, 0, none⟩) 8 c1, .slice (some ⟨g2, 0, none⟩) 8 c2]) (by simp [results, Tryz.results18, go_sem, ha0, ha1]) rfl ?_
          refine ⟨_, _, l1, l2, rfl, by have := E8.out; omega, by have := E8'.out; omega, hF.out.1.mono (by omega), hF.out.2.1.more (by omega), ?_⟩
          exact ((Below.fr (below_alloc w _)).mono fun _ _ h => h.elim).trans hF.out.2.2
end Go.Proofs.YtgfnoinkajfndaaGreat
namespace Go.Proofs.YtgfnoinkajfndaaGreat
open Go.RowKit

theorem RBytes.keep {w w' : World} {v : Value} {n : Nat} (h : RBytes w v n) (hb : Below w.heap.size w w') : RBytes w' v n := by
  obtain ⟨c, hr, hc⟩ := h
  exact ⟨c, hr.keep hb, hc⟩

end Go.Proofs.YtgfnoinkajfndaaGreat
/- Walks: draws that pass others on. -/
namespace Go.Proofs.YtgfnoinkajfndaaGreat
open Go.RowKit

end Go.Proofs.YtgfnoinkajfndaaGreat
