/- Walks: drawing states. -/
import Derived.Test.YtnhhfbhhglhocaaDr1
namespace Go.Proofs.Ytnhhfbhhglhocaa
open Go.RowKit

theorem own_set {w : World} {B g cap : Nat} {l : List Int} (h : w.ownsRow B 3 1 (.slice (some ⟨g, 0, none⟩) l.length cap) l.length (ints l)) (i : Nat) (x : Int) :
    (w.setCell ⟨g, i, none⟩ (.int .i64 x)).ownsRow B 3 1 (.slice (some ⟨g, 0, none⟩) l.length cap) (l.set i x).length (ints (l.set i x)) := by
  have := (h.stored i (.int .i64 x)).1
  rw [List.length_set]
  have e : (ints l).set i (.int .i64 x) = ints (l.set i x) := by simp [ints, List.map_set]
  rwa [e] at this

theorem OwnSt.set1 {w : World} {B g cap : Nat} {v2 : Value} {l1 l2 : List Int} (h : OwnSt w B (.slice (some ⟨g, 0, none⟩) l1.length cap) v2 l1 l2) (i : Nat) (x : Int) :
    OwnSt (w.setCell ⟨g, i, none⟩ (.int .i64 x)) B (.slice (some ⟨g, 0, none⟩) l1.length cap) v2 (l1.set i x) l2 :=
  ⟨own_set h.one i x, own_kept h.two (fr_set w _ _) (fun k hk e => h.apart k (by rw [e]; rfl) hk), fun k h1 => h.apart k (by simpa [Value.ownBlock] using h1)⟩

theorem OwnSt.set2 {w : World} {B g cap : Nat} {v1 : Value} {l1 l2 : List Int} (h : OwnSt w B v1 (.slice (some ⟨g, 0, none⟩) l2.length cap) l1 l2) (i : Nat) (x : Int) :
    OwnSt (w.setCell ⟨g, i, none⟩ (.int .i64 x)) B v1 (.slice (some ⟨g, 0, none⟩) l2.length cap) l1 (l2.set i x) :=
  ⟨own_kept h.one (fr_set w _ _) (fun k hk e => h.apart k hk (by rw [e]; rfl)), own_set h.two i x, fun k h1 h2 => h.apart k h1 (by simpa [Value.ownBlock] using h2)⟩

/-- A slice of 8 that is owned lies in memory. -/
theorem own_at {w : World} {B : Nat} {v : Value} {l : List Int} (h : w.ownsRow B 3 1 v l.length (ints l)) (hl : 0 < l.length) : ∃ g cap, v = .slice (some ⟨g, 0, none⟩) l.length cap ∧ B ≤ g ∧ g < w.heap.size := by
  rcases h.2 with ⟨_, h0⟩ | ⟨g, cap, cur, rfl, hb, hg, _⟩
  · omega
  · exact ⟨g, cap, rfl, hb, (Array.getElem?_eq_some_iff.1 hg).1⟩

theorem own_cell {w : World} {B g cap : Nat} {l : List Int} (h : w.ownsRow B 3 1 (.slice (some ⟨g, 0, none⟩) l.length cap) l.length (ints l)) (i : Nat) (hi : i < l.length) :
    w.cell? ⟨g, i, none⟩ = some (.int .i64 (gi l i)) ∧ w.frozen? ⟨g, i, none⟩ = false := by
  refine ⟨?_, h.frozenAt i⟩
  rw [h.cellAt i (by omega)]
  simp [ints, hi, gi]

theorem lit_ints (w : World) (l : List Int) (hl : l.length ≤ 1048576) : RInts (w.alloc (.cells (ints l).toArray 3)) (.slice (some ⟨w.heap.size, 0, none⟩) l.length l.length) l := by
  have := World.ownsRow_lit (size := 1) w (ints l).toArray l.length (Nat.le_refl _) (by unfold maxLen; omega) (by simp) (e := 3)
  exact (own_ints (l := l) (by simpa using this)).1

theorem Fr.then {S S' : Nat → Prop} {a b c : World} (h : Fr S a b) (k : Fr S' b c) (hs : ∀ i, i < a.heap.size → S' i → S i) : Fr S a c :=
  ⟨k.os.trans h.os, k.tape.trans h.tape, k.output.trans h.output, Nat.le_trans h.size k.size,
    fun i hi hn => (k.block i (Nat.lt_of_lt_of_le hi h.size) (fun hS => hn (hs i hi hS))).trans (h.block i hi hn)⟩
theorem Fr.thenB {S : Nat → Prop} {a b c : World} (h : Fr S a b) (k : Below b.heap.size b c) : Fr S a c := h.then (Below.fr k) fun _ _ h => h.elim

/-- A state that is being drawn: its slices, the reader, the box of the result, its own box; what was there when the call began. -/
structure DrSt (w0 w : World) (g q B bA bB : Nat) (v1 v2 : Value) (l1 l2 : List Int) : Prop where
  own : OwnSt w B v1 v2 l1 l2
  rdr : Rdr w g q
  boxA : w.heap[bA]? = some (.cells #[.slice none 0 0, .slice none 0 0] 34 (0, 0))
  boxB : w.heap[bB]? = some (.cells #[v1, v2] 34 (0, 0))
  fr : Fr (fun j => j = g) w0 w

section
variable {w0 w w' : World} {g q q' B bA bB : Nat} {v1 v2 : Value} {l1 l2 : List Int}
theorem DrSt.keep (h : DrSt w0 w g q B bA bB v1 v2 l1 l2) (hb : Below w.heap.size w w') : DrSt w0 w' g q B bA bB v1 v2 l1 l2 :=
  ⟨h.own.keep hb, h.rdr.keep hb, box_keep h.boxA hb, box_keep h.boxB hb, h.fr.thenB hb⟩
theorem DrSt.drawn (h : DrSt w0 w g q B bA bB v1 v2 l1 l2) (hr : Rdr w' g q') (hf : Fr (fun j => j = g) w w') (hB : g < B) (hA : ¬ bA = g) (hbB : ¬ bB = g) : DrSt w0 w' g q' B bA bB v1 v2 l1 l2 :=
  ⟨h.own.kept hf (fun k h1 _ e => by omega), hr, box_kept h.boxA hf hA, box_kept h.boxB hf hbB, h.fr.trans hf⟩
theorem DrSt.set2 {g2 c2 : Nat} (h : DrSt w0 w g q B bA bB v1 (.slice (some ⟨g2, 0, none⟩) l2.length c2) l1 l2) (i : Nat) (x : Int) (h0 : w0.heap.size ≤ g2) (hA : ¬ bA = g2) (hB : ¬ bB = g2) (hg : g < g2) :
    DrSt w0 (w.setCell ⟨g2, i, none⟩ (.int .i64 x)) g q B bA bB v1 (.slice (some ⟨g2, 0, none⟩) l2.length c2) l1 (l2.set i x) :=
  ⟨h.own.set2 i x, h.rdr.kept (fr_set _ _ _) (fun k hk e => by simp at e; omega), box_other h.boxA _ _ hA, box_other h.boxB _ _ hB, h.fr.then (fr_set _ _ _) (fun k hk e => by simp at e; omega)⟩
theorem DrSt.set1 {g1 c1 : Nat} (h : DrSt w0 w g q B bA bB (.slice (some ⟨g1, 0, none⟩) l1.length c1) v2 l1 l2) (i : Nat) (x : Int) (h0 : w0.heap.size ≤ g1) (hA : ¬ bA = g1) (hB : ¬ bB = g1) (hg : g < g1) :
    DrSt w0 (w.setCell ⟨g1, i, none⟩ (.int .i64 x)) g q B bA bB (.slice (some ⟨g1, 0, none⟩) l1.length c1) v2 (l1.set i x) l2 :=
  ⟨h.own.set1 i x, h.rdr.kept (fr_set _ _ _) (fun k hk e => by simp at e; omega), box_other h.boxA _ _ hA, box_other h.boxB _ _ hB, h.fr.then (fr_set _ _ _) (fun k hk e => by simp at e; omega)⟩
end

set_option maxHeartbeats 3200000 in
theorem l2Draw_any (g q : Nat) (w : World) (hr : Rdr w g q) (hq : q ≤ 1000000) :
    Calls Try.prog 137 #[.pointer (some ⟨g, 0, none⟩)] w fun e w' => ∃ v1 v2 l1 l2, e = .returned (.agg #[v1, v2]) ∧ l1.length = 8 ∧ l2.length = 8 ∧ OwnSt w' w.heap.size v1 v2 l1 l2 ∧ Rdr w' g (q + 40) ∧ Fr (fun j => j = g) w w' := by
  have hgl := hr.lt
  go_enter Try.func137, Try.ntmps137
  go_wp2_with fail
  refine (l2Blank_any _).mono ?_
  rintro e w1 ⟨v1, v2, rfl, hst, hb⟩
  obtain ⟨g1, c1, rfl, hg1, _⟩ := own_at hst.one (by rw [reps_len]; omega)
  obtain ⟨g2, c2, rfl, hg2, _⟩ := own_at hst.two (by rw [reps_len]; omega)
  have hres := box_keep (heap_alloc_new w (.cells #[.slice none 0 0, .slice none 0 0] 34)) hb
  have hr1 := (hr.keep (below_alloc w _)).keep hb
  have hz1 : w.heap.size < w1.heap.size := by have := hb.size; simp at this; omega
  have hb01 := bt (below_alloc w _) hb
  simp at hg1 hg2
  have hst' : OwnSt w1 (w.heap.size + 1) (.slice (some ⟨g1, 0, none⟩) (reps 0 8).length c1) (.slice (some ⟨g2, 0, none⟩) (reps (-1) 8).length c2) (reps 0 8) (reps (-1) 8) := by simpa using hst
  have e8 : (reps 0 8).length = 8 := reps_len 0 8
  have e8' : (reps (-1) 8).length = 8 := reps_len (-1) 8
  clear hst hb
  rw [e8, e8'] at hst'
  rw [e8, e8']
  go_wp2
  go_loopg [4] 8 (fun k i wr => ∃ (j : Nat) (l1 : List Int), j + k = 8 ∧ i = .int .i64 j ∧ l1.length = 8 ∧ OwnSt wr (w.heap.size + 1) (.slice (some ⟨g1, 0, none⟩) 8 c1) (.slice (some ⟨g2, 0, none⟩) 8 c2) l1 (reps (-1) 8) ∧ Rdr wr g (q + j) ∧
    wr.heap[w.heap.size]? = some (.cells #[.slice none 0 0, .slice none 0 0] 34 (0, 0)) ∧ wr.heap[w1.heap.size]? = some (.cells #[.slice (some ⟨g1, 0, none⟩) 8 c1, .slice (some ⟨g2, 0, none⟩) 8 c2] 34 (0, 0)) ∧ Fr (fun j => j = g) w wr)
  case atStart => exact ⟨0, _, by omega, rfl, e8, hst'.keep (below_alloc _ _), hr1.keep (below_alloc _ _), box_keep hres (below_alloc _ _), by have := heap_alloc_new w1 (.cells #[.slice (some ⟨g1, 0, none⟩) 8 c1, .slice (some ⟨g2, 0, none⟩) 8 c2] 34); exact this, ((Below.fr hb01).mono fun _ _ h => h.elim).thenB (below_alloc _ _)⟩
  case round =>
    obtain ⟨j, l1, hk, rfl, hl1, hst, hr, hbA, hbB, hf⟩ := hrel
    have HK := Lib.hid hk
    have HBA := Lib.hid hbA
    have HBB := Lib.hid hbB
    have HL1 := Lib.hid hl1
    have hst1 : OwnSt wr (w.heap.size + 1) (.slice (some ⟨g1, 0, none⟩) l1.length c1) (.slice (some ⟨g2, 0, none⟩) 8 c2) l1 (reps (-1) 8) := by rw [hl1]; exact hst
    have hzz := box_lt hbB
    have hc0 := box0 hbB
    have hc1 := box1 hbB
    clear hk hbA hbB hst hl1
    by_cases hk8 : j < 8
    · obtain ⟨hck, hfz⟩ := own_cell hst1.one j (by rw [HL1.out]; exact hk8)
      have hgs := own_ub hst1.one g1 rfl
      have n1 : ¬ w1.heap.size = g := by have := hr1.lt; omega
      have hji : (j : Int) < 8 := by omega
      go_wp2
      go_region_held3 (fun w' => w'.cell? ⟨w1.heap.size, 0, none⟩ = some (.slice (some ⟨g1, 0, none⟩) 8 c1))
        (first
          | exact hc0
          | exact cell_keep (bt (below_alloc wr _) (below_drew _)) hc0
          | exact hf3.cell n1 (cell_keep (bt (below_alloc wr _) (below_drew _)) hc0)
          | (rw [World.cell?_of_block (w := w3) (Below.heap_setCell _ _ _ _ (by simp; omega))]; exact hf3.cell n1 (cell_keep (bt (below_alloc wr _) (below_drew _)) hc0)))
        (first
          | (go_at_call 86; refine (num_any g (q + j) _ [1, 2, 0, 3, 4, 1, 5] _ ((hr.keep (below_drew _)).keep (below_alloc _ _)) (lit_ints _ [1, 2, 0, 3, 4, 1, 5] (by decide)) (by omega) (by decide) (by decide) (fun k hk e => by simp [Value.ownBlock] at hk; omega)).mono ?_; rintro e w3 ⟨n, _, rfl, hr3, hf3⟩; have hst3 := OwnSt.kept (hst1.keep (bt (below_alloc wr _) (below_drew _))) hf3 (fun k h1 h2 e => by omega); obtain ⟨hck3, hfz3⟩ := own_cell hst3.one j (by rw [HL1.out]; exact hk8)))
      have hfw : Fr (fun j => j = g) w (w3.setCell ⟨g1, j, none⟩ (.int .i64 n)) :=
        ((hf.thenB (bt (below_alloc wr _) (below_drew _))).trans hf3).then (fr_set _ _ _) (fun i hi e => by simp at e; omega)
      have HS := Lib.hid (hst3.set1 j n)
      have HR := Lib.hid (hr3.kept (fr_set w3 ⟨g1, j, none⟩ (.int .i64 n)) (fun k hk e => by simp at e; omega))
      have HA := Lib.hid (box_other (box_kept (box_keep HBA.out (bt (below_alloc wr _) (below_drew _))) hf3 (by omega)) ⟨g1, j, none⟩ (.int .i64 n) (by simp; omega))
      have HB := Lib.hid (box_other (box_kept (box_keep HBB.out (bt (below_alloc wr _) (below_drew _))) hf3 n1) ⟨g1, j, none⟩ (.int .i64 n) (by simp; omega))
      clear hf3 hst3 hck3 hfz3 hr3 hst1 hck hfz hf hr
      go_wp2
      go_roundg (gk - 1)
      case rel => exact ⟨j + 1, l1.set j n, by have := HK.out; omega, by go_num, by rw [List.length_set]; exact HL1.out, by rw [HL1.out] at HS; exact HS.out, HR.out, HA.out, HB.out, hfw⟩
      case measure => have := HK.out; omega
    · obtain rfl : j = 8 := by have := HK.out; omega
      obtain ⟨wo, rfl⟩ : ∃ wo : World, wo = wr := ⟨_, rfl⟩
      have hgs := own_ub hst1.one g1 rfl
      have n1 : ¬ w1.heap.size = g := by have := hr1.lt; omega
      have hzo := hf.size
      go_wp2_with fail
      refine (num_any g (q + 8) _ [3, 4, 2, 5, 1, 0, 8] _ (hr.keep (below_alloc _ _)) (lit_ints _ [3, 4, 2, 5, 1, 0, 8] (by decide)) (by omega) (by decide) (by decide) (fun k hk e => by simp [Value.ownBlock] at hk; omega)).mono ?_
      rintro e w4 ⟨n0, hn0, rfl, hr4, hf4⟩
      have hst4 := OwnSt.kept (hst1.keep (below_alloc wo _)) hf4 (fun k h1 h2 e => by omega)
      have hA4 := box_kept (box_keep HBA.out (below_alloc wo _)) hf4 (by omega)
      have hB4 := box_kept (box_keep HBB.out (below_alloc wo _)) hf4 n1
      have hfw4 := (hf.thenB (below_alloc wo _)).trans hf4
      have hn8 : 0 ≤ n0 ∧ n0 ≤ 8 := by simp at hn0; omega
      clear hr hst1 hf4 hf hc0 hc1 HBA HBB hn0
      go_wp2
      go_loopg [5] 8 (fun k i wr => ∃ (j : Nat) (l1 l2 : List Int), j ≤ k ∧ k ≤ 8 ∧ i = .int .i64 j ∧ l1.length = 8 ∧ l2.length = 8 ∧ OwnSt wr (w.heap.size + 1) (.slice (some ⟨g1, 0, none⟩) 8 c1) (.slice (some ⟨g2, 0, none⟩) 8 c2) l1 l2 ∧ Rdr wr g (q + 9 + 2 * (8 - k)) ∧
        wr.heap[w.heap.size]? = some (.cells #[.slice none 0 0, .slice none 0 0] 34 (0, 0)) ∧ wr.heap[w1.heap.size]? = some (.cells #[.slice (some ⟨g1, 0, none⟩) 8 c1, .slice (some ⟨g2, 0, none⟩) 8 c2] 34 (0, 0)) ∧ Fr (fun j => j = g) w wr)
      case atStart => exact ⟨n0.toNat, l1, _, by omega, Nat.le_refl _, by rw [Int.toNat_of_nonneg hn8.1], HL1.out, e8', by rw [HL1.out] at hst4; exact hst4, hr4, hA4, hB4, hfw4⟩
      case round =>
        clear hst4 hr4 hA4 hB4 hfw4
        obtain ⟨j, m1, l2, hjk, hk8, rfl, hm1, hl2, hst, hr, hbA, hbB, hf⟩ := hrel
        have HBA := Lib.hid hbA
        have HBB := Lib.hid hbB
        have HM1 := Lib.hid hm1
        have HL2 := Lib.hid hl2
        have hst2 : OwnSt wr (w.heap.size + 1) (.slice (some ⟨g1, 0, none⟩) 8 c1) (.slice (some ⟨g2, 0, none⟩) l2.length c2) m1 l2 := by rw [hl2]; exact hst
        have hzz := box_lt hbB
        have hc0 := box0 hbB
        have hc1 := box1 hbB
        clear hbA hbB hst hm1 hl2
        by_cases hj0 : 0 < j
        · have hgs2 := own_ub hst2.two g2 rfl
          go_wp2
          have D0 : DrSt w wr g (q + 9 + 2 * (8 - gk)) (w.heap.size + 1) w.heap.size w1.heap.size (.slice (some ⟨g1, 0, none⟩) 8 c1) (.slice (some ⟨g2, 0, none⟩) l2.length c2) m1 l2 := ⟨hst2, hr, HBA.out, by rw [HL2.out]; exact HBB.out, hf⟩
          have hlit := lit_ints wr [0, 2, 3, 1, 4, 5] (by decide)
          have HLIT := Lib.hid hlit
          clear hlit hst2 hr hf HBA HBB hc0
          go_region_held3 (fun w' => w'.cell? ⟨w1.heap.size, 1, none⟩ = some (.slice (some ⟨g2, 0, none⟩) 8 c2))
            (first
              | exact hc1
              | exact cell_keep (bt (below_alloc wr _) (below_drew _)) hc1
              | (have hh := box1 D6.boxB; rw [HL2.out] at hh; rw [World.cell?_of_block (w := w6) (Below.heap_setCell _ _ _ _ (by simp; omega))]; exact hh)
              | (have hh := box1 D6.boxB; rw [HL2.out] at hh; exact hh)
              | (have hh := box1 D5.boxB; rw [HL2.out] at hh; exact hh)
              | (have hh := box1 D5.boxB; rw [HL2.out] at hh; exact cell_keep (below_alloc w5 _) hh))
            (first
              | (go_at_call 85; refine (pick_any g (q + 9 + 2 * (8 - gk)) _ _ (by first | exact (D0.keep (below_drew wr)).rdr | exact (D0.keep (bt (below_alloc wr _) (below_drew _))).rdr) (by omega) (by omega) (by omega)).mono ?_; rintro e w5 ⟨i0, rfl, hi0, hr5, hf5⟩; have D5 : DrSt w w5 g (q + 9 + 2 * (8 - gk) + 1) (w.heap.size + 1) w.heap.size w1.heap.size (.slice (some ⟨g1, 0, none⟩) 8 c1) (.slice (some ⟨g2, 0, none⟩) l2.length c2) m1 l2 := (by first | exact (D0.keep (below_drew wr)).drawn hr5 hf5 (by omega) (by omega) (by omega) | exact (D0.keep (bt (below_alloc wr _) (below_drew _))).drawn hr5 hf5 (by omega) (by omega) (by omega)); have LIT5 : wr.heap.size < w5.heap.size → RInts w5 (.slice (some ⟨wr.heap.size, 0, none⟩) 6 6) [0, 2, 3, 1, 4, 5] ∨ True := (fun _ => by first | exact .inl (RInts.kept (HLIT.out.keep (below_drew _)) hf5 (fun k hk e => by simp [Value.ownBlock] at hk; omega)) | exact .inr trivial))
              | (go_at_call 86; refine (num_any g (q + 9 + 2 * (8 - gk) + 1) _ [0, 2, 3, 1, 4, 5] _ (by first | exact D5.rdr | exact (D5.keep (below_alloc w5 _)).rdr) (by first | exact lit_ints w5 [0, 2, 3, 1, 4, 5] (by decide) | exact RInts.kept (HLIT.out.keep (below_drew _)) hf5 (fun k hk e => by simp [Value.ownBlock] at hk; omega)) (by omega) (by decide) (by decide) (fun k hk e => by simp [Value.ownBlock] at hk; have := D5.rdr.lt; omega)).mono ?_; rintro e w6 ⟨n, _, rfl, hr6, hf6⟩; have D6 : DrSt w w6 g (q + 9 + 2 * (8 - gk) + 1 + 1) (w.heap.size + 1) w.heap.size w1.heap.size (.slice (some ⟨g1, 0, none⟩) 8 c1) (.slice (some ⟨g2, 0, none⟩) l2.length c2) m1 l2 := (by first | exact D5.drawn hr6 hf6 (by omega) (by omega) (by omega) | exact (D5.keep (below_alloc w5 _)).drawn hr6 hf6 (by omega) (by omega) (by omega)); obtain ⟨hck6, hfz6⟩ := own_cell D6.own.two i0 (by rw [HL2.out]; omega)))
          all_goals
            have D7 := D6.set2 i0 n (by omega) (by omega) (by omega) (by omega)
            have HD7 := Lib.hid D7
            clear D7 D6 D5 D0 hf5 hf6 hck6 hfz6 hr5 hr6 HLIT
            go_wp2
            go_roundg (gk - 1)
            case rel => exact ⟨j - 1, m1, l2.set i0 n, by omega, by omega, by rw [show ((j - 1 : Nat) : Int) = (j : Int) - 1 by omega], HM1.out, by rw [List.length_set]; exact HL2.out, by have := HD7.out.own; rw [HL2.out] at this; exact this, HD7.out.rdr.more (by omega), HD7.out.boxA, by have := HD7.out.boxB; rw [HL2.out] at this; exact this, HD7.out.fr⟩
            case measure => omega
        · obtain rfl : j = 0 := by omega
          have ha0 := box0 HBA.out
          have ha1 := box1 HBA.out
          have haz := boxz HBA.out 0
          have haz1 := boxz HBA.out 1
          go_wp2
          refine bodyPost_ret (v := .agg #[.slice (some ⟨g1, 0, none⟩) 8 c1, .slice (some ⟨g2, 0, none⟩) 8 c2]) (by simp [results, Try.results137, go_sem, ha0, ha1]) rfl ?_
          refine ⟨_, _, m1, l2, rfl, HM1.out, HL2.out, ?_, ?_, ?_⟩
          · have h1 := OwnSt.kept hst2 (fr_set wr ⟨w.heap.size, 0, none⟩ (.slice (some ⟨g1, 0, none⟩) 8 c1)) (fun k h1 h2 e => by simp at e; omega)
            have h2 := OwnSt.kept h1 (fr_set _ ⟨w.heap.size, 1, none⟩ (.slice (some ⟨g2, 0, none⟩) 8 c2)) (fun k h1 h2 e => by simp at e; omega)
            rw [HL2.out] at h2
            exact h2.mono (by omega)
          · have h1 := hr.kept (fr_set wr ⟨w.heap.size, 0, none⟩ (.slice (some ⟨g1, 0, none⟩) 8 c1)) (fun k h1 e => by simp at e; omega)
            have h2 := h1.kept (fr_set _ ⟨w.heap.size, 1, none⟩ (.slice (some ⟨g2, 0, none⟩) 8 c2)) (fun k h1 e => by simp at e; omega)
            exact h2.more (by omega)
          · exact (hf.then (fr_set _ _ _) (fun i hi e => by simp at e; omega)).then (fr_set _ _ _) (fun i hi e => by simp at e; omega)
end Go.Proofs.Ytnhhfbhhglhocaa
