/- Walks: drawing states: opening the reader, blank states, places. -/
import Derived.Test.YtnhhfbhhglhocaaRd
import Derived.Test.YtnhhfbhhglhocaaL2
import Derived.Deep.RegionHeld3
namespace Go.Proofs.Ytnhhfbhhglhocaa
open Go.RowKit

/-- `v1`, `v2` are two apart owned slices of integers, from block `B` on. -/
structure OwnSt (w : World) (B : Nat) (v1 v2 : Value) (l1 l2 : List Int) : Prop where
  one : w.ownsRow B 3 1 v1 l1.length (ints l1)
  two : w.ownsRow B 3 1 v2 l2.length (ints l2)
  apart : ∀ k, some k = v1.ownBlock → ¬ some k = v2.ownBlock

theorem OwnSt.keep {w w' : World} {B : Nat} {v1 v2 : Value} {l1 l2 : List Int} (h : OwnSt w B v1 v2 l1 l2) (hb : Below w.heap.size w w') : OwnSt w' B v1 v2 l1 l2 :=
  ⟨own_keep h.one hb, own_keep h.two hb, h.apart⟩
theorem OwnSt.kept {w w' : World} {B : Nat} {v1 v2 : Value} {l1 l2 : List Int} {S : Nat → Prop} (h : OwnSt w B v1 v2 l1 l2) (hf : Fr S w w') (hs : ∀ k, B ≤ k → k < w.heap.size → ¬ S k) : OwnSt w' B v1 v2 l1 l2 :=
  ⟨own_kept h.one hf (fun k hk => hs k (own_lt h.one hk).1 (own_lt h.one hk).2), own_kept h.two hf (fun k hk => hs k (own_lt h.two hk).1 (own_lt h.two hk).2), h.apart⟩
theorem OwnSt.mono {w : World} {B B' : Nat} {v1 v2 : Value} {l1 l2 : List Int} (h : OwnSt w B v1 v2 l1 l2) (hB : B' ≤ B) : OwnSt w B' v1 v2 l1 l2 :=
  ⟨own_mono h.one hB, own_mono h.two hB, h.apart⟩

/-- A slice of bytes that came in. -/
def RBytes (w : World) (v : Value) (n : Nat) : Prop := ∃ c : Nat → Int, RSl w 1 v n (fun i => .int .u8 (c i)) ∧ ∀ i, 0 ≤ c i ∧ c i ≤ 255

set_option maxHeartbeats 400000 in
theorem l18Open_any (v : Value) (n : Nat) (w : World) (h : RBytes w v n) :
    Calls Try.prog 82 #[v] w fun e w' => e = .returned (.pointer (some ⟨w.heap.size, 0, none⟩)) ∧ Rdr w' w.heap.size 0 ∧ Below w.heap.size w w' := by
  obtain ⟨c, hr, hc⟩ := h
  have hform : ∃ a cap, v = .slice a n cap ∧ n ≤ cap ∧ cap ≤ maxLen ∧ (0 < n → ∃ b o, a = some ⟨b, o, none⟩ ∧ b < w.heap.size ∧ ∀ i, i < n → w.cell? ⟨b, o + i, none⟩ = some (.int .u8 (c i))) := by
    rcases hr with ⟨a, cap, rfl, h0, hcap, _⟩ | ⟨b, o, cap, rfl, h1, h2, h3⟩
    · exact ⟨a, cap, by rw [h0], by omega, hcap, fun h => by omega⟩
    · exact ⟨_, cap, rfl, h1, h2, fun hn => ⟨b, o, rfl, by have := World.block_lt_of_cell? w _ (h3 0 (by omega)); simpa using this, fun i hi => h3 i (by omega)⟩⟩
  obtain ⟨a, cap, rfl, hnc, hcm, hcells⟩ := hform
  have HC := Lib.hid hcells
  have HR := Lib.hid hr
  clear hcells hr
  unfold maxLen at hcm
  by_cases hn : n ≤ 2000
  · go_enter Try.func82, Try.ntmps82
    go_wp2
    go_ret
    refine ⟨rfl, ⟨a, n, cap, c, 0, (RSl.keep HR.out (below_alloc _ _)), hc, hn, Nat.le_refl _, ?_, heap_alloc_new w _⟩, below_alloc _ _⟩
    intro h0 k hk
    obtain ⟨b, o, rfl, hb, _⟩ := HC.out h0
    simp [Value.ownBlock] at hk
    omega
  · obtain ⟨b, o, rfl, hb, hcell⟩ := HC.out (by omega)
    clear HR
    go_enter Try.func82, Try.ntmps82
    go_wp2
    go_ret
    refine ⟨rfl, ⟨_, 2000, cap, c, 0, .inr ⟨b, o, cap, rfl, by omega, by unfold maxLen; omega, fun i hi => cell_keep (below_alloc _ _) (hcell i (by omega))⟩, hc, Nat.le_refl _, Nat.le_refl _, ?_, heap_alloc_new w _⟩, below_alloc _ _⟩
    intro _ k hk
    simp [Value.ownBlock] at hk
    omega

/-! ### A box of two cells -/
section
variable {w w' : World} {b : Nat} {x y z : Value} {T : TypeId}
theorem box0 (h : w.heap[b]? = some (.cells #[x, y] T (0, 0))) : w.cell? ⟨b, 0, none⟩ = some x := cell_of_row w b 0 _ _ _ h
theorem box1 (h : w.heap[b]? = some (.cells #[x, y] T (0, 0))) : w.cell? ⟨b, 1, none⟩ = some y := cell_of_row w b 1 _ _ _ h
theorem boxz (h : w.heap[b]? = some (.cells #[x, y] T (0, 0))) (i : Nat) : w.frozen? ⟨b, i, none⟩ = false := frozen_of_row w b i _ _ h
theorem box_set0 (h : w.heap[b]? = some (.cells #[x, y] T (0, 0))) (z : Value) : (w.setCell ⟨b, 0, none⟩ z).heap[b]? = some (.cells #[z, y] T (0, 0)) := by
  rw [heap_setCell_same w b 0 _ T z h]; rfl
theorem box_set1 (h : w.heap[b]? = some (.cells #[x, y] T (0, 0))) (z : Value) : (w.setCell ⟨b, 1, none⟩ z).heap[b]? = some (.cells #[x, z] T (0, 0)) := by
  rw [heap_setCell_same w b 1 _ T z h]; rfl
theorem box_lt {o : Obj} (h : w.heap[b]? = some o) : b < w.heap.size := (Array.getElem?_eq_some_iff.1 h).1
theorem box_kept {o : Obj} {S : Nat → Prop} (h : w.heap[b]? = some o) (hf : Fr S w w') (hs : ¬ S b) : w'.heap[b]? = some o := by
  rw [hf.block b (box_lt h) hs]; exact h
theorem box_keep {o : Obj} (h : w.heap[b]? = some o) (hf : Below w.heap.size w w') : w'.heap[b]? = some o := by
  rw [hf.block b (box_lt h)]; exact h
theorem box_other {o : Obj} (h : w.heap[b]? = some o) (p : Addr) (v : Value) (hp : ¬ b = p.block) : (w.setCell p v).heap[b]? = some o := by
  rw [Below.heap_setCell _ _ _ _ hp]; exact h
theorem fr_set (w : World) (p : Addr) (v : Value) : Fr (fun k => k = p.block) w (w.setCell p v) :=
  ⟨rfl, rfl, rfl, by simp [World.setCell], fun k _ hk => Below.heap_setCell _ _ _ _ hk⟩
end

/-- `k` times `x`. -/
def reps (x : Int) (k : Nat) : List Int := List.replicate k x
theorem reps_len (x : Int) (k : Nat) : (reps x k).length = k := by simp [reps]
theorem reps_succ (x : Int) (k : Nat) : reps x k ++ [x] = reps x (k + 1) := by
  unfold reps; rw [List.replicate_succ']

set_option maxHeartbeats 1600000 in
theorem l2Blank_any (w : World) :
    Calls Try.prog 129 #[] w fun e w' => ∃ v1 v2, e = .returned (.agg #[v1, v2]) ∧ OwnSt w' w.heap.size v1 v2 (reps 0 8) (reps (-1) 8) ∧ Below w.heap.size w w' := by
  go_enter Try.func129, Try.ntmps129
  go_wp2
  go_loopg [2] 8 (fun q i wr => ∃ (k : Nat) (v : Value), k + q = 8 ∧ i = .int .i64 k ∧ wr.ownsRow (w.heap.size + 2) 3 1 v (reps 0 k).length (ints (reps 0 k)) ∧
    wr.heap[w.heap.size]? = some (.cells #[.slice none 0 0, .slice none 0 0] 34 (0, 0)) ∧ wr.heap[w.heap.size + 1]? = some (.cells #[v, .slice none 0 0] 34 (0, 0)) ∧ Below w.heap.size w wr)
  case atStart =>
    refine ⟨0, .slice none 0 0, by omega, rfl, World.ownsRow_nil _ _ _ _, ?_, ?_, bt (below_alloc _ _) (below_alloc _ _)⟩
    · exact box_keep (heap_alloc_new w _) (below_alloc _ _)
    · have := heap_alloc_new (w.alloc (.cells #[.slice none 0 0, .slice none 0 0] 34)) (.cells #[.slice none 0 0, .slice none 0 0] 34)
      simpa using this
  case round =>
    obtain ⟨k, v, hk, rfl, hown, hbA, hbB, hb⟩ := hrel
    have HK := Lib.hid hk
    clear hk
    have hszr := box_lt hbB
    have hrl : (reps 0 k).length ≤ k := Nat.le_of_eq (reps_len 0 k)
    obtain ⟨a, cap, rfl, _⟩ := own_form hown
    have HBA := Lib.hid hbA
    have HBB := Lib.hid hbB
    have hc0 := box0 hbB
    have hc1 := box1 hbB
    have hz0 := boxz hbB 0
    clear hbA hbB
    by_cases hk8 : k < 8
    · have HN := Lib.hid (own_keep hown (below_alloc wr (.cells #[.int .i64 0] 3)))
      have hsz := hb.size
      go_wp2_with (at_builtin; refine app_int _ rfl _ _ rfl (w.heap.size + 2) _ _ rfl HN.out ⟨wr.heap.size, 0, none⟩ _ rfl (cell_new1 _ _ _) (by omega) (by simp; omega) ?_; intro v' w1 hown1 hf1; have hbA1 := Lib.hid (box_kept (box_keep HBA.out (below_alloc _ _)) hf1 (fun hS => by have := (own_lt HN.out hS).1; omega)); have hbB1 := Lib.hid (box_kept (box_keep HBB.out (below_alloc _ _)) hf1 (fun hS => by have := (own_lt HN.out hS).1; omega)); have hb1 := below_own (own_mono (B' := w.heap.size) HN.out (by omega)) hf1 (hb.trans ((below_alloc _ _).mono hb.size)) (by simp; omega); obtain ⟨a', cap', rfl, _⟩ := own_form hown1; have g0 := box0 hbB1.out; have gz := boxz hbB1.out 0; rw [reps_succ] at hown1)
      go_roundg (gk - 1)
      case rel =>
        have hlen : (reps 0 k).length + 1 = (reps 0 (k + 1)).length := by simp [reps_len]
        rw [hlen]
        refine ⟨k + 1, .slice a' (reps 0 (k + 1)).length cap', by have := HK.out; omega, by go_num, ?_, ?_, ?_, ?_⟩
        · exact RowKit.ownsRow_setCell_below hown1 (by simp) _
        · exact box_other hbA1.out _ _ (by simp)
        · exact box_set0 hbB1.out _
        · exact hb1.setCell (by simp) _
      case measure => have := HK.out; omega
    · obtain rfl : k = 8 := by have := HK.out; omega
      have hx1 := hb.size
      obtain ⟨wo, rfl⟩ : ∃ wo : World, wo = wr := ⟨_, rfl⟩
      clear hc0 hc1 hz0
      go_wp2
      go_loopg [3] 8 (fun q i wr => ∃ (k : Nat) (u : Value), k + q = 8 ∧ i = .int .i64 k ∧ wr.ownsRow (w.heap.size + 2) 3 1 (.slice a (reps 0 8).length cap) (reps 0 8).length (ints (reps 0 8)) ∧ wr.ownsRow (w.heap.size + 2) 3 1 u (reps (-1) k).length (ints (reps (-1) k)) ∧
        (∀ j, some j = (Value.slice a (reps 0 8).length cap).ownBlock → ¬ some j = u.ownBlock) ∧
        wr.heap[w.heap.size]? = some (.cells #[.slice none 0 0, .slice none 0 0] 34 (0, 0)) ∧ wr.heap[w.heap.size + 1]? = some (.cells #[.slice a (reps 0 8).length cap, u] 34 (0, 0)) ∧ Below w.heap.size w wr)
      case atStart => exact ⟨0, .slice none 0 0, by omega, rfl, hown, World.ownsRow_nil _ _ _ _, fun j _ h => by simp [Value.ownBlock] at h, HBA.out, HBB.out, hb⟩
      case round =>
        clear hown HBA HBB hb
        obtain ⟨k, u, hk, rfl, hown, hown2, hne, hbA, hbB, hb⟩ := hrel
        have HK := Lib.hid hk
        clear hk
        have hrl2 : (reps (-1) k).length ≤ k := Nat.le_of_eq (reps_len (-1) k)
        obtain ⟨a2, cap2, rfl, _⟩ := own_form hown2
        have hszr := box_lt hbB
        have HBA := Lib.hid hbA
        have HBB := Lib.hid hbB
        have hc0 := box0 hbB
        have hc1 := box1 hbB
        have hz1 := boxz hbB 1
        have HO1 := Lib.hid hown
        have HNE := Lib.hid hne
        clear hbA hbB hown hne
        by_cases hk8 : k < 8
        · have HN := Lib.hid (own_keep hown2 (below_alloc wr (.cells #[.int .i64 (-1)] 3)))
          have hsz := hb.size
          go_wp2_with (at_builtin; refine app_int2 _ rfl _ _ rfl (w.heap.size + 2) _ _ rfl HN.out ⟨wr.heap.size, 0, none⟩ _ rfl (cell_new1 _ _ _) (by omega) (by simp; omega) ?_; intro v' w1 hown1 hf1 hlie; have hbA1 := Lib.hid (box_kept (box_keep HBA.out (below_alloc _ _)) hf1 (fun hS => by have := (own_lt HN.out hS).1; omega)); have hbB1 := Lib.hid (box_kept (box_keep HBB.out (below_alloc _ _)) hf1 (fun hS => by have := (own_lt HN.out hS).1; omega)); have hO11 := Lib.hid (own_kept (own_keep HO1.out (below_alloc _ _)) hf1 (fun j hj => HNE.out j hj)); have hb1 := below_own (own_mono (B' := w.heap.size) HN.out (by omega)) hf1 (hb.trans ((below_alloc _ _).mono hb.size)) (by simp; omega); obtain ⟨a', cap', rfl, _⟩ := own_form hown1; have g0 := box0 hbB1.out; have g1 := box1 hbB1.out; have gz := boxz hbB1.out 1; have HLIE := Lib.hid hlie; clear hlie; rw [reps_succ] at hown1)
          go_roundg (gk - 1)
          case rel =>
            have hlen : (reps (-1) k).length + 1 = (reps (-1) (k + 1)).length := by simp [reps_len]
            have hl := HLIE.out
            rw [reps_succ] at hl
            rw [hlen]
            refine ⟨k + 1, .slice a' (reps (-1) (k + 1)).length cap', by have := HK.out; omega, by go_num, ?_, ?_, ?_, ?_, ?_, ?_⟩
            · exact RowKit.ownsRow_setCell_below hO11.out (by simp) _
            · exact RowKit.ownsRow_setCell_below hown1 (by simp) _
            · intro j h1 h2
              rcases hl j h2 with h | h
              · exact HNE.out j h1 h
              · have := (own_lt HO1.out h1).2; simp at h; omega
            · exact box_other hbA1.out _ _ (by simp)
            · exact box_set1 hbB1.out _
            · exact hb1.setCell (by simp) _
          case measure => have := HK.out; omega
        · obtain rfl : k = 8 := by have := HK.out; omega
          have ha0 := box0 HBA.out
          have ha1 := box1 HBA.out
          have haz := boxz HBA.out 0
          have haz1 := boxz HBA.out 1
          go_wp2
          refine bodyPost_ret (v := .agg #[.slice a (reps 0 8).length cap, .slice a2 (reps (-1) 8).length cap2]) (by simp [results, Try.results129, go_sem, ha0, ha1]) rfl ?_
          refine ⟨_, _, rfl, ⟨?_, ?_, HNE.out⟩, ?_⟩
          · exact own_mono (RowKit.ownsRow_setCell_below (RowKit.ownsRow_setCell_below HO1.out (by simp) _) (by simp) _) (by omega)
          · exact own_mono (RowKit.ownsRow_setCell_below (RowKit.ownsRow_setCell_below hown2 (by simp) _) (by simp) _) (by omega)
          · exact (hb.setCell (by simp) _).setCell (by simp) _
end Go.Proofs.Ytnhhfbhhglhocaa
