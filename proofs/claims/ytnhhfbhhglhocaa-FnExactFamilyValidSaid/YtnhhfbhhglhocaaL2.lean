/- Walks: the helpers of the laws: copies and marks. -/
import Derived.Test.YtnhhfbhhglhocaaL1
import Derived.Test.YtnhhfbhhglhocaaLaws
namespace Go.Proofs.Ytnhhfbhhglhocaa
open Go.RowKit

theorem set_fill (l : List Int) (k : Nat) (h : k < l.length) :
    (ints (l.take k ++ List.replicate (l.length - k) 0)).set k (.int .i64 (gi l k)) = ints (l.take (k + 1) ++ List.replicate (l.length - (k + 1)) 0) := by
  apply List.ext_getElem?
  intro i
  simp only [ints, List.getElem?_set, List.getElem?_map, List.getElem?_append, List.length_take, List.getElem?_take, List.getElem?_replicate, List.length_map, List.length_append, List.length_replicate]
  by_cases hik : k = i
  · subst hik
    have h2 : k < min (k + 1) l.length := by omega
    have h3 : k < min k l.length + (l.length - k) := by omega
    simp [h2, h3, gi_of h, h]
  · by_cases hlt : i < k
    · have h2 : i < min k l.length := by omega
      have h3 : i < min (k + 1) l.length := by omega
      have h4 : i < k + 1 := by omega
      simp [hik, h2, h3, hlt, h4]
    · have h2 : ¬ i < min k l.length := by omega
      have h3 : ¬ i < min (k + 1) l.length := by omega
      simp only [hik, if_false, h2, h3]
      by_cases h5 : i < l.length
      · have e1 : i - min k l.length < l.length - k := by omega
        have e2 : i - min (k + 1) l.length < l.length - (k + 1) := by omega
        simp [e1, e2]
      · have e1 : ¬ i - min k l.length < l.length - k := by omega
        have e2 : ¬ i - min (k + 1) l.length < l.length - (k + 1) := by omega
        simp [e1, e2]

/-- The marks from `k0` on. -/
def mks (k0 : Int) (n : Nat) : List Int := (List.range n).map fun (i : Nat) => k0 + i
theorem mks_len (k0 : Int) (n : Nat) : (mks k0 n).length = n := by simp [mks]
theorem gi_mks (k0 : Int) (n k : Nat) (h : k < n) : gi (mks k0 n) k = k0 + k := by
  rw [gi_of (by rw [mks_len]; exact h)]; simp [mks]
theorem set_marks (l : List Int) (k0 : Int) (k : Nat) (h : k < l.length) :
    (ints (mks k0 k ++ l.drop k)).set k (.int .i64 (k0 + k)) = ints (mks k0 (k + 1) ++ l.drop (k + 1)) := by
  apply List.ext_getElem?
  intro i
  simp only [ints, List.getElem?_set, List.getElem?_map, List.getElem?_append, mks_len, List.getElem?_drop, List.length_map, List.length_append, List.length_drop]
  have hm : ∀ n j, j < n → (mks k0 n)[j]? = some (k0 + j) := by intro n j hj; simp [mks, hj]
  by_cases hik : k = i
  · subst hik
    have h2 : k < k + (l.length - k) := by omega
    rw [if_pos rfl, if_pos h2, if_pos (by omega : k < k + 1), hm _ _ (by omega)]
    rfl
  · rw [if_neg hik]
    by_cases hlt : i < k
    · rw [if_pos hlt, if_pos (by omega : i < k + 1), hm _ _ hlt, hm _ _ (by omega)]
    · rw [if_neg hlt, if_neg (by omega : ¬ i < k + 1)]
      congr 2; omega

/-- An owned slice of at least one element. -/
theorem own_form {w : World} {B e n : Nat} {v : Value} {xs : List Value} (h : w.ownsRow B e 1 v n xs) : ∃ a cap, v = .slice a n cap ∧ (∀ i, i < n → ∃ g, a = some ⟨g, 0, none⟩) := by
  rcases h.2 with ⟨rfl, rfl⟩ | ⟨g, cap, cur, rfl, _⟩
  · exact ⟨none, 0, rfl, fun i hi => by omega⟩
  · exact ⟨_, cap, rfl, fun _ _ => ⟨g, rfl⟩⟩

set_option maxHeartbeats 800000 in
theorem toIntS_any (v : Value) (l : List Int) (w : World) (h : RInts w v l) (hl : l.length ≤ 1048576) :
    Calls Try.prog 62 #[v] w fun e w' => ∃ v', e = .returned v' ∧ w'.ownsRow w.heap.size 3 1 v' l.length (ints l) ∧ Below w.heap.size w w' := by
  obtain ⟨a1, c1, rfl, hf1⟩ := h.cells
  have F1 := Lib.hid hf1
  clear hf1 h
  obtain ⟨i0, hi, hz0, hz1, hz2⟩ := info_parts info_int
  go_enter Try.func62, Try.ntmps62
  go_wp2_with (at_make; refine wpList_make_full _ rfl _ _ 29 rfl w.heap.size 3 i0 (.int .i64 0) 1 Try.underlying29 hi hz0 hz1 _ _ _ _ l.length rfl rfl rfl rfl (by rw [hz2]; omega) (by unfold maxLen; omega) (Nat.le_refl _) ?_; intro w1 hown hgr)
  have hb1 := (grown_fr hgr).below (B := w.heap.size) (Nat.le_refl _) (by intro k _ e; cases e)
  have hown0 : w1.ownsRow w.heap.size 3 1 (.slice (some ⟨w.heap.size, 0, none⟩) l.length l.length) l.length (ints (l.take 0 ++ List.replicate (l.length - 0) 0)) := by
    have e : (madeCells (Value.int .i64 0).cells (l.length * 1)).toList = ints (l.take 0 ++ List.replicate (l.length - 0) 0) := by
      rw [show (Value.int .i64 0).cells = #[Value.int .i64 0] from rfl, toList_madeCells_one]
      simp [ints]
    rwa [e] at hown
  clear hown hi hz0 hz1 hz2 hgr
  go_loopg [4] l.length (fun q i wr => ∃ k : Nat, k + q = l.length ∧ i = .int .i64 k ∧ wr.ownsRow w.heap.size 3 1 (.slice (some ⟨w.heap.size, 0, none⟩) l.length l.length) l.length (ints (l.take k ++ List.replicate (l.length - k) 0)) ∧ Below w.heap.size w wr)
  case atStart => exact ⟨0, by omega, rfl, hown0, hb1⟩
  case round =>
    obtain ⟨k, hk, rfl, hown, hb⟩ := hrel
    have HK := Lib.hid hk
    clear hk
    by_cases hk8 : k < l.length
    · obtain ⟨b, o, rfl, hbl, hc⟩ := F1.out k hk8
      have hcr := cell_below hb hbl hc
      have hki : (k : Int) < (l.length : Int) := by omega
      have hfz := hown.frozenAt k
      obtain ⟨old, hcg⟩ : ∃ old, wr.cell? ⟨w.heap.size, k, none⟩ = some old := by
        refine ⟨(ints (l.take k ++ List.replicate (l.length - k) 0))[k]'(by rw [hown.1]; omega), ?_⟩
        rw [hown.cellAt k (by omega)]
        exact List.getElem?_eq_getElem _
      obtain ⟨hst1, hst2⟩ := hown.stored k (.int .i64 (gi l k))
      clear hc
      go_wp2
      go_roundg (gk - 1)
      case rel => exact ⟨k + 1, by have := HK.out; omega, by go_num, by rw [← set_fill l k hk8]; exact hst1, hb.setCell (by simp) _⟩
      case measure => have := HK.out; omega
    · obtain rfl : k = l.length := by have := HK.out; omega
      go_wp2
      go_ret
      refine ⟨_, rfl, ?_, hb⟩
      have e : l.take l.length ++ List.replicate (l.length - l.length) 0 = l := by simp
      rw [e] at hown
      exact hown
set_option maxHeartbeats 800000 in
theorem toState_any (v1 v2 : Value) (l1 l2 : List Int) (w : World) (h1 : RInts w v1 l1) (h2 : RInts w v2 l2) (hl1 : l1.length ≤ 1048576) (hl2 : l2.length ≤ 1048576) :
    Calls Try.prog 20 #[.agg #[v1, v2]] w fun e w' => ∃ u1 u2, e = .returned (.agg #[u1, u2]) ∧ w'.ownsRow w.heap.size 3 1 u1 l1.length (ints l1) ∧ w'.ownsRow w.heap.size 3 1 u2 l2.length (ints l2) ∧ (∀ k, some k = u1.ownBlock → ¬ some k = u2.ownBlock) ∧ Below w.heap.size w w' := by
  go_enter Try.func20, Try.ntmps20
  go_wp2_with fail
  refine (toIntS_any _ l1 _ (((h1.alloc _).alloc _).alloc _) hl1).mono ?_
  rintro e w1 ⟨u1, rfl, hown1, hb1⟩
  obtain ⟨a1, c1, rfl, _⟩ := own_form hown1
  have z1 : w.heap.size + 3 ≤ w1.heap.size := by have := hb1.size; simp at this; omega
  have y0 : w.heap.size < w1.heap.size := by omega
  have y1 : w.heap.size + 1 < w1.heap.size := by omega
  have y2 : w.heap.size + 1 + 1 < w1.heap.size := by omega
  have own1 := own_mono (B' := w.heap.size + 3) hown1 (by simp)
  obtain ⟨hc1, hf1⟩ := bcell hb1
  have hb01 : Below w.heap.size w w1 := bt (bt (bt (below_alloc _ _) (below_alloc _ _)) (below_alloc _ _)) hb1
  have k2 := h2.keep hb01
  clear hown1 hb1
  go_wp2_with fail
  refine (toIntS_any _ l2 _ (h2.keep (hb01.setCell (by simp; omega) _)) hl2).mono ?_
  rintro e w2 ⟨u2, rfl, hown2, hb2⟩
  obtain ⟨a2, c2, rfl, _⟩ := own_form hown2
  have own1' := own_keep (RowKit.ownsRow_setCell_below own1 (a := ⟨w.heap.size + 1 + 1, 0, none⟩) (by simp) (.slice a1 l1.length c1)) hb2
  have own2 := own_mono (B' := w.heap.size + 3) hown2 (by simp; omega)
  have hsep : ∀ k, some k = (Value.slice a1 l1.length c1).ownBlock → ¬ some k = (Value.slice a2 l2.length c2).ownBlock := by
    intro k e1 e2
    have q1 := (own_lt own1 e1).2
    have q2 := (own_lt hown2 e2).1
    simp at q2
    omega
  have hb02 : Below w.heap.size w w2 := (hb01.setCell (by simp; omega) _).trans (hb2.mono (by simp; omega))
  obtain ⟨hc2, hf2⟩ := bcell hb2
  have z2 := hb2.size
  simp at z2
  have x1 : w.heap.size + 1 < w2.heap.size := by omega
  have x2 : w.heap.size + 1 + 1 < w2.heap.size := by omega
  clear hown2 own1 k2
  go_wp2
  refine bodyPost_ret (v := .agg #[.slice a1 l1.length c1, .slice a2 l2.length c2]) (by simp [results, Try.results20, go_sem, y1, hc1, hc2]) rfl ?_
  refine ⟨_, _, rfl, ?_, ?_, hsep, ?_⟩
  · exact own_mono (RowKit.ownsRow_setCell_below (RowKit.ownsRow_setCell_below (RowKit.ownsRow_setCell_below own1' (by simp) _) (by simp) _) (by simp) _) (by omega)
  · exact own_mono (RowKit.ownsRow_setCell_below (RowKit.ownsRow_setCell_below (RowKit.ownsRow_setCell_below own2 (by simp) _) (by simp) _) (by simp) _) (by omega)
  · exact ((hb02.setCell (by simp; omega) _).setCell (by simp) _).setCell (by simp) _
end Go.Proofs.Ytnhhfbhhglhocaa
