/- Walks: FreeCell. -/
import Derived.Test.YtlmhcacgedidbaaCp
import Derived.Test.YtlmhcacgedidbaaSl2
namespace Go.Proofs.Ytlmhcacgedidbaa
open Go.RowKit

theorem box_two {w : World} {b : Nat} {u v : Value} (x y : Value) (h0 : w.cell? ⟨b, 0, none⟩ = some u) (h1 : w.cell? ⟨b, 1, none⟩ = some v) :
    ((w.setCell ⟨b, 0, none⟩ x).setCell ⟨b, 1, none⟩ y).cell? ⟨b, 0, none⟩ = some x ∧ ((w.setCell ⟨b, 0, none⟩ x).setCell ⟨b, 1, none⟩ y).cell? ⟨b, 1, none⟩ = some y := by
  constructor
  · rw [World.cell?_setCell_other _ _ _ _ (by simp), World.cell?_setCell_same _ _ _ h0]
  · exact World.cell?_setCell_same _ _ _ (u := v) (by rw [World.cell?_setCell_other _ _ _ _ (by simp)]; exact h1)

set_option maxHeartbeats 800000 in
theorem freeCell_yes (v1 v2 : Value) (vl hl : List Int) (n : Int) (w : World) (h1 : RInts w v1 vl) (h2 : RInts w v2 hl) (hv : validB vl hl = true) (ha : alB hl n = true) :
    Calls Try.prog 41 #[.agg #[v1, v2], .int .i64 n] w fun e w' => ∃ u1 u2, e = .returned (.tuple #[.agg #[u1, u2], .bool true]) ∧ OwnSt w' w.heap.size u1 u2 vl (hl.set (n - 1).toNat (-1)) ∧ Below w.heap.size w w' := by
  have hlen := valid_len hv
  have l1 : 8 ≤ hl.length := by omega
  have l2 : hl.length ≤ 1048576 := by omega
  have l3 : vl.length ≤ 1048576 := by omega
  have hn := al_addr ha
  obtain ⟨k, rfl⟩ : ∃ k : Nat, n = (k : Int) + 1 := ⟨(n - 1).toNat, by omega⟩
  have hk : (k : Int) < (hl.length : Int) := by omega
  have hk2 : k < hl.length := by omega
  have l4 : 0 < vl.length := by omega
  clear hn hlen
  go_enter Try.func41, Try.ntmps41
  go_wp2_with (first
    | (go_at_call 53; go_must (((with_reducible refine (stateValid_any _ _ _ _ _ (by repeat (first | with_reducible assumption | exact (own_ints (by assumption)).1 | apply rints_ext | apply rints_alloc | apply rints_drew)) (by repeat (first | with_reducible assumption | exact (own_ints (by assumption)).1 | apply rints_ext | apply rints_alloc | apply rints_drew))).mono ?_); rintro e w' ⟨rfl, hb⟩; (first | obtain ⟨x, rfl⟩ := to_ext2 hb | obtain ⟨x, rfl⟩ := to_ext hb); clear hb)))
    | (go_at_call 69; go_must (((with_reducible refine (allocated_any _ _ _ _ _ (by repeat (first | with_reducible assumption | exact (own_ints (by assumption)).1 | apply rints_ext | apply rints_alloc | apply rints_drew)) (by omega)).mono ?_); rintro e w' ⟨rfl, hb⟩; (first | obtain ⟨x, rfl⟩ := to_ext2 hb | obtain ⟨x, rfl⟩ := to_ext hb); clear hb)))
    | (go_at_call 77; go_must ((with_reducible refine (copyState_any _ _ _ _ _ (by repeat (first | with_reducible assumption | exact (own_ints (by assumption)).1 | apply rints_ext | apply rints_alloc | apply rints_drew)) (by repeat (first | with_reducible assumption | exact (own_ints (by assumption)).1 | apply rints_ext | apply rints_alloc | apply rints_drew)) (by omega) (by omega)).mono ?_); rintro e w2 ⟨u1, u2, rfl, hst, hb⟩; obtain ⟨g1, c1, rfl, hgB1, hg1⟩ := own_at hst.one (by omega); obtain ⟨g2, c2, rfl, hgB2, hg2⟩ := own_at hst.two (by omega); obtain ⟨hck, hfz⟩ := own_cell hst.two k hk2; have ha0 := cell_keep hb (p := ⟨w.heap.size + 1, 0, none⟩) (v := .slice none 0 0) (by simp [go_sem]); have ha1 := cell_keep hb (p := ⟨w.heap.size + 1, 1, none⟩) (v := .slice none 0 0) (by simp [go_sem]); have haz : ∀ i, w2.frozen? ⟨w.heap.size + 1, i, none⟩ = false := fun i => (hb.frozen (p := ⟨w.heap.size + 1, i, none⟩) (by simp)).trans (by simp [go_sem]); have hz := le_ext _ x; simp at hz; have hb2 := Lib.hid (bt (ext_below _ x) hb); have hz2 := hb.size; have hz3 : w.heap.size + 1 < g2 := (by omega); have hz4 : w.heap.size + 1 < w2.heap.size := (by omega); have HST := Lib.hid (hst.mono (B' := w.heap.size + 2) (by omega)); have hz5 : w.heap.size + 2 ≤ g1 := (by omega); clear hst hb hgB2 hgB1 hz hz2)))
  have B2 := box_two (.slice (some ⟨g1, 0, none⟩) vl.length c1) (.slice (some ⟨g2, 0, none⟩) hl.length c2) ((fr_set w2 ⟨g2, k, none⟩ (.int .i64 (-1))).cell (by simp; omega) ha0) ((fr_set w2 ⟨g2, k, none⟩ (.int .i64 (-1))).cell (by simp; omega) ha1)
  have r0 := cell_keep (below_alloc _ (.cells #[.slice (some ⟨g1, 0, none⟩) vl.length c1, .slice (some ⟨g2, 0, none⟩) hl.length c2] 27)) B2.1
  have r1 := cell_keep (below_alloc _ (.cells #[.slice (some ⟨g1, 0, none⟩) vl.length c1, .slice (some ⟨g2, 0, none⟩) hl.length c2] 27)) B2.2
  refine bodyPost_ret (v := .tuple #[.agg #[.slice (some ⟨g1, 0, none⟩) vl.length c1, .slice (some ⟨g2, 0, none⟩) hl.length c2], .bool true]) (by simp [results, Try.results41, go_sem, r0, r1]) rfl ?_
  rw [show ((k : Int) + 1 - 1).toNat = k by omega]
  refine ⟨_, _, rfl, ?_, ?_⟩
  · exact ((((HST.out.set2 k (-1)).kept (fr_set _ _ _) (fun j h1 _ e => by simp at e; omega)).kept (fr_set _ _ _) (fun j h1 _ e => by simp at e; omega)).keep (below_alloc _ _)).mono (by omega)
  · refine (Fr.below (S := fun j => w.heap.size + 1 ≤ j) ?_ (Nat.le_refl _) (fun j hj e => by omega)).alloc (by simp; omega) _
    exact ((((Below.fr (bt (bt (below_alloc _ _) (below_alloc _ _)) hb2.out)).mono fun _ _ h => h.elim).then (fr_set _ _ _) (fun j _ e => by simp at e; omega)).then (fr_set _ _ _) (fun j _ e => by simp at e; omega)).then (fr_set _ _ _) (fun j _ e => by simp at e; omega)
end Go.Proofs.Ytlmhcacgedidbaa
