/- Rens: texts Rn1, Rn2, Rn3, Rn4 in one. -/
import Derived.Test.YtapoillhgimdiaaBase3
import Derived.Test.YtapoillhgimdiaaPerms
import Derived.Test.YtapoillhgimdiaaDraw1
import Derived.Laws.Tables
import Derived.Test.YtapoillhgimdiaaBase1
import Derived.Laws.CopyOwn
import Derived.Test.YtapoillhgimdiaaCpy
import Derived.Test.YtapoillhgimdiaaDraw2
/- Walks: tables of names. -/
namespace Go.Proofs.Ytapoillhgimdiaa
open Go.RowKit

abbrev iarr (l : List Int) : Array Value := (ints l).toArray
theorem iarr_size (l : List Int) : (iarr l).size = l.length := by simp [ints]
theorem iarr_one (l : List Int) : (iarr l).all (·.oneCell') = true := by
  rw [Array.all_eq_true_iff_forall_mem]
  intro x hx
  simp [ints] at hx
  obtain ⟨_, _, rfl⟩ := hx
  rfl
theorem iarr_at {w : World} {b : Nat} {T : TypeId} {l : List Int} (h : w.heap[b]? = some (.cells (iarr l) T (0, 0))) (i : Nat) (hi : i < l.length) : w.cell? ⟨b, i, none⟩ = some (.int .i64 (gi l i)) := by
  rw [cell_of_row w b i _ _ _ h]
  simp [ints, hi, gi_of]
theorem iarr_set {w : World} {b : Nat} {T : TypeId} {l : List Int} (h : w.heap[b]? = some (.cells (iarr l) T (0, 0))) (i : Nat) (x : Int) : (w.setCell ⟨b, i, none⟩ (.int .i64 x)).heap[b]? = some (.cells (iarr (l.set i x)) T (0, 0)) := by
  rw [heap_setCell_same w b i _ T _ h]
  congr 2
  simp [ints, List.map_set]

/-- A value by a table of names. -/
def nmT (tl : List Int) (v : Int) : Int := if isAddrB v = true then gi tl v.toNat else v
theorem nmT_cons (ns : List Int) (v : Int) : nmT (0 :: ns) v = nm ns v := by
  unfold nmT nm
  by_cases h : isAddrB v = true
  · rw [if_pos h, if_pos h]
    have := isAddrB_iff.1 h
    obtain ⟨k, rfl⟩ : ∃ k : Nat, v = (k : Int) + 1 := ⟨(v - 1).toNat, by omega⟩
    rw [show ((k : Int) + 1).toNat = k + 1 by omega, show ((k : Int) + 1 - 1).toNat = k by omega]
    simp [gi]
  · rw [if_neg h, if_neg h]

end Go.Proofs.Ytapoillhgimdiaa
/- Walks: readNames and the reference's test of names. -/
namespace Go.Proofs.Ytapoillhgimdiaa
open Go.RowKit

end Go.Proofs.Ytapoillhgimdiaa
/- Walks: renamed states. -/
namespace Go.Proofs.Ytapoillhgimdiaa
open Go.RowKit

/-- A state in the making: its two rows of 8; the box of the result at bR, its own at bK. -/
structure RnSt (w0 w : World) (bR bK g1 c1 g2 c2 : Nat) (l1 l2 : List Int) : Prop where
  own : OwnSt w (bR + 1) (.slice (some ⟨g1, 0, none⟩) 8 c1) (.slice (some ⟨g2, 0, none⟩) 8 c2) l1 l2
  len1 : l1.length = 8
  len2 : l2.length = 8
  lt1 : bR < g1
  lt2 : bR < g2
  ne1 : ¬ g1 = bK
  ne2 : ¬ g2 = bK
  low : w0.heap.size ≤ bR
  ltK : bR < bK
  boxR : w.heap[bR]? = some (.cells #[.slice none 0 0, .slice none 0 0] 77 (0, 0))
  boxK : w.heap[bK]? = some (.cells #[.slice (some ⟨g1, 0, none⟩) 8 c1, .slice (some ⟨g2, 0, none⟩) 8 c2] 77 (0, 0))
  bel : Below w0.heap.size w0 w

section
variable {w0 w w' : World} {bR bK g1 c1 g2 c2 : Nat} {l1 l2 : List Int}
theorem RnSt.keep (h : RnSt w0 w bR bK g1 c1 g2 c2 l1 l2) (hb : Below w.heap.size w w') : RnSt w0 w' bR bK g1 c1 g2 c2 l1 l2 :=
  ⟨h.own.keep hb, h.len1, h.len2, h.lt1, h.lt2, h.ne1, h.ne2, h.low, h.ltK, box_keep h.boxR hb, box_keep h.boxK hb, bt h.bel hb⟩
theorem RnSt.set1 (h : RnSt w0 w bR bK g1 c1 g2 c2 l1 l2) (i : Nat) (x : Int) : RnSt w0 (w.setCell ⟨g1, i, none⟩ (.int .i64 x)) bR bK g1 c1 g2 c2 (l1.set i x) l2 := by
  have ho := h.own
  rw [← h.len1] at ho
  have hs := ho.set1 i x
  rw [h.len1] at hs
  have hlo := h.low
  have hlt := h.lt1
  exact ⟨hs, by rw [List.length_set, h.len1], h.len2, h.lt1, h.lt2, h.ne1, h.ne2, h.low, h.ltK, box_other h.boxR _ _ (by simp; omega), box_other h.boxK _ _ (by simp; exact fun e => h.ne1 e.symm), h.bel.setCell (by simp; omega) _⟩
theorem RnSt.set2 (h : RnSt w0 w bR bK g1 c1 g2 c2 l1 l2) (i : Nat) (x : Int) : RnSt w0 (w.setCell ⟨g2, i, none⟩ (.int .i64 x)) bR bK g1 c1 g2 c2 l1 (l2.set i x) := by
  have ho := h.own
  have hs : OwnSt (w.setCell ⟨g2, i, none⟩ (.int .i64 x)) (bR + 1) (.slice (some ⟨g1, 0, none⟩) 8 c1) (.slice (some ⟨g2, 0, none⟩) 8 c2) l1 (l2.set i x) := by
    have := OwnSt.set2 (l2 := l2) (cap := c2) (g := g2) (by rw [h.len2]; exact ho) i x
    rwa [h.len2] at this
  have hlo := h.low
  have hlt := h.lt2
  exact ⟨hs, h.len1, by rw [List.length_set, h.len2], h.lt1, h.lt2, h.ne1, h.ne2, h.low, h.ltK, box_other h.boxR _ _ (by simp; omega), box_other h.boxK _ _ (by simp; exact fun e => h.ne2 e.symm), h.bel.setCell (by simp; omega) _⟩
theorem RnSt.cell1 (h : RnSt w0 w bR bK g1 c1 g2 c2 l1 l2) (i : Nat) (hi : i < 8) : w.cell? ⟨g1, i, none⟩ = some (.int .i64 (gi l1 i)) ∧ w.frozen? ⟨g1, i, none⟩ = false := by
  have := h.own.one
  rw [h.len1] at this
  exact own_cell (cap := c1) (by rw [h.len1]; exact this) i (by rw [h.len1]; exact hi)
theorem RnSt.cell2 (h : RnSt w0 w bR bK g1 c1 g2 c2 l1 l2) (i : Nat) (hi : i < 8) : w.cell? ⟨g2, i, none⟩ = some (.int .i64 (gi l2 i)) ∧ w.frozen? ⟨g2, i, none⟩ = false := by
  have := h.own.two
  rw [h.len2] at this
  exact own_cell (cap := c2) (by rw [h.len2]; exact this) i (by rw [h.len2]; exact hi)
/-- At the return: the state is laid into the result's box. -/
theorem RnSt.done (h : RnSt w0 w bR bK g1 c1 g2 c2 l1 l2) :
    OwnSt ((w.setCell ⟨bR, 0, none⟩ (.slice (some ⟨g1, 0, none⟩) 8 c1)).setCell ⟨bR, 1, none⟩ (.slice (some ⟨g2, 0, none⟩) 8 c2)) w0.heap.size (.slice (some ⟨g1, 0, none⟩) 8 c1) (.slice (some ⟨g2, 0, none⟩) 8 c2) l1 l2 ∧
    Below w0.heap.size w0 ((w.setCell ⟨bR, 0, none⟩ (.slice (some ⟨g1, 0, none⟩) 8 c1)).setCell ⟨bR, 1, none⟩ (.slice (some ⟨g2, 0, none⟩) 8 c2)) := by
  have hlo := h.low
  exact ⟨((h.own.kept (fr_set _ _ _) (fun j h1 _ e => by simp at e; omega)).kept (fr_set _ _ _) (fun j h1 _ e => by simp at e; omega)).mono (by omega), (h.bel.setCell (by simp; omega) _).setCell (by simp; omega) _⟩
/-- The start: two rows, a new box of them, the result's box. -/
theorem RnSt.mk' {u : World} (ho : OwnSt u (bR + 1) (.slice (some ⟨g1, 0, none⟩) 8 c1) (.slice (some ⟨g2, 0, none⟩) 8 c2) l1 l2) (h1 : l1.length = 8) (h2 : l2.length = 8) (hlow : w0.heap.size ≤ bR)
    (hR : u.heap[bR]? = some (.cells #[.slice none 0 0, .slice none 0 0] 77 (0, 0))) (hb : Below w0.heap.size w0 u) :
    RnSt w0 (u.alloc (.cells #[.slice (some ⟨g1, 0, none⟩) 8 c1, .slice (some ⟨g2, 0, none⟩) 8 c2] 77)) bR u.heap.size g1 c1 g2 c2 l1 l2 := by
  have a1 := own_lt ho.one (k := g1) rfl
  have a2 := own_lt ho.two (k := g2) rfl
  have a3 := box_lt hR
  exact ⟨ho.keep (below_alloc _ _), h1, h2, by omega, by omega, by omega, by omega, hlow, a3, box_keep hR (below_alloc _ _), heap_alloc_new _ _, ba hb _⟩
end

/-- The values renamed up to k. -/
def renVn (ns vl : List Int) : Nat → List Int → List Int
  | 0, base => base
  | k + 1, base => (renVn ns vl k base).set k (nm ns (gi vl k))
theorem renVn_len (ns vl base : List Int) : ∀ k, (renVn ns vl k base).length = base.length
  | 0 => rfl
  | k + 1 => by rw [renVn, List.length_set, renVn_len]
theorem renVn_at {ns vl base : List Int} {i : Nat} (hi : i < base.length) : ∀ {k : Nat}, k ≤ base.length → gi (renVn ns vl k base) i = if i < k then nm ns (gi vl i) else gi base i
  | 0, _ => by simp [renVn]
  | k + 1, hk => by
    rw [renVn, gi_set (by rw [renVn_len]; omega), renVn_at hi (by omega)]
    by_cases e : k = i
    · subst e; rw [if_pos rfl, if_pos (Nat.lt_succ_self _)]
    · rw [if_neg e]
      by_cases hlt : i < k
      · rw [if_pos hlt, if_pos (by omega)]
      · rw [if_neg hlt, if_neg (by omega)]
theorem renVn_full {ns vl base : List Int} (hb : base.length = vl.length) : renVn ns vl vl.length base = renV ns vl := by
  refine gi_ext (by rw [renVn_len, renV_len, hb]) fun i hi => ?_
  rw [renVn_len, hb] at hi
  rw [renVn_at (by omega) (by omega), if_pos hi, gi_renV hi]
end Go.Proofs.Ytapoillhgimdiaa
/- Walks: renameState, and the reference's. -/
namespace Go.Proofs.Ytapoillhgimdiaa
open Go.RowKit

theorem box_fr {w w' : World} {S : Nat → Prop} {b : Nat} {o : Obj} (h : w.heap[b]? = some o) (hf : Fr S w w') (hn : ¬ S b) : w'.heap[b]? = some o := (hf.block _ (box_lt h) hn).trans h
end Go.Proofs.Ytapoillhgimdiaa
