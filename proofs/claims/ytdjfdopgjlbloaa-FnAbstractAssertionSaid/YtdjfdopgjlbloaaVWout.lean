/- Walks: an assertion with one atom in the place of two. -/
import Derived.Test.YtdjfdopgjlbloaaVChains
import Derived.Deep.RegionLaw
namespace Go.Proofs.Ytdjfdopgjlbloaa
open Go.RowKit

/-- An assertion that is being built: its rows, the box of the result, its own box. -/
structure DB (w0 w : World) (bR bA : Nat) (v1 v2 : Value) (l1 : List Fact) (l2 : List Atom) : Prop where
  f : FE w w0.heap.size v1 l1
  a : FE w w0.heap.size v2 l2
  boxR : w.heap[bR]? = some (.cells #[.slice none 0 0, .slice none 0 0] 26 (0, 0))
  boxA : w.heap[bA]? = some (.cells #[v1, v2] 26 (0, 0))
  fr : Below w0.heap.size w0 w
section
variable {w0 w w' : World} {bR bA : Nat} {v1 v2 v' : Value} {l1 m1 : List Fact} {l2 m2 : List Atom}
theorem DB.keep (h : DB w0 w bR bA v1 v2 l1 l2) (hb : Below w.heap.size w w') : DB w0 w' bR bA v1 v2 l1 l2 :=
  ⟨h.f.keep hb, h.a.keep hb, box_keep h.boxR hb, box_keep h.boxA hb, bt h.fr hb⟩
theorem DB.app2 (h : DB w0 w bR bA v1 v2 l1 l2) (hne : ¬ bR = bA) (hlo : w0.heap.size ≤ bA) (h1 : FE w' w0.heap.size v' m2) (hf : Fr (TF w w0.heap.size 56) w w') :
    DB w0 (w'.setCell ⟨bA, 1, none⟩ v') bR bA v1 v' l1 m2 := by
  have hA := box_tf h.boxA hf (by decide)
  have hS : ∀ {e : TypeId}, 26 ≠ e → ¬ TF w' w0.heap.size e bA := fun hne => tf_ne hA hne
  exact ⟨(h.f.tf hf (by decide)).setB (hS (by decide)), h1.setB (hS (by decide)), box_other (box_tf h.boxR hf (by decide)) _ _ hne, box_set1 hA _,
    (h.fr.trans (tf_below hf h.fr.size)).setCell (by simp; omega) _⟩
/-- The result is laid. -/
theorem DB.done (h : DB w0 w bR bA v1 v2 l1 l2) (hlo : w0.heap.size ≤ bR) (x y : Value) :
    (FE ((w.setCell ⟨bR, 0, none⟩ x).setCell ⟨bR, 1, none⟩ y) w0.heap.size v1 l1 ∧ FE ((w.setCell ⟨bR, 0, none⟩ x).setCell ⟨bR, 1, none⟩ y) w0.heap.size v2 l2) ∧
    Below w0.heap.size w0 ((w.setCell ⟨bR, 0, none⟩ x).setCell ⟨bR, 1, none⟩ y) :=
  ⟨⟨h.f.set2 h.boxR (by decide), h.a.set2 h.boxR (by decide)⟩, (h.fr.setCell (by simp; omega) _).setCell (by simp; omega) _⟩
end
theorem heap_at {w : World} {o : Obj} {g : Nat} (h : w.heap.size = g) : (w.alloc o).heap[g]? = some o := h ▸ heap_alloc_new w o
/-- A literal of one atom. -/
theorem FE.litA {w : World} {B g : Nat} {K A C : Int} (h : w.heap[g]? = some (.cells #[.int .i64 K, .int .i64 A, .int .i64 C] 56 (0, 0))) (hB : B ≤ g) : FE w B (.slice (some ⟨g, 0, none⟩) 1 1) [((K, A, C) : Atom)] := by
  refine ⟨[.int .i64 K, .int .i64 A, .int .i64 C], .inr ⟨rfl, .inr ⟨g, 1, #[.int .i64 K, .int .i64 A, .int .i64 C], rfl, hB, h, Nat.le_refl _, by unfold maxLen; omega, rfl, rfl⟩⟩, fun i hi => ?_⟩
  obtain rfl : i = 0 := by simpa using hi
  exact rd_atom_mk w _ (K, A, C)
section
variable {w0 w : World} {bR bA : Nat} {v1 v2 : Value} {l1 : List Fact} {l2 : List Atom}
/-- The box is made last, with its cells. -/
theorem DB.mkA (h1 : FE w w0.heap.size v1 l1) (h2 : FE w w0.heap.size v2 l2) (hR : w.heap[bR]? = some (.cells #[.slice none 0 0, .slice none 0 0] 26 (0, 0))) (hb : Below w0.heap.size w0 w) (hg : w.heap.size = bA) :
    DB w0 (w.alloc (.cells #[v1, v2] 26)) bR bA v1 v2 l1 l2 :=
  ⟨h1.alloc _, h2.alloc _, box_keep hR (below_alloc _ _), heap_at hg, ba hb _⟩
/-- The box is made, then the literal. -/
theorem DB.mkC {K A C : Int} (h1 : FE w w0.heap.size v1 l1) (hR : w.heap[bR]? = some (.cells #[.slice none 0 0, .slice none 0 0] 26 (0, 0))) (hb : Below w0.heap.size w0 w) (hg : w.heap.size = bA) :
    DB w0 ((w.alloc (.cells #[v1, .slice (some ⟨bA + 1, 0, none⟩) 1 1] 26)).alloc (.cells #[.int .i64 K, .int .i64 A, .int .i64 C] 56)) bR bA v1 (.slice (some ⟨bA + 1, 0, none⟩) 1 1) l1 [(K, A, C)] :=
  ⟨(h1.alloc _).alloc _, FE.litA (heap_at (by simp [hg])) (by have := hb.size; omega), box_keep (box_keep hR (below_alloc _ _)) (below_alloc _ _), box_keep (heap_at hg) (below_alloc _ _), ba (ba hb _) _⟩
/-- The box was made before, its cells are stored, then the literal is made. -/
theorem DB.mkD {K A C : Int} {g : Nat} (h1 : FE w w0.heap.size v1 l1) (hR : w.heap[bR]? = some (.cells #[.slice none 0 0, .slice none 0 0] 26 (0, 0))) (hb : Below w0.heap.size w0 w)
    (hA : w.heap[bA]? = some (.cells #[.slice none 0 0, .slice none 0 0] 26 (0, 0))) (hne : ¬ bR = bA) (hlo : w0.heap.size ≤ bA) (hg : w.heap.size = g) :
    DB w0 (((w.setCell ⟨bA, 0, none⟩ v1).setCell ⟨bA, 1, none⟩ (.slice (some ⟨g, 0, none⟩) 1 1)).alloc (.cells #[.int .i64 K, .int .i64 A, .int .i64 C] 56)) bR bA v1 (.slice (some ⟨g, 0, none⟩) 1 1) l1 [(K, A, C)] :=
  ⟨(h1.set2 hA (by decide)).alloc _, FE.litA (heap_at (by simp [hg])) (by have := hb.size; omega), box_keep (box_other (box_other hR _ _ hne) _ _ hne) (below_alloc _ _), box_keep (box_set1 (box_set0 hA _) _) (below_alloc _ _), ba ((hb.setCell hlo _).setCell hlo _) _⟩
/-- The box was made before, its cells are stored last. -/
theorem DB.mkB (h1 : FE w w0.heap.size v1 l1) (h2 : FE w w0.heap.size v2 l2) (hR : w.heap[bR]? = some (.cells #[.slice none 0 0, .slice none 0 0] 26 (0, 0))) (hb : Below w0.heap.size w0 w)
    (hA : w.heap[bA]? = some (.cells #[.slice none 0 0, .slice none 0 0] 26 (0, 0))) (hne : ¬ bR = bA) (hlo : w0.heap.size ≤ bA) :
    DB w0 ((w.setCell ⟨bA, 0, none⟩ v1).setCell ⟨bA, 1, none⟩ v2) bR bA v1 v2 l1 l2 :=
  ⟨h1.set2 hA (by decide), h2.set2 hA (by decide), box_other (box_other hR _ _ hne) _ _ hne, box_set1 (box_set0 hA _) _, (hb.setCell hlo _).setCell hlo _⟩
end
end Go.Proofs.Ytdjfdopgjlbloaa
