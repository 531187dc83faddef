/- Walks: draws of atoms and assertions. -/
import Derived.Test.YtdjfdopgjlbloaaVAppF
import Derived.Test.YtdjfdopgjlbloaaVCpy
import Derived.Test.YtdjfdopgjlbloaaVFam2
import Derived.Deep.RegionHeld3
import Derived.Handy
namespace Go.Proofs.Ytdjfdopgjlbloaa
open Go.RowKit

theorem heap3 (w : World) (a b c : Value) (T : TypeId) : (w.alloc (.cells #[a, b, c] T)).heap[w.heap.size]? = some (.cells #[a, b, c] T (0, 0)) := heap_alloc_new w _
section
variable {w : World} {b : Nat} {T : TypeId} {x y z : Value}
theorem c30 (h : w.heap[b]? = some (.cells #[x, y, z] T (0, 0))) : w.cell? ⟨b, 0, none⟩ = some x := cell_of_row w b 0 _ _ _ h
theorem c31 (h : w.heap[b]? = some (.cells #[x, y, z] T (0, 0))) : w.cell? ⟨b, 1, none⟩ = some y := cell_of_row w b 1 _ _ _ h
theorem c32 (h : w.heap[b]? = some (.cells #[x, y, z] T (0, 0))) : w.cell? ⟨b, 2, none⟩ = some z := cell_of_row w b 2 _ _ _ h
theorem c3z (h : w.heap[b]? = some (.cells #[x, y, z] T (0, 0))) (i : Nat) : w.frozen? ⟨b, i, none⟩ = false := frozen_of_row w b i _ _ h
end
theorem atomB_mk {k a b : Int} (hk : k = 1 ∨ k = 2) (h1 : 0 ≤ a) (h2 : a ≤ 8) (h3 : 0 ≤ b) (h4 : b ≤ 8) : atomB (k, a, b) = true := by
  have e1 := isTermB_iff.2 (And.intro h1 h2)
  have e2 := isTermB_iff.2 (And.intro h3 h4)
  simp only [atomB, e1, e2]
  rcases hk with rfl | rfl <;> rfl

/-- An assertion that is being drawn: its rows, the reader, the box of the result, its own box. -/
structure DA (w0 w : World) (g q bR bA : Nat) (v1 v2 : Value) (l1 : List Fact) (l2 : List Atom) : Prop where
  f : FE w w0.heap.size v1 l1
  a : FE w w0.heap.size v2 l2
  boxR : w.heap[bR]? = some (.cells #[.slice none 0 0, .slice none 0 0] 26 (0, 0))
  boxA : w.heap[bA]? = some (.cells #[v1, v2] 26 (0, 0))
  rdr : Rdr w g q
  fr : Fr (fun j => j = g) w0 w
section
variable {w0 w w' : World} {g q q' bR bA : Nat} {v1 v2 v' : Value} {l1 m1 : List Fact} {l2 m2 : List Atom}
theorem DA.keep (h : DA w0 w g q bR bA v1 v2 l1 l2) (hb : Below w.heap.size w w') : DA w0 w' g q bR bA v1 v2 l1 l2 :=
  ⟨h.f.keep hb, h.a.keep hb, box_keep h.boxR hb, box_keep h.boxA hb, h.rdr.keep hb, h.fr.thenB hb⟩
theorem DA.drawn (h : DA w0 w g q bR bA v1 v2 l1 l2) (hr : Rdr w' g q') (hf : Fr (fun j => j = g) w w') (hg : g < w0.heap.size) (hR : ¬ bR = g) (hA : ¬ bA = g) : DA w0 w' g q' bR bA v1 v2 l1 l2 :=
  ⟨h.f.kept hf fun k hk e => by have := hk.1; omega, h.a.kept hf fun k hk e => by have := hk.1; omega, box_kept h.boxR hf hR, box_kept h.boxA hf hA, hr, h.fr.trans hf⟩
theorem DA.app1 (h : DA w0 w g q bR bA v1 v2 l1 l2) (hg : g < w0.heap.size) (hne : ¬ bR = bA) (hlo : w0.heap.size ≤ bA) (h1 : FE w' w0.heap.size v' m1) (hf : Fr (TF w w0.heap.size 53) w w') :
    DA w0 (w'.setCell ⟨bA, 0, none⟩ v') g q bR bA v' v2 m1 l2 := by
  have hA := box_tf h.boxA hf (by decide)
  have hS : ∀ {e : TypeId}, 26 ≠ e → ¬ TF w' w0.heap.size e bA := fun hne => tf_ne hA hne
  exact ⟨h1.setB (hS (by decide)), (h.a.tf hf (by decide)).setB (hS (by decide)), box_other (box_tf h.boxR hf (by decide)) _ _ hne, box_set0 hA _,
    ((h.rdr.kept hf fun k hk e => by have := e.1; omega).kept (fr_set _ _ _) fun k hk e => by simp at e; omega),
    (h.fr.then hf fun i hi e => by have := e.1; omega).then (fr_set _ _ _) fun i hi e => by simp at e; omega⟩
theorem DA.app2 (h : DA w0 w g q bR bA v1 v2 l1 l2) (hg : g < w0.heap.size) (hne : ¬ bR = bA) (hlo : w0.heap.size ≤ bA) (h1 : FE w' w0.heap.size v' m2) (hf : Fr (TF w w0.heap.size 56) w w') :
    DA w0 (w'.setCell ⟨bA, 1, none⟩ v') g q bR bA v1 v' l1 m2 := by
  have hA := box_tf h.boxA hf (by decide)
  have hS : ∀ {e : TypeId}, 26 ≠ e → ¬ TF w' w0.heap.size e bA := fun hne => tf_ne hA hne
  exact ⟨(h.f.tf hf (by decide)).setB (hS (by decide)), h1.setB (hS (by decide)), box_other (box_tf h.boxR hf (by decide)) _ _ hne, box_set1 hA _,
    ((h.rdr.kept hf fun k hk e => by have := e.1; omega).kept (fr_set _ _ _) fun k hk e => by simp at e; omega),
    (h.fr.then hf fun i hi e => by have := e.1; omega).then (fr_set _ _ _) fun i hi e => by simp at e; omega⟩
/-- The result is laid. -/
theorem DA.done (h : DA w0 w g q bR bA v1 v2 l1 l2) (hg : g < w0.heap.size) (hlo : w0.heap.size ≤ bR) (x y : Value) :
    (FE ((w.setCell ⟨bR, 0, none⟩ x).setCell ⟨bR, 1, none⟩ y) w0.heap.size v1 l1 ∧ FE ((w.setCell ⟨bR, 0, none⟩ x).setCell ⟨bR, 1, none⟩ y) w0.heap.size v2 l2) ∧
    Rdr ((w.setCell ⟨bR, 0, none⟩ x).setCell ⟨bR, 1, none⟩ y) g q ∧ Fr (fun j => j = g) w0 ((w.setCell ⟨bR, 0, none⟩ x).setCell ⟨bR, 1, none⟩ y) := by
  have hS : ∀ {e : TypeId}, 26 ≠ e → ¬ TF w w0.heap.size e bR := fun hne => tf_ne h.boxR hne
  have hS2 : ∀ {e : TypeId}, 26 ≠ e → ¬ TF (w.setCell ⟨bR, 0, none⟩ x) w0.heap.size e bR := fun hne => tf_ne (box_set0 h.boxR x) hne
  exact ⟨⟨(h.f.setB (hS (by decide))).setB (hS2 (by decide)), (h.a.setB (hS (by decide))).setB (hS2 (by decide))⟩,
    (h.rdr.kept (fr_set _ _ _) (fun k hk e => by simp at e; omega)).kept (fr_set _ _ _) (fun k hk e => by simp at e; omega),
    (h.fr.then (fr_set _ _ _) (fun i hi e => by simp at e; omega)).then (fr_set _ _ _) (fun i hi e => by simp at e; omega)⟩
end
end Go.Proofs.Ytdjfdopgjlbloaa
