/- Worlds that extend another, as terms that the walk sees through; readable data carried along them. -/
import Derived.Test.YtnhhfbhhglhocaaQuiet
import Derived.Test.YtnhhfbhhglhocaaLaws
import Derived.Test.YtnhhfbhhglhocaaW1
import Derived.Handy
import Derived.Deep.DeepMust
namespace Go.Proofs.Ytnhhfbhhglhocaa
open Go.RowKit

theorem to_ext {w w' : World} (h : Below w.heap.size w w') : ∃ x, w' = ext w x := ⟨⟨w', h⟩, rfl⟩
theorem ext_below (w : World) (x : Ext w) : Below w.heap.size w (ext w x) := x.below
@[simp, go_sem] theorem frozen?_ext (w : World) (x : Ext w) (p : Addr) (h : p.block < w.heap.size) : (ext w x).frozen? p = w.frozen? p := x.below.frozen h
theorem le_ext (w : World) (x : Ext w) : w.heap.size ≤ (ext w x).heap.size := x.below.size
@[simp, go_sem] theorem lt_ext (w : World) (x : Ext w) (k : Nat) (h : k < w.heap.size) : k < (ext w x).heap.size := Nat.lt_of_lt_of_le h x.below.size
@[simp, go_sem] theorem eq_ext (w : World) (x : Ext w) (k : Nat) (h : k < w.heap.size) : (k = (ext w x).heap.size) = False := by
  have := x.below.size
  simp only [eq_iff_iff, iff_false]
  show ¬ k = x.to.heap.size
  omega
@[simp, go_sem] theorem lte_ext (w : World) (x : Ext w) (k : Nat) (h : k < w.heap.size) : k ≤ (ext w x).heap.size := Nat.le_of_lt (Nat.lt_of_lt_of_le h x.below.size)
theorem to_ext2 {w w' : World} {x : Ext w} (h : Below (ext w x).heap.size (ext w x) w') : ∃ z, w' = ext w z := ⟨⟨w', bt x.below h⟩, rfl⟩
@[simp, go_sem] theorem lt_p2 (n : Nat) : n < n + 1 + 1 := by omega
@[simp, go_sem] theorem lt_p3 (n : Nat) : n < n + 1 + 1 + 1 := by omega
@[simp, go_sem] theorem lt_p4 (n : Nat) : n < n + 1 + 1 + 1 + 1 := by omega
theorem heap_ext (w : World) (x : Ext w) (k : Nat) (h : k < w.heap.size) : (ext w x).heap[k]? = w.heap[k]? := x.below.block k h

/-- A chain of extensions. -/
theorem be {a b : World} (h : Below a.heap.size a b) (x : Ext b) : Below a.heap.size a (ext b x) := bt h x.below
theorem ba {a b : World} (h : Below a.heap.size a b) (o : Obj) : Below a.heap.size a (b.alloc o) := bt h (below_alloc _ _)
theorem bd {a b : World} (h : Below a.heap.size a b) : Below a.heap.size a b.drew := bt h (below_drew _)

theorem rints_ext {w : World} {v : Value} {l : List Int} {x : Ext w} (h : RInts w v l) : RInts (ext w x) v l := h.keep x.below
theorem rints_alloc {w : World} {v : Value} {l : List Int} {o : Obj} (h : RInts w v l) : RInts (w.alloc o) v l := h.keep (below_alloc _ _)
theorem rints_drew {w : World} {v : Value} {l : List Int} (h : RInts w v l) : RInts w.drew v l := h.keep (below_drew _)
theorem own_extI {w : World} {x : Ext w} {B e sz n : Nat} {v : Value} {xs : List Value} (h : w.ownsRow B e sz v n xs) : (ext w x).ownsRow B e sz v n xs := own_keep h x.below
theorem own_allocI {w : World} {o : Obj} {B e sz n : Nat} {v : Value} {xs : List Value} (h : w.ownsRow B e sz v n xs) : (w.alloc o).ownsRow B e sz v n xs := own_keep h (below_alloc _ _)
theorem own_drewI {w : World} {B e sz n : Nat} {v : Value} {xs : List Value} (h : w.ownsRow B e sz v n xs) : w.drew.ownsRow B e sz v n xs := own_keep h (below_drew _)
/-- What stands behind the first element. -/
theorem rints_tail {w : World} {b o n c m c' : Nat} {y : Int} {l : List Int} (h : RInts w (.slice (some ⟨b, o, none⟩) n c) (y :: l)) (hm : m = l.length) (h1 : m ≤ c') (h2 : c' ≤ maxLen) : RInts w (.slice (some ⟨b, o + 1, none⟩) m c') l := by
  subst hm
  refine .inr ⟨b, o + 1, c', rfl, h1, h2, fun i hi => ?_⟩
  have := (h.at (i + 1) (by simp; omega)).2
  rw [show o + 1 + i = o + (i + 1) by omega, this]
  simp [gi]
theorem rints_zero {w : World} {a : Addr} {c : Nat} (h2 : c ≤ maxLen) : RInts w (.slice (some a) 0 c) [] := .inl ⟨some a, c, rfl, rfl, h2, fun h => by cases h⟩
theorem lt_new (w : World) (o : Obj) : w.heap.size < (w.alloc o).heap.size := by simp
theorem results_cell_tmp {P : Program} {fn : Func} {p q : Tmp} {ty : TypeId} (h : fn.results = #[.cell p ty, .tmp q]) (tmps : Array Value) (w : World) {ad : Addr} {v : Value}
    (hp : tmps.getD p undef = .pointer (some ad)) (hl : (loadVar ty ad).run P w = .ok v w) : (results fn tmps).run P w = .ok (.tuple #[v, tmps.getD q undef]) w := by
  have hp' : tmps[p]?.getD undef = .pointer (some ad) := by simpa using hp
  simp [results, h, hp', asAddr, hl]
/-- A new box of two cells. -/
theorem cell_new20 (w : World) (a b : Value) (T : TypeId) : (w.alloc (.cells #[a, b] T)).cell? ⟨w.heap.size, 0, none⟩ = some a := by simp
theorem cell_new21 (w : World) (a b : Value) (T : TypeId) : (w.alloc (.cells #[a, b] T)).cell? ⟨w.heap.size, 1, none⟩ = some b := by simp
theorem cell_new20d (w : World) (a b : Value) (T : TypeId) : ((w.alloc (.cells #[a, b] T)).drew).cell? ⟨w.heap.size, 0, none⟩ = some a := by simp
theorem cell_new21d (w : World) (a b : Value) (T : TypeId) : ((w.alloc (.cells #[a, b] T)).drew).cell? ⟨w.heap.size, 1, none⟩ = some b := by simp
theorem free_new2d (w : World) (c : Array Value) (T : TypeId) (i : Nat) : ((w.alloc (.cells c T)).drew).frozen? ⟨w.heap.size, i, none⟩ = false := by simp [go_sem]
theorem free_new2 (w : World) (c : Array Value) (T : TypeId) (i : Nat) : (w.alloc (.cells c T)).frozen? ⟨w.heap.size, i, none⟩ = false := by simp [go_sem]
end Go.Proofs.Ytnhhfbhhglhocaa
