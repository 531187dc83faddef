/- Base3: texts L1, L2, L3, Frame, Ext in one. -/
import Derived.Test.YtgfnoinkajfndaaGreatABase1
import Derived.Test.YtgfnoinkajfndaaGreatRows
import Derived.ProofKit
import Derived.OpenShut
import Derived.ShutString
import Derived.ChangeOld
import Derived.Lib.SmallJoins
import Derived.Handy
import Derived.Deep.DeepMust
/- Walks: the helpers of the laws: sizes, copies, comparisons, marks. -/
namespace Go.Proofs.YtgfnoinkajfndaaGreat
open Go.RowKit

/-- Two lists agree up to k. -/
theorem take_eq_succ {l1 l2 : List Int} {k : Nat} (h1 : k < l1.length) (h2 : k < l2.length) (h : l1.take k = l2.take k) (e : gi l1 k = gi l2 k) : l1.take (k + 1) = l2.take (k + 1) := by
  rw [List.take_succ_eq_append_getElem h1, List.take_succ_eq_append_getElem h2, h]
  rw [gi_of h1, gi_of h2] at e
  rw [e]

theorem ne_of_gi {l1 l2 : List Int} {k : Nat} (e : ¬ gi l1 k = gi l2 k) : ¬ l1 = l2 := fun h => e (by rw [h])

end Go.Proofs.YtgfnoinkajfndaaGreat
/- Walks: the helpers of the laws: copies and marks. -/
namespace Go.Proofs.YtgfnoinkajfndaaGreat
open Go.RowKit

/-- The marks from `k0` on. -/
def mks (k0 : Int) (n : Nat) : List Int := (List.range n).map fun (i : Nat) => k0 + i
/-- An owned slice of at least one element. -/
theorem own_form {w : World} {B e n : Nat} {v : Value} {xs : List Value} (h : w.ownsRow B e 1 v n xs) : ∃ a cap, v = .slice a n cap ∧ (∀ i, i < n → ∃ g, a = some ⟨g, 0, none⟩) := by
  rcases h.2 with ⟨rfl, rfl⟩ | ⟨g, cap, cur, rfl, _⟩
  · exact ⟨none, 0, rfl, fun i hi => by omega⟩
  · exact ⟨_, cap, rfl, fun _ _ => ⟨g, rfl⟩⟩

end Go.Proofs.YtgfnoinkajfndaaGreat
/- Walks: marks of states. -/
namespace Go.Proofs.YtgfnoinkajfndaaGreat
open Go.RowKit

end Go.Proofs.YtgfnoinkajfndaaGreat
/- From the form of the claim to the vocabulary of the walks: arguments that come in. -/
namespace Go.Proofs.YtgfnoinkajfndaaGreat
open Go.ChangeShapes Go.WideShapes Go.ChangeAt Go.RowKit Go.Joins

theorem own_knob : ownKnob Tryz.prog.godebug = none := by kernel_rfl
theorem laid_out : laidOutB Tryz.prog = true := by kernel_rfl

end Go.Proofs.YtgfnoinkajfndaaGreat
/- Worlds that extend another, as terms that the walk sees through; readable data carried along them. -/
namespace Go.Proofs.YtgfnoinkajfndaaGreat
open Go.RowKit

theorem to_ext {w w' : World} (h : Below w.heap.size w w') : ∃ x, w' = ext w x := ⟨⟨w', h⟩, rfl⟩
theorem ext_below (w : World) (x : Ext w) : Below w.heap.size w (ext w x) := x.below
@[simp, go_sem] theorem frozen?_ext (w : World) (x : Ext w) (p : Addr) (h : p.block < w.heap.size) : (ext w x).frozen? p = w.frozen? p := x.below.frozen h
theorem le_ext (w : World) (x : Ext w) : w.heap.size ≤ (ext w x).heap.size := x.below.size
@[simp, go_sem] theorem lt_ext (w : World) (x : Ext w) (k : Nat) (h : k < w.heap.size) : k < (ext w x).heap.size := Nat.lt_of_lt_of_le h x.below.size
@[simp, go_sem] theorem eq_ext (w : World) (x : Ext w) (k : Nat) (h : k < w.heap.size) : (k = (ext w x).heap.size) = False := by
  have := x.below.size
  simp only [eq_iff_iff, iff_false]
  show ¬ k = x.to.heap.size
  omega
@[simp, go_sem] theorem lte_ext (w : World) (x : Ext w) (k : Nat) (h : k < w.heap.size) : k ≤ (ext w x).heap.size := Nat.le_of_lt (Nat.lt_of_lt_of_le h x.below.size)
theorem to_ext2 {w w' : World} {x : Ext w} (h : Below (ext w x).heap.size (ext w x) w') : ∃ z, w' = ext w z := ⟨⟨w', bt x.below h⟩, rfl⟩
@[simp, go_sem] theorem lt_p2 (n : Nat) : n < n + 1 + 1 := by omega
@[simp, go_sem] theorem lt_p3 (n : Nat) : n < n + 1 + 1 + 1 := by omega
@[simp, go_sem] theorem lt_p4 (n : Nat) : n < n + 1 + 1 + 1 + 1 := by omega
/-- A chain of extensions. -/
theorem be {a b : World} (h : Below a.heap.size a b) (x : Ext b) : Below a.heap.size a (ext b x) := bt h x.below
theorem ba {a b : World} (h : Below a.heap.size a b) (o : Obj) : Below a.heap.size a (b.alloc o) := bt h (below_alloc _ _)
theorem bd {a b : World} (h : Below a.heap.size a b) : Below a.heap.size a b.drew := bt h (below_drew _)

theorem rints_ext {w : World} {v : Value} {l : List Int} {x : Ext w} (h : RInts w v l) : RInts (ext w x) v l := h.keep x.below
theorem rints_alloc {w : World} {v : Value} {l : List Int} {o : Obj} (h : RInts w v l) : RInts (w.alloc o) v l := h.keep (below_alloc _ _)
theorem rints_drew {w : World} {v : Value} {l : List Int} (h : RInts w v l) : RInts w.drew v l := h.keep (below_drew _)
/-- A world lies above another one: by how it was made ('Bl', its proof found where it is used). -/
theorem Bl {B : Nat} {w w' : World} (h : Below B w w' := by repeat (first | exact Below.refl _ _ | with_reducible assumption | exact below_alloc _ _ | (refine Below.setCell ?_ (by first | (simp; done) | (simp; omega) | omega) _) | apply bd | apply ba | apply be)) : Below B w w' := h
/-- A slice reads as a list: by what is known ('Rd'). -/
theorem Rd {w : World} {v : Value} {l : List Int} (h : RInts w v l := by repeat (first | with_reducible assumption | exact (own_ints (by assumption)).1 | apply rints_ext | apply rints_alloc | apply rints_drew)) : RInts w v l := h
theorem results_cell_tmp {P : Program} {fn : Func} {p q : Tmp} {ty : TypeId} (h : fn.results = #[.cell p ty, .tmp q]) (tmps : Array Value) (w : World) {ad : Addr} {v : Value}
    (hp : tmps.getD p undef = .pointer (some ad)) (hl : (loadVar ty ad).run P w = .ok v w) : (results fn tmps).run P w = .ok (.tuple #[v, tmps.getD q undef]) w := by
  have hp' : tmps[p]?.getD undef = .pointer (some ad) := by simpa using hp
  simp [results, h, hp', asAddr, hl]
end Go.Proofs.YtgfnoinkajfndaaGreat
