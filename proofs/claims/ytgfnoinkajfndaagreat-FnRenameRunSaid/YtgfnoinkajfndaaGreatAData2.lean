/- Data2: texts Mk, Lx1, Lx2, ExKit in one. -/
import Derived.Test.YtgfnoinkajfndaaGreatAData1
/- How the laws measure and mark data, in plain Lean; the helpers for lists of numbers, facts and atoms in one form. -/
namespace Go.Proofs.YtgfnoinkajfndaaGreat
open Go.RowKit

class Mk (α : Type) where
  size : α → Nat
  cnt : α → Nat
  mark : Int → α → α
  le : ∀ a, cnt a ≤ 3 * size a
def mkL {α : Type} [Mk α] (k : Int) : List α → List α
  | [] => []
  | x :: r => Mk.mark k x :: mkL (k + Mk.cnt x) r
theorem sum_le3 {α : Type} [Mk α] : ∀ l : List α, (l.map (Mk.cnt (α := α))).sum ≤ 3 * (l.map (Mk.size (α := α))).sum
  | [] => by simp
  | x :: r => by
    have h1 := Mk.le x
    have h2 := sum_le3 r
    simp only [List.map_cons, List.sum_cons]
    omega
instance : Mk (List Int) := ⟨fun l => l.length, fun l => l.length, fun k l => mks k l.length, fun l => by show l.length ≤ 3 * l.length; omega⟩
instance : Mk (List Fact) := ⟨fun l => l.length, fun l => 3 * l.length, fun k l => mkFacts k l.length, fun _ => Nat.le_refl _⟩
instance : Mk (List Atom) := ⟨fun l => l.length, fun l => 3 * l.length, fun k l => mkAtoms k l.length, fun _ => Nat.le_refl _⟩
instance {α β : Type} [Mk α] [Mk β] : Mk (α × β) :=
  ⟨fun p => Mk.size p.1 + Mk.size p.2, fun p => Mk.cnt p.1 + Mk.cnt p.2, fun k p => (Mk.mark k p.1, Mk.mark (k + Mk.cnt p.1) p.2), fun p => by
    have := Mk.le p.1
    have := Mk.le p.2
    show Mk.cnt p.1 + Mk.cnt p.2 ≤ 3 * (Mk.size p.1 + Mk.size p.2)
    omega⟩
instance {α : Type} [Mk α] : Mk (List α) :=
  ⟨fun l => l.length + (l.map Mk.size).sum, fun l => (l.map Mk.cnt).sum, mkL, fun l => by
    have := sum_le3 l
    show (l.map Mk.cnt).sum ≤ 3 * (l.length + (l.map Mk.size).sum)
    omega⟩

section
variable {α : Type} [Inhabited α] {f : α → Nat} {l : List α} {k : Nat}
end
section
variable {α : Type} [Inhabited α] [Mk α] {k0 : Int} {l : List α} {k : Nat}
end

theorem own_cInt (w : World) (B : Nat) (x : Int) : Own.own w B x [.int .i64 x] [] := ⟨rfl, rfl⟩
theorem fp_int {w : World} {B : Nat} {a : Int} {cs : List Value} {fp : List Nat} (h : Own.own w B a cs fp) : fp = [] := h.2
theorem nth_ints {l : List Int} {i : Nat} (h : i < l.length) : nth 1 (ints l) i = [.int .i64 (gd l i)] := by
  have hl : (ints l).length = l.length := by simp
  unfold nth
  rw [Nat.mul_one, List.drop_eq_getElem_cons (by omega)]
  simp [ints, gd_of h]
theorem ints_OL {w : World} {B : Nat} {v : Value} {l : List Int} (h : w.ownsRow B 3 1 v l.length (ints l)) : OL w B v l v.ownBlock.toList :=
  flat_OL (c := fun x => [.int .i64 x]) own_cInt h fun _ hi => nth_ints hi
theorem OL.ints {w : World} {B : Nat} {v : Value} {l : List Int} {fp : List Nat} (h : OL w B v l fp) : w.ownsRow B 3 1 v l.length (ints l) ∧ fp = v.ownBlock.toList := by
  have hfp := (h.row fp_int).2
  refine ⟨?_, hfp⟩
  obtain ⟨xs, fps, hr, hl, _, ho⟩ := h
  have : xs = Go.Proofs.YtgfnoinkajfndaaGreat.ints l := by
    have h1 : xs.length = l.length := by rw [hr.1]; exact Nat.mul_one _
    refine List.ext_getElem (by rw [h1]; simp) fun i h2 h3 => ?_
    have h0 : nth 1 xs i = [.int .i64 (gd l i)] := (ho i (by omega)).1
    have h4 := nth_at (sz := 1) (i := i) (j := 0) (xs := xs) (u := .int .i64 (gd l i)) (by rw [h0]; rfl)
    rw [Nat.mul_one, Nat.add_zero, List.getElem?_eq_getElem h2] at h4
    injection h4 with h4
    rw [h4]
    simp [gd_of (show i < l.length by omega)]
  rw [this] at hr
  exact hr
theorem nodup_own (v : Value) : v.ownBlock.toList.Nodup := by cases v.ownBlock <;> simp
end Go.Proofs.YtgfnoinkajfndaaGreat
/- Walks: the helpers of the laws for structs of two lists. -/
namespace Go.Proofs.YtgfnoinkajfndaaGreat
open Go.RowKit

theorem OL.setB {α : Type} [Own α] [Tid α] {w : World} {B : Nat} {v : Value} {l : List α} {fp : List Nat} {p : Addr} {u : Value} (h : OL w B v l fp) (hp : p.block < B) : OL (w.setCell p u) B v l fp :=
  h.okept (fr_set _ _ _) fun k hk e => by have := (h.lt k hk).1; omega

theorem RL.ext {α : Type} [Dat α] {w : World} {S : Nat → Prop} {v : Value} {l : List α} (h : RL w S v l) (x : Ext w) : RL (ext w x) S v l := h.keep x.below
end Go.Proofs.YtgfnoinkajfndaaGreat
/- Walks: the helpers of the laws for lists of assertions and lists of lists of numbers. -/
namespace Go.Proofs.YtgfnoinkajfndaaGreat
open Go.RowKit

end Go.Proofs.YtgfnoinkajfndaaGreat
/- Small words for the walks of exact laws. -/
namespace Go.Proofs.YtgfnoinkajfndaaGreat
open Go.RowKit
theorem RL.lt {α : Type} [Dat α] {w : World} {S : Nat → Prop} {v : Value} {l : List α} (h : RL w S v l) : RL w (fun k => k < w.heap.size) v l := h.more fun _ hk _ => hk
end Go.Proofs.YtgfnoinkajfndaaGreat
