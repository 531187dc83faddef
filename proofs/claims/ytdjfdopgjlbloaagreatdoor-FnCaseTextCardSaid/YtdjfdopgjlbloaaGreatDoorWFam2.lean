/- Data2: texts Mk, Lx1, Lx2, ExKit in one. -/
import Derived.Test.YtdjfdopgjlbloaaGreatDoorWData1
import Derived.Test.YtdjfdopgjlbloaaGreatDoorWData3
import Derived.Test.YtdjfdopgjlbloaaGreatDoorWRens
import Derived.Deep.RegionHeld3
/- How the laws measure and mark data, in plain Lean; the helpers for lists of numbers, facts and atoms in one form. -/
namespace Go.Proofs.YtdjfdopgjlbloaaGreatDoor
open Go.RowKit

class Mk (α : Type) where
  size : α → Nat
  cnt : α → Nat
  mark : Int → α → α
  le : ∀ a, cnt a ≤ 3 * size a
def mkL {α : Type} [Mk α] (k : Int) : List α → List α
  | [] => []
  | x :: r => Mk.mark k x :: mkL (k + Mk.cnt x) r
theorem sum_le3 {α : Type} [Mk α] : ∀ l : List α, (l.map (Mk.cnt (α := α))).sum ≤ 3 * (l.map (Mk.size (α := α))).sum
  | [] => by simp
  | x :: r => by
    have h1 := Mk.le x
    have h2 := sum_le3 r
    simp only [List.map_cons, List.sum_cons]
    omega
instance : Mk (List Int) := ⟨fun l => l.length, fun l => l.length, fun k l => mks k l.length, fun l => by show l.length ≤ 3 * l.length; omega⟩
instance : Mk (List Fact) := ⟨fun l => l.length, fun l => 3 * l.length, fun k l => mkFacts k l.length, fun _ => Nat.le_refl _⟩
instance : Mk (List Atom) := ⟨fun l => l.length, fun l => 3 * l.length, fun k l => mkAtoms k l.length, fun _ => Nat.le_refl _⟩
instance {α β : Type} [Mk α] [Mk β] : Mk (α × β) :=
  ⟨fun p => Mk.size p.1 + Mk.size p.2, fun p => Mk.cnt p.1 + Mk.cnt p.2, fun k p => (Mk.mark k p.1, Mk.mark (k + Mk.cnt p.1) p.2), fun p => by
    have := Mk.le p.1
    have := Mk.le p.2
    show Mk.cnt p.1 + Mk.cnt p.2 ≤ 3 * (Mk.size p.1 + Mk.size p.2)
    omega⟩
instance {α : Type} [Mk α] : Mk (List α) :=
  ⟨fun l => l.length + (l.map Mk.size).sum, fun l => (l.map Mk.cnt).sum, mkL, fun l => by
    have := sum_le3 l
    show (l.map Mk.cnt).sum ≤ 3 * (l.length + (l.map Mk.size).sum)
    omega⟩

section
variable {α : Type} [Inhabited α] {f : α → Nat} {l : List α} {k : Nat}
end
section
variable {α : Type} [Inhabited α] [Mk α] {k0 : Int} {l : List α} {k : Nat}
end

theorem own_cInt (w : World) (B : Nat) (x : Int) : Own.own w B x [.int .i64 x] [] := ⟨rfl, rfl⟩
theorem fp_int {w : World} {B : Nat} {a : Int} {cs : List Value} {fp : List Nat} (h : Own.own w B a cs fp) : fp = [] := h.2
theorem nth_ints {l : List Int} {i : Nat} (h : i < l.length) : nth 1 (ints l) i = [.int .i64 (gd l i)] := by
  have hl : (ints l).length = l.length := by simp
  unfold nth
  rw [Nat.mul_one, List.drop_eq_getElem_cons (by omega)]
  simp [ints, gd_of h]
theorem ints_OL {w : World} {B : Nat} {v : Value} {l : List Int} (h : w.ownsRow B 3 1 v l.length (ints l)) : OL w B v l v.ownBlock.toList :=
  flat_OL (c := fun x => [.int .i64 x]) own_cInt h fun _ hi => nth_ints hi
theorem OL.ints {w : World} {B : Nat} {v : Value} {l : List Int} {fp : List Nat} (h : OL w B v l fp) : w.ownsRow B 3 1 v l.length (ints l) ∧ fp = v.ownBlock.toList := by
  have hfp := (h.row fp_int).2
  refine ⟨?_, hfp⟩
  obtain ⟨xs, fps, hr, hl, _, ho⟩ := h
  have : xs = Go.Proofs.YtdjfdopgjlbloaaGreatDoor.ints l := by
    have h1 : xs.length = l.length := by rw [hr.1]; exact Nat.mul_one _
    refine List.ext_getElem (by rw [h1]; simp) fun i h2 h3 => ?_
    have h0 : nth 1 xs i = [.int .i64 (gd l i)] := (ho i (by omega)).1
    have h4 := nth_at (sz := 1) (i := i) (j := 0) (xs := xs) (u := .int .i64 (gd l i)) (by rw [h0]; rfl)
    rw [Nat.mul_one, Nat.add_zero, List.getElem?_eq_getElem h2] at h4
    injection h4 with h4
    rw [h4]
    simp [gd_of (show i < l.length by omega)]
  rw [this] at hr
  exact hr
theorem nodup_own (v : Value) : v.ownBlock.toList.Nodup := by cases v.ownBlock <;> simp
end Go.Proofs.YtdjfdopgjlbloaaGreatDoor
/- Walks: the helpers of the laws for structs of two lists. -/
namespace Go.Proofs.YtdjfdopgjlbloaaGreatDoor
open Go.RowKit

theorem OL.setB {α : Type} [Own α] [Tid α] {w : World} {B : Nat} {v : Value} {l : List α} {fp : List Nat} {p : Addr} {u : Value} (h : OL w B v l fp) (hp : p.block < B) : OL (w.setCell p u) B v l fp :=
  h.okept (fr_set _ _ _) fun k hk e => by have := (h.lt k hk).1; omega

theorem RL.ext {α : Type} [Dat α] {w : World} {S : Nat → Prop} {v : Value} {l : List α} (h : RL w S v l) (x : Ext w) : RL (ext w x) S v l := h.keep x.below
end Go.Proofs.YtdjfdopgjlbloaaGreatDoor
/- Walks: the helpers of the laws for lists of assertions and lists of lists of numbers. -/
namespace Go.Proofs.YtdjfdopgjlbloaaGreatDoor
open Go.RowKit

theorem info_IntSS : (Tryz.prog.info? 23).map (fun i => (i.zero, i.size, i.bytes)) = some (some (.slice none 0 0), 1, 24) := by kernel_rfl
end Go.Proofs.YtdjfdopgjlbloaaGreatDoor
/- Small words for the walks of exact laws. -/
namespace Go.Proofs.YtdjfdopgjlbloaaGreatDoor
open Go.RowKit
theorem RL.lt {α : Type} [Dat α] {w : World} {S : Nat → Prop} {v : Value} {l : List α} (h : RL w S v l) : RL w (fun k => k < w.heap.size) v l := h.more fun _ hk _ => hk
end Go.Proofs.YtdjfdopgjlbloaaGreatDoor
/- Fam1: texts Jn1, Jn2, Jn3 in one. -/
/- Walks: lists joined; copies of assertions, of the program. -/
namespace Go.Proofs.YtdjfdopgjlbloaaGreatDoor
open Go.RowKit

end Go.Proofs.YtdjfdopgjlbloaaGreatDoor
/- Walks: copies of assertions, of the program. -/
namespace Go.Proofs.YtdjfdopgjlbloaaGreatDoor
open Go.RowKit

section
variable {α β : Type} [Own α] [Tid α] [Own β] [Tid β] {w w' w'' : World} {B B1 B2 : Nat} {v1 v2 : Value} {l1 : List α} {l2 : List β} {f1 f2 : List Nat} {a : List α × List β}
theorem OA.setB (h : OA w B v1 v2 a) {p : Addr} {u : Value} (hp : p.block < B) : OA (w.setCell p u) B v1 v2 a :=
  h.kept (fr_set _ _ _) fun k h1 _ e => by omega
end

end Go.Proofs.YtdjfdopgjlbloaaGreatDoor
/- Walks: copies of families, of the program; families joined. -/
namespace Go.Proofs.YtdjfdopgjlbloaaGreatDoor
open Go.RowKit

end Go.Proofs.YtdjfdopgjlbloaaGreatDoor
/- Fam2: texts Star, Star2, Join in one. -/
/- Walks: the reference's separating conjunction and copies. -/
namespace Go.Proofs.YtdjfdopgjlbloaaGreatDoor
open Go.RowKit

theorem RL.setB {α : Type} [Dat α] {w : World} {S : Nat → Prop} {v : Value} {l : List α} (h : RL w S v l) {p : Addr} {u : Value} (hp : ∀ k, S k → ¬ k = p.block) : RL (w.setCell p u) S v l := h.kept (fr_set _ _ _) fun k _ h1 h2 => hp k h1 h2

theorem RL.forms {α : Type} [Dat α] {w : World} {S : Nat → Prop} {v : Value} {l : List α} (h : RL w S v l) : ∃ a n cap, v = .slice a n cap := by obtain ⟨a, c, h⟩ := h.form; exact ⟨a, _, c, h⟩

end Go.Proofs.YtdjfdopgjlbloaaGreatDoor
/- Walks: copies of families, of the reference; families joined. -/
namespace Go.Proofs.YtdjfdopgjlbloaaGreatDoor
open Go.RowKit

/-- A row of the call's own whose elements can be read and do not hang on the row itself. -/
def TR {α : Type} [Dat α] (w : World) (B : Nat) (e : TypeId) (v : Value) (l : List α) : Prop :=
  ∃ xs, w.ownsRow B e (Dat.sz α) v l.length xs ∧ ∀ i, i < l.length → Dat.rd w (fun k => B ≤ k ∧ ¬ some k = v.ownBlock) (gd l i) (nth (Dat.sz α) xs i)
section
variable {α : Type} [Dat α] {w w' : World} {B : Nat} {e : TypeId} {v v' : Value} {l m : List α} {xs ys : List Value}
theorem TR.keep (h : TR w B e v l) (hb : Below w.heap.size w w') : TR w' B e v l := by
  obtain ⟨xs, hr, hx⟩ := h
  exact ⟨xs, own_keep hr hb, fun i hi => Dat.kept (hx i hi) (Below.fr hb) fun _ _ _ h => h⟩
theorem TR.rl (h : TR w B e v l) : RL w (fun k => B ≤ k) v l := by
  obtain ⟨xs, hr, hx⟩ := h
  exact (RowE.rl (.inr hr) hx).more fun k _ h => h.elim (fun h => h.1) id
theorem TR.lt (h : TR w B e v l) : ∀ j, some j = v.ownBlock → j < w.heap.size := fun j hj => by
  obtain ⟨xs, hr, _⟩ := h; exact (own_lt hr hj).2
theorem TR.nil (w : World) (B : Nat) (e : TypeId) : TR w B e (.slice none 0 0) ([] : List α) := ⟨[], World.ownsRow_nil _ _ _ _, fun i hi => absurd hi (by simp)⟩
theorem TR.of (h : w.ownsRow B e (Dat.sz α) v 0 []) : TR w B e v ([] : List α) := ⟨[], h, fun i hi => absurd hi (by simp)⟩
theorem TR.app (hr0 : w.ownsRow B e (Dat.sz α) v l.length xs) (hx : ∀ i, i < l.length → Dat.rd w (fun k => B ≤ k ∧ ¬ some k = v.ownBlock) (gd l i) (nth (Dat.sz α) xs i)) (hf : Fr (fun k => some k = v.ownBlock) w w')
    (hr : w'.ownsRow B e (Dat.sz α) v' (l.length + m.length) (xs ++ ys)) (hlie : v'.ownBlock = v.ownBlock ∨ v'.ownBlock = some w.heap.size)
    (hy : ∀ i, i < m.length → Dat.rd w (fun k => B ≤ k ∧ ¬ some k = v.ownBlock) (gd m i) (nth (Dat.sz α) ys i)) : TR w' B e v' (l ++ m) := by
  have conv : ∀ {a : α} {cs : List Value}, Dat.rd w (fun k => B ≤ k ∧ ¬ some k = v.ownBlock) a cs → Dat.rd w' (fun k => B ≤ k ∧ ¬ some k = v'.ownBlock) a cs := fun h =>
    Dat.more (Dat.kept (Dat.more (S' := fun k => (B ≤ k ∧ ¬ some k = v.ownBlock) ∧ k < w.heap.size) h fun k hk hs => ⟨hs, hk⟩) hf fun k _ hs => hs.1.2) fun k _ hs => ⟨hs.1.1, fun he => by
      rcases hlie with h | h
      · exact hs.1.2 (he.trans h)
      · rw [h] at he
        injection he with he
        have := hs.2
        omega⟩
  refine ⟨xs ++ ys, by rw [List.length_append]; exact hr, fun i hi => ?_⟩
  rw [List.length_append] at hi
  by_cases hlt : i < l.length
  · rw [gd_app1 hlt, nth_app1 hr0.1 hlt]; exact conv (hx i hlt)
  · obtain ⟨j, rfl⟩ : ∃ j, i = l.length + j := ⟨i - l.length, by omega⟩
    rw [gd_app2 (by omega), nth_app3 hr0.1, Nat.add_sub_cancel_left]
    exact conv (hy j (by omega))
end
/-- The asserted bounds of one assertion. -/
def asSz (a : Asn) : Prop := a.1.length ≤ 1048576 ∧ a.2.length ≤ 1048576
end Go.Proofs.YtdjfdopgjlbloaaGreatDoor
/- Walks: families joined, in the program and in the reference. -/
namespace Go.Proofs.YtdjfdopgjlbloaaGreatDoor
open Go.RowKit

end Go.Proofs.YtdjfdopgjlbloaaGreatDoor
