/- How the laws measure and mark data, in plain Lean; the helpers for lists of numbers, facts and atoms in one form. -/
import Derived.Test.YtnhhfbhhglhocaaOwn2
import Derived.Test.YtnhhfbhhglhocaaLf1a
import Derived.Test.YtnhhfbhhglhocaaLs2
namespace Go.Proofs.Ytnhhfbhhglhocaa
open Go.RowKit

class Mk (α : Type) where
  size : α → Nat
  cnt : α → Nat
  mark : Int → α → α
  le : ∀ a, cnt a ≤ 3 * size a
def mkL {α : Type} [Mk α] (k : Int) : List α → List α
  | [] => []
  | x :: r => Mk.mark k x :: mkL (k + Mk.cnt x) r
theorem sum_le3 {α : Type} [Mk α] : ∀ l : List α, (l.map (Mk.cnt (α := α))).sum ≤ 3 * (l.map (Mk.size (α := α))).sum
  | [] => by simp
  | x :: r => by
    have h1 := Mk.le x
    have h2 := sum_le3 r
    simp only [List.map_cons, List.sum_cons]
    omega
instance : Mk (List Int) := ⟨fun l => l.length, fun l => l.length, fun k l => mks k l.length, fun l => by show l.length ≤ 3 * l.length; omega⟩
instance : Mk (List Fact) := ⟨fun l => l.length, fun l => 3 * l.length, fun k l => mkFacts k l.length, fun _ => Nat.le_refl _⟩
instance : Mk (List Atom) := ⟨fun l => l.length, fun l => 3 * l.length, fun k l => mkAtoms k l.length, fun _ => Nat.le_refl _⟩
instance {α β : Type} [Mk α] [Mk β] : Mk (α × β) :=
  ⟨fun p => Mk.size p.1 + Mk.size p.2, fun p => Mk.cnt p.1 + Mk.cnt p.2, fun k p => (Mk.mark k p.1, Mk.mark (k + Mk.cnt p.1) p.2), fun p => by
    have := Mk.le p.1
    have := Mk.le p.2
    show Mk.cnt p.1 + Mk.cnt p.2 ≤ 3 * (Mk.size p.1 + Mk.size p.2)
    omega⟩
instance {α : Type} [Mk α] : Mk (List α) :=
  ⟨fun l => l.length + (l.map Mk.size).sum, fun l => (l.map Mk.cnt).sum, mkL, fun l => by
    have := sum_le3 l
    show (l.map Mk.cnt).sum ≤ 3 * (l.length + (l.map Mk.size).sum)
    omega⟩

/-- What is left of a measure. -/
def szF (left : Int) (s : Nat) : Int := if (s : Int) ≤ left then left - s else -1
theorem szF_fit {left : Int} {s : Nat} (h : (s : Int) ≤ left) : szF left s = left - s := if_pos h
theorem szF_big {left : Int} {s : Nat} (h : left < (s : Int)) : szF left s = -1 := if_neg (by omega)

def psum {α : Type} (f : α → Nat) (l : List α) (k : Nat) : Nat := ((l.take k).map f).sum
theorem psum_zero {α : Type} (f : α → Nat) (l : List α) : psum f l 0 = 0 := rfl
theorem psum_all {α : Type} {f : α → Nat} {l : List α} : psum f l l.length = (l.map f).sum := by rw [psum, List.take_length]
theorem psum_le {α : Type} {f : α → Nat} {l : List α} (k : Nat) : psum f l k ≤ (l.map f).sum := by
  unfold psum
  have e : (l.map f).sum = ((l.take k).map f).sum + ((l.drop k).map f).sum := by
    rw [← List.sum_append, ← List.map_append, List.take_append_drop]
  omega
section
variable {α : Type} [Inhabited α] {f : α → Nat} {l : List α} {k : Nat}
theorem psum_succ (h : k < l.length) : psum f l (k + 1) = psum f l k + f (gd l k) := by
  unfold psum
  rw [take_gd h, List.map_append, List.sum_append]
  simp
theorem psum_mem (h : k < l.length) : f (gd l k) ≤ (l.map f).sum := by
  have h1 := psum_succ (f := f) h
  have h2 := psum_le (f := f) (l := l) (k + 1)
  omega
theorem psum_cnt {β : Type} [Mk β] {l : List β} (k : Nat) : psum (Mk.cnt (α := β)) l k ≤ 3 * psum (Mk.size (α := β)) l k := sum_le3 _
end
/-- The first k elements are marked. -/
def mkTo {α : Type} [Inhabited α] [Mk α] (k0 : Int) (l : List α) (k : Nat) : List α := mkL k0 (l.take k) ++ l.drop k
theorem mkL_len {α : Type} [Mk α] : ∀ (k0 : Int) (l : List α), (mkL k0 l).length = l.length
  | _, [] => rfl
  | k0, x :: r => by rw [mkL, List.length_cons, mkL_len, List.length_cons]
theorem mkL_app {α : Type} [Mk α] : ∀ (k0 : Int) (l m : List α), mkL k0 (l ++ m) = mkL k0 l ++ mkL (k0 + ((l.map Mk.cnt).sum : Nat)) m
  | k0, [], m => by simp [mkL]
  | k0, x :: r, m => by
    rw [List.cons_append, mkL, mkL_app, mkL, List.cons_append, List.map_cons, List.sum_cons]
    congr 3
    omega
section
variable {α : Type} [Inhabited α] [Mk α] {k0 : Int} {l : List α} {k : Nat}
theorem mkTo_zero : mkTo k0 l 0 = l := rfl
theorem mkTo_all : mkTo k0 l l.length = mkL k0 l := by rw [mkTo, List.take_length, List.drop_length, List.append_nil]
theorem mkTo_len : (mkTo k0 l k).length = l.length := by
  rw [mkTo, List.length_append, mkL_len, List.length_take, List.length_drop]; omega
theorem mkTo_gd (h : k < l.length) : gd (mkTo k0 l k) k = gd l k := by
  have hl : (mkL k0 (l.take k)).length = k := by rw [mkL_len, List.length_take]; omega
  rw [mkTo, gd_app2 (by omega), hl, Nat.sub_self]
  rw [List.drop_eq_getElem_cons h, gd_cons0, gd_of h]
theorem mkTo_set (h : k < l.length) : (mkTo k0 l k).set k (Mk.mark (k0 + (psum Mk.cnt l k : Nat)) (gd l k)) = mkTo k0 l (k + 1) := by
  have hl : (mkL k0 (l.take k)).length = k := by rw [mkL_len, List.length_take]; omega
  rw [mkTo, mkTo, take_gd h, mkL_app, List.set_append_right _ _ (by omega), hl, Nat.sub_self, List.append_assoc]
  congr 1
  rw [List.drop_eq_getElem_cons h, List.set_cons_zero]
  rfl
/-- The i-th of a marked list. -/
theorem gd_mkL (h : k < l.length) : gd (mkL k0 l) k = Mk.mark (k0 + (psum Mk.cnt l k : Nat)) (gd l k) := by
  have e : l = l.take k ++ gd l k :: l.drop (k + 1) := by
    rw [gd_of h, ← List.drop_eq_getElem_cons h, List.take_append_drop]
  have hl : (mkL k0 (l.take k)).length = k := by rw [mkL_len, List.length_take]; omega
  conv => lhs; rw [e]
  rw [mkL_app, gd_app2 (by omega), hl, Nat.sub_self, mkL, gd_cons0]
  rfl
end

theorem szIntS_rl {S : Nat → Prop} (v : Value) (l : List Int) (left : Int) (w : World) (h : RL w S v l) (h0 : 0 ≤ left) (h1 : left ≤ 1048576) :
    Calls Try.prog 57 #[v, .int .i64 left] w fun e w' => e = .returned (.int .i64 (szF left (Mk.size l))) ∧ Below w.heap.size w w' := by
  have hm := h.len
  obtain ⟨a, c, rfl⟩ := h.form
  by_cases hf : (l.length : Int) ≤ left
  · refine (szIntS_fit a l.length c left w h1 hf).mono ?_
    rintro e w' ⟨rfl, rfl⟩
    exact ⟨by rw [show Mk.size l = l.length from rfl, szF_fit hf], Below.refl _ _⟩
  · refine (szIntS_big a l.length c left w h0 (by omega) hm).mono ?_
    rintro e w' ⟨rfl, rfl⟩
    exact ⟨by rw [show Mk.size l = l.length from rfl, szF_big (by omega)], Below.refl _ _⟩
theorem szFactS_rl {S : Nat → Prop} (v : Value) (l : List Fact) (left : Int) (w : World) (h : RL w S v l) (h0 : 0 ≤ left) (h1 : left ≤ 1048576) :
    Calls Try.prog 96 #[v, .int .i64 left] w fun e w' => e = .returned (.int .i64 (szF left (Mk.size l))) ∧ Below w.heap.size w w' := by
  have hm := h.len
  obtain ⟨a, c, rfl⟩ := h.form
  by_cases hf : (l.length : Int) ≤ left
  · refine (szFactS_fit a l.length c left w h1 hf).mono ?_
    rintro e w' ⟨rfl, rfl⟩
    exact ⟨by rw [show Mk.size l = l.length from rfl, szF_fit hf], Below.refl _ _⟩
  · refine (szFactS_big a l.length c left w h0 (by omega) hm).mono ?_
    rintro e w' ⟨rfl, rfl⟩
    exact ⟨by rw [show Mk.size l = l.length from rfl, szF_big (by omega)], Below.refl _ _⟩
theorem szAtomS_rl {S : Nat → Prop} (v : Value) (l : List Atom) (left : Int) (w : World) (h : RL w S v l) (h0 : 0 ≤ left) (h1 : left ≤ 1048576) :
    Calls Try.prog 97 #[v, .int .i64 left] w fun e w' => e = .returned (.int .i64 (szF left (Mk.size l))) ∧ Below w.heap.size w w' := by
  have hm := h.len
  obtain ⟨a, c, rfl⟩ := h.form
  by_cases hf : (l.length : Int) ≤ left
  · refine (szAtomS_fit a l.length c left w h1 hf).mono ?_
    rintro e w' ⟨rfl, rfl⟩
    exact ⟨by rw [show Mk.size l = l.length from rfl, szF_fit hf], Below.refl _ _⟩
  · refine (szAtomS_big a l.length c left w h0 (by omega) hm).mono ?_
    rintro e w' ⟨rfl, rfl⟩
    exact ⟨by rw [show Mk.size l = l.length from rfl, szF_big (by omega)], Below.refl _ _⟩
theorem own_cInt (w : World) (B : Nat) (x : Int) : Own.own w B x [.int .i64 x] [] := ⟨rfl, rfl⟩
theorem fp_int {w : World} {B : Nat} {a : Int} {cs : List Value} {fp : List Nat} (h : Own.own w B a cs fp) : fp = [] := h.2
theorem nth_ints {l : List Int} {i : Nat} (h : i < l.length) : nth 1 (ints l) i = [.int .i64 (gd l i)] := by
  have hl : (ints l).length = l.length := by simp
  unfold nth
  rw [Nat.mul_one, List.drop_eq_getElem_cons (by omega)]
  simp [ints, gd_of h]
theorem ints_OL {w : World} {B : Nat} {v : Value} {l : List Int} (h : w.ownsRow B 3 1 v l.length (ints l)) : OL w B v l v.ownBlock.toList :=
  flat_OL (c := fun x => [.int .i64 x]) own_cInt h fun _ hi => nth_ints hi
theorem OL.ints {w : World} {B : Nat} {v : Value} {l : List Int} {fp : List Nat} (h : OL w B v l fp) : w.ownsRow B 3 1 v l.length (ints l) ∧ fp = v.ownBlock.toList := by
  have hfp := (h.row fp_int).2
  refine ⟨?_, hfp⟩
  obtain ⟨xs, fps, hr, hl, _, ho⟩ := h
  have : xs = Go.Proofs.Ytnhhfbhhglhocaa.ints l := by
    have h1 : xs.length = l.length := by rw [hr.1]; exact Nat.mul_one _
    refine List.ext_getElem (by rw [h1]; simp) fun i h2 h3 => ?_
    have h0 : nth 1 xs i = [.int .i64 (gd l i)] := (ho i (by omega)).1
    have h4 := nth_at (sz := 1) (i := i) (j := 0) (xs := xs) (u := .int .i64 (gd l i)) (by rw [h0]; rfl)
    rw [Nat.mul_one, Nat.add_zero, List.getElem?_eq_getElem h2] at h4
    injection h4 with h4
    rw [h4]
    simp [gd_of (show i < l.length by omega)]
  rw [this] at hr
  exact hr
theorem nodup_own (v : Value) : v.ownBlock.toList.Nodup := by cases v.ownBlock <;> simp
theorem toIntS_rl {S : Nat → Prop} (v : Value) (l : List Int) (w : World) (h : RL w S v l) (hl : Mk.size l ≤ 1048576) :
    Calls Try.prog 62 #[v] w fun e w' => ∃ v', e = .returned v' ∧ OO w' w.heap.size v' l ∧ Below w.heap.size w w' :=
  (toIntS_any v l w h.ints hl).mono fun _ _ ⟨v', he, ho, hb⟩ => ⟨v', he, ⟨_, ints_OL ho, nodup_own v'⟩, hb⟩
theorem toFactS_rl {S : Nat → Prop} (v : Value) (l : List Fact) (w : World) (h : RL w S v l) (hl : Mk.size l ≤ 1048576) :
    Calls Try.prog 102 #[v] w fun e w' => ∃ v', e = .returned v' ∧ OO w' w.heap.size v' l ∧ Below w.heap.size w w' := toFactS_any v l w h hl
theorem toAtomS_rl {S : Nat → Prop} (v : Value) (l : List Atom) (w : World) (h : RL w S v l) (hl : Mk.size l ≤ 1048576) :
    Calls Try.prog 103 #[v] w fun e w' => ∃ v', e = .returned v' ∧ OO w' w.heap.size v' l ∧ Below w.heap.size w w' := toAtomS_any v l w h hl
theorem eqIntS_rl {S1 S2 : Nat → Prop} (v1 v2 : Value) (l1 l2 : List Int) (w : World) (h1 : RL w S1 v1 l1) (h2 : RL w S2 v2 l2) :
    Calls Try.prog 64 #[v1, v2] w fun e w' => e = .returned (.bool (decide (l1 = l2))) ∧ Below w.heap.size w w' := eqIntS_any v1 v2 l1 l2 w h1.ints h2.ints
theorem eqFactS_rl {S1 S2 : Nat → Prop} (v1 v2 : Value) (l1 l2 : List Fact) (w : World) (h1 : RL w S1 v1 l1) (h2 : RL w S2 v2 l2) :
    Calls Try.prog 110 #[v1, v2] w fun e w' => e = .returned (.bool (decide (l1 = l2))) ∧ Below w.heap.size w w' := eqFactS_any v1 v2 l1 l2 w h1 h2
theorem eqAtomS_rl {S1 S2 : Nat → Prop} (v1 v2 : Value) (l1 l2 : List Atom) (w : World) (h1 : RL w S1 v1 l1) (h2 : RL w S2 v2 l2) :
    Calls Try.prog 111 #[v1, v2] w fun e w' => e = .returned (.bool (decide (l1 = l2))) ∧ Below w.heap.size w w' := eqAtomS_any v1 v2 l1 l2 w h1 h2
theorem markFactS_rl (B : Nat) (v : Value) (l : List Fact) (fp : List Nat) (k0 : Int) (w : World) (h : OL w B v l fp) (_hn : fp.Nodup) (h0 : 0 ≤ k0) (h1 : k0 + 3 * Mk.size l ≤ 1099511627776) (hl : Mk.size l ≤ 1048576) :
    Calls Try.prog 76 #[v, .int .i64 k0] w fun e w' => e = .returned (.int .i64 (k0 + Mk.cnt l)) ∧ OL w' B v (Mk.mark k0 l) fp ∧ Fr (fun k => k ∈ fp) w w' :=
  (markFactS_any B v l fp k0 w h h0 (by omega) hl).mono fun _ _ ⟨he, ho, hf⟩ => ⟨by rw [he]; congr 2, ho, hf⟩
theorem markAtomS_rl (B : Nat) (v : Value) (l : List Atom) (fp : List Nat) (k0 : Int) (w : World) (h : OL w B v l fp) (_hn : fp.Nodup) (h0 : 0 ≤ k0) (h1 : k0 + 3 * Mk.size l ≤ 1099511627776) (hl : Mk.size l ≤ 1048576) :
    Calls Try.prog 77 #[v, .int .i64 k0] w fun e w' => e = .returned (.int .i64 (k0 + Mk.cnt l)) ∧ OL w' B v (Mk.mark k0 l) fp ∧ Fr (fun k => k ∈ fp) w w' :=
  (markAtomS_any B v l fp k0 w h h0 (by omega) hl).mono fun _ _ ⟨he, ho, hf⟩ => ⟨by rw [he]; congr 2, ho, hf⟩
theorem heldFactS_rl {S : Nat → Prop} (v : Value) (l : List Fact) (k0 : Int) (w : World) (h : RL w S v (Mk.mark k0 l)) (h0 : 0 ≤ k0) (h1 : k0 + 3 * Mk.size l ≤ 1099511627776) (hl : Mk.size l ≤ 1048576) :
    Calls Try.prog 78 #[v, .int .i64 k0] w fun e w' => e = .returned (.int .i64 (k0 + Mk.cnt l)) ∧ Below w.heap.size w w' :=
  (heldFactS_any v l.length k0 w h h0 (by omega) hl).mono fun _ _ ⟨he, hw⟩ => ⟨by rw [he]; congr 2, hw ▸ Below.refl _ _⟩
theorem heldAtomS_rl {S : Nat → Prop} (v : Value) (l : List Atom) (k0 : Int) (w : World) (h : RL w S v (Mk.mark k0 l)) (h0 : 0 ≤ k0) (h1 : k0 + 3 * Mk.size l ≤ 1099511627776) (hl : Mk.size l ≤ 1048576) :
    Calls Try.prog 79 #[v, .int .i64 k0] w fun e w' => e = .returned (.int .i64 (k0 + Mk.cnt l)) ∧ Below w.heap.size w w' :=
  (heldAtomS_any v l.length k0 w h h0 (by omega) hl).mono fun _ _ ⟨he, hw⟩ => ⟨by rw [he]; congr 2, hw ▸ Below.refl _ _⟩
end Go.Proofs.Ytnhhfbhhglhocaa
