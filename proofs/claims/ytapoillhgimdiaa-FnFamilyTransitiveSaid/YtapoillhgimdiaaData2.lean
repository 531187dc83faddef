/- Data2: texts Mk, Lx1, Lx2, ExKit in one. -/
import Derived.Test.YtapoillhgimdiaaData1
/- How the laws measure and mark data, in plain Lean; the helpers for lists of numbers, facts and atoms in one form. -/
namespace Go.Proofs.Ytapoillhgimdiaa
open Go.RowKit

class Mk (α : Type) where
  size : α → Nat
  cnt : α → Nat
  mark : Int → α → α
  le : ∀ a, cnt a ≤ 3 * size a
def mkL {α : Type} [Mk α] (k : Int) : List α → List α
  | [] => []
  | x :: r => Mk.mark k x :: mkL (k + Mk.cnt x) r
theorem sum_le3 {α : Type} [Mk α] : ∀ l : List α, (l.map (Mk.cnt (α := α))).sum ≤ 3 * (l.map (Mk.size (α := α))).sum
  | [] => by simp
  | x :: r => by
    have h1 := Mk.le x
    have h2 := sum_le3 r
    simp only [List.map_cons, List.sum_cons]
    omega
instance : Mk (List Int) := ⟨fun l => l.length, fun l => l.length, fun k l => mks k l.length, fun l => by show l.length ≤ 3 * l.length; omega⟩
instance : Mk (List Fact) := ⟨fun l => l.length, fun l => 3 * l.length, fun k l => mkFacts k l.length, fun _ => Nat.le_refl _⟩
instance : Mk (List Atom) := ⟨fun l => l.length, fun l => 3 * l.length, fun k l => mkAtoms k l.length, fun _ => Nat.le_refl _⟩
instance {α β : Type} [Mk α] [Mk β] : Mk (α × β) :=
  ⟨fun p => Mk.size p.1 + Mk.size p.2, fun p => Mk.cnt p.1 + Mk.cnt p.2, fun k p => (Mk.mark k p.1, Mk.mark (k + Mk.cnt p.1) p.2), fun p => by
    have := Mk.le p.1
    have := Mk.le p.2
    show Mk.cnt p.1 + Mk.cnt p.2 ≤ 3 * (Mk.size p.1 + Mk.size p.2)
    omega⟩
instance {α : Type} [Mk α] : Mk (List α) :=
  ⟨fun l => l.length + (l.map Mk.size).sum, fun l => (l.map Mk.cnt).sum, mkL, fun l => by
    have := sum_le3 l
    show (l.map Mk.cnt).sum ≤ 3 * (l.length + (l.map Mk.size).sum)
    omega⟩

/-- What is left of a measure. -/
def szF (left : Int) (s : Nat) : Int := if (s : Int) ≤ left then left - s else -1
theorem szF_fit {left : Int} {s : Nat} (h : (s : Int) ≤ left) : szF left s = left - s := if_pos h
theorem szF_big {left : Int} {s : Nat} (h : left < (s : Int)) : szF left s = -1 := if_neg (by omega)

def psum {α : Type} (f : α → Nat) (l : List α) (k : Nat) : Nat := ((l.take k).map f).sum
theorem psum_zero {α : Type} (f : α → Nat) (l : List α) : psum f l 0 = 0 := rfl
theorem psum_all {α : Type} {f : α → Nat} {l : List α} : psum f l l.length = (l.map f).sum := by rw [psum, List.take_length]
theorem psum_le {α : Type} {f : α → Nat} {l : List α} (k : Nat) : psum f l k ≤ (l.map f).sum := by
  unfold psum
  have e : (l.map f).sum = ((l.take k).map f).sum + ((l.drop k).map f).sum := by
    rw [← List.sum_append, ← List.map_append, List.take_append_drop]
  omega
section
variable {α : Type} [Inhabited α] {f : α → Nat} {l : List α} {k : Nat}
theorem psum_succ (h : k < l.length) : psum f l (k + 1) = psum f l k + f (gd l k) := by
  unfold psum
  rw [take_gd h, List.map_append, List.sum_append]
  simp
theorem psum_mem (h : k < l.length) : f (gd l k) ≤ (l.map f).sum := by
  have h1 := psum_succ (f := f) h
  have h2 := psum_le (f := f) (l := l) (k + 1)
  omega
theorem psum_cnt {β : Type} [Mk β] {l : List β} (k : Nat) : psum (Mk.cnt (α := β)) l k ≤ 3 * psum (Mk.size (α := β)) l k := sum_le3 _
end
/-- The first k elements are marked. -/
def mkTo {α : Type} [Inhabited α] [Mk α] (k0 : Int) (l : List α) (k : Nat) : List α := mkL k0 (l.take k) ++ l.drop k
theorem mkL_len {α : Type} [Mk α] : ∀ (k0 : Int) (l : List α), (mkL k0 l).length = l.length
  | _, [] => rfl
  | k0, x :: r => by rw [mkL, List.length_cons, mkL_len, List.length_cons]
theorem mkL_app {α : Type} [Mk α] : ∀ (k0 : Int) (l m : List α), mkL k0 (l ++ m) = mkL k0 l ++ mkL (k0 + ((l.map Mk.cnt).sum : Nat)) m
  | k0, [], m => by simp [mkL]
  | k0, x :: r, m => by
    rw [List.cons_append, mkL, mkL_app, mkL, List.cons_append, List.map_cons, List.sum_cons]
    congr 3
    omega
section
variable {α : Type} [Inhabited α] [Mk α] {k0 : Int} {l : List α} {k : Nat}
theorem mkTo_zero : mkTo k0 l 0 = l := rfl
theorem mkTo_all : mkTo k0 l l.length = mkL k0 l := by rw [mkTo, List.take_length, List.drop_length, List.append_nil]
theorem mkTo_len : (mkTo k0 l k).length = l.length := by
  rw [mkTo, List.length_append, mkL_len, List.length_take, List.length_drop]; omega
theorem mkTo_gd (h : k < l.length) : gd (mkTo k0 l k) k = gd l k := by
  have hl : (mkL k0 (l.take k)).length = k := by rw [mkL_len, List.length_take]; omega
  rw [mkTo, gd_app2 (by omega), hl, Nat.sub_self]
  rw [List.drop_eq_getElem_cons h, gd_cons0, gd_of h]
theorem mkTo_set (h : k < l.length) : (mkTo k0 l k).set k (Mk.mark (k0 + (psum Mk.cnt l k : Nat)) (gd l k)) = mkTo k0 l (k + 1) := by
  have hl : (mkL k0 (l.take k)).length = k := by rw [mkL_len, List.length_take]; omega
  rw [mkTo, mkTo, take_gd h, mkL_app, List.set_append_right _ _ (by omega), hl, Nat.sub_self, List.append_assoc]
  congr 1
  rw [List.drop_eq_getElem_cons h, List.set_cons_zero]
  rfl
/-- The i-th of a marked list. -/
theorem gd_mkL (h : k < l.length) : gd (mkL k0 l) k = Mk.mark (k0 + (psum Mk.cnt l k : Nat)) (gd l k) := by
  have e : l = l.take k ++ gd l k :: l.drop (k + 1) := by
    rw [gd_of h, ← List.drop_eq_getElem_cons h, List.take_append_drop]
  have hl : (mkL k0 (l.take k)).length = k := by rw [mkL_len, List.length_take]; omega
  conv => lhs; rw [e]
  rw [mkL_app, gd_app2 (by omega), hl, Nat.sub_self, mkL, gd_cons0]
  rfl
end

theorem szFactS_rl {S : Nat → Prop} (v : Value) (l : List Fact) (left : Int) (w : World) (h : RL w S v l) (h0 : 0 ≤ left) (h1 : left ≤ 1048576) :
    Calls Try.prog 84 #[v, .int .i64 left] w fun e w' => e = .returned (.int .i64 (szF left (Mk.size l))) ∧ Below w.heap.size w w' := by
  have hm := h.len
  obtain ⟨a, c, rfl⟩ := h.form
  by_cases hf : (l.length : Int) ≤ left
  · refine (szFactS_fit a l.length c left w h1 hf).mono ?_
    rintro e w' ⟨rfl, rfl⟩
    exact ⟨by rw [show Mk.size l = l.length from rfl, szF_fit hf], Below.refl _ _⟩
  · refine (szFactS_big a l.length c left w h0 (by omega) hm).mono ?_
    rintro e w' ⟨rfl, rfl⟩
    exact ⟨by rw [show Mk.size l = l.length from rfl, szF_big (by omega)], Below.refl _ _⟩
theorem szAtomS_rl {S : Nat → Prop} (v : Value) (l : List Atom) (left : Int) (w : World) (h : RL w S v l) (h0 : 0 ≤ left) (h1 : left ≤ 1048576) :
    Calls Try.prog 85 #[v, .int .i64 left] w fun e w' => e = .returned (.int .i64 (szF left (Mk.size l))) ∧ Below w.heap.size w w' := by
  have hm := h.len
  obtain ⟨a, c, rfl⟩ := h.form
  by_cases hf : (l.length : Int) ≤ left
  · refine (szAtomS_fit a l.length c left w h1 hf).mono ?_
    rintro e w' ⟨rfl, rfl⟩
    exact ⟨by rw [show Mk.size l = l.length from rfl, szF_fit hf], Below.refl _ _⟩
  · refine (szAtomS_big a l.length c left w h0 (by omega) hm).mono ?_
    rintro e w' ⟨rfl, rfl⟩
    exact ⟨by rw [show Mk.size l = l.length from rfl, szF_big (by omega)], Below.refl _ _⟩
theorem own_cInt (w : World) (B : Nat) (x : Int) : Own.own w B x [.int .i64 x] [] := ⟨rfl, rfl⟩
theorem fp_int {w : World} {B : Nat} {a : Int} {cs : List Value} {fp : List Nat} (h : Own.own w B a cs fp) : fp = [] := h.2
theorem nth_ints {l : List Int} {i : Nat} (h : i < l.length) : nth 1 (ints l) i = [.int .i64 (gd l i)] := by
  have hl : (ints l).length = l.length := by simp
  unfold nth
  rw [Nat.mul_one, List.drop_eq_getElem_cons (by omega)]
  simp [ints, gd_of h]
theorem ints_OL {w : World} {B : Nat} {v : Value} {l : List Int} (h : w.ownsRow B 3 1 v l.length (ints l)) : OL w B v l v.ownBlock.toList :=
  flat_OL (c := fun x => [.int .i64 x]) own_cInt h fun _ hi => nth_ints hi
theorem OL.ints {w : World} {B : Nat} {v : Value} {l : List Int} {fp : List Nat} (h : OL w B v l fp) : w.ownsRow B 3 1 v l.length (ints l) ∧ fp = v.ownBlock.toList := by
  have hfp := (h.row fp_int).2
  refine ⟨?_, hfp⟩
  obtain ⟨xs, fps, hr, hl, _, ho⟩ := h
  have : xs = Go.Proofs.Ytapoillhgimdiaa.ints l := by
    have h1 : xs.length = l.length := by rw [hr.1]; exact Nat.mul_one _
    refine List.ext_getElem (by rw [h1]; simp) fun i h2 h3 => ?_
    have h0 : nth 1 xs i = [.int .i64 (gd l i)] := (ho i (by omega)).1
    have h4 := nth_at (sz := 1) (i := i) (j := 0) (xs := xs) (u := .int .i64 (gd l i)) (by rw [h0]; rfl)
    rw [Nat.mul_one, Nat.add_zero, List.getElem?_eq_getElem h2] at h4
    injection h4 with h4
    rw [h4]
    simp [gd_of (show i < l.length by omega)]
  rw [this] at hr
  exact hr
theorem nodup_own (v : Value) : v.ownBlock.toList.Nodup := by cases v.ownBlock <;> simp
theorem toIntS_rl {S : Nat → Prop} (v : Value) (l : List Int) (w : World) (h : RL w S v l) (hl : Mk.size l ≤ 1048576) :
    Calls Try.prog 80 #[v] w fun e w' => ∃ v', e = .returned v' ∧ OO w' w.heap.size v' l ∧ Below w.heap.size w w' :=
  (toIntS_any v l w h.ints hl).mono fun _ _ ⟨v', he, ho, hb⟩ => ⟨v', he, ⟨_, ints_OL ho, nodup_own v'⟩, hb⟩
theorem toFactS_rl {S : Nat → Prop} (v : Value) (l : List Fact) (w : World) (h : RL w S v l) (hl : Mk.size l ≤ 1048576) :
    Calls Try.prog 89 #[v] w fun e w' => ∃ v', e = .returned v' ∧ OO w' w.heap.size v' l ∧ Below w.heap.size w w' := toFactS_any v l w h hl
theorem toAtomS_rl {S : Nat → Prop} (v : Value) (l : List Atom) (w : World) (h : RL w S v l) (hl : Mk.size l ≤ 1048576) :
    Calls Try.prog 90 #[v] w fun e w' => ∃ v', e = .returned v' ∧ OO w' w.heap.size v' l ∧ Below w.heap.size w w' := toAtomS_any v l w h hl
theorem eqIntS_rl {S1 S2 : Nat → Prop} (v1 v2 : Value) (l1 l2 : List Int) (w : World) (h1 : RL w S1 v1 l1) (h2 : RL w S2 v2 l2) :
    Calls Try.prog 81 #[v1, v2] w fun e w' => e = .returned (.bool (decide (l1 = l2))) ∧ Below w.heap.size w w' := eqIntS_any v1 v2 l1 l2 w h1.ints h2.ints
theorem eqFactS_rl {S1 S2 : Nat → Prop} (v1 v2 : Value) (l1 l2 : List Fact) (w : World) (h1 : RL w S1 v1 l1) (h2 : RL w S2 v2 l2) :
    Calls Try.prog 96 #[v1, v2] w fun e w' => e = .returned (.bool (decide (l1 = l2))) ∧ Below w.heap.size w w' := eqFactS_any v1 v2 l1 l2 w h1 h2
theorem eqAtomS_rl {S1 S2 : Nat → Prop} (v1 v2 : Value) (l1 l2 : List Atom) (w : World) (h1 : RL w S1 v1 l1) (h2 : RL w S2 v2 l2) :
    Calls Try.prog 97 #[v1, v2] w fun e w' => e = .returned (.bool (decide (l1 = l2))) ∧ Below w.heap.size w w' := eqAtomS_any v1 v2 l1 l2 w h1 h2
theorem markIntS_rl (B : Nat) (v : Value) (l : List Int) (fp : List Nat) (k0 : Int) (w : World) (h : OL w B v l fp) (_hn : fp.Nodup) (h0 : 0 ≤ k0) (h1 : k0 + 3 * Mk.size l ≤ 1099511627776) (hl : Mk.size l ≤ 1048576) :
    Calls Try.prog 82 #[v, .int .i64 k0] w fun e w' => e = .returned (.int .i64 (k0 + Mk.cnt l)) ∧ OL w' B v (Mk.mark k0 l) fp ∧ Fr (fun k => k ∈ fp) w w' := by
  obtain ⟨hr, rfl⟩ := h.ints
  refine (markIntS_any B v l k0 w hr h0 (by omega) (Nat.le_trans (show l.length ≤ 1048576 from hl) (by decide))).mono ?_
  rintro e w' ⟨rfl, ho, hf⟩
  refine ⟨rfl, ints_OL (l := mks k0 l.length) (by rw [mks_len]; exact ho), hf.mono fun k _ hk => mem_ownBlock.2 hk⟩
theorem markFactS_rl (B : Nat) (v : Value) (l : List Fact) (fp : List Nat) (k0 : Int) (w : World) (h : OL w B v l fp) (_hn : fp.Nodup) (h0 : 0 ≤ k0) (h1 : k0 + 3 * Mk.size l ≤ 1099511627776) (hl : Mk.size l ≤ 1048576) :
    Calls Try.prog 98 #[v, .int .i64 k0] w fun e w' => e = .returned (.int .i64 (k0 + Mk.cnt l)) ∧ OL w' B v (Mk.mark k0 l) fp ∧ Fr (fun k => k ∈ fp) w w' :=
  (markFactS_any B v l fp k0 w h h0 (by omega) hl).mono fun _ _ ⟨he, ho, hf⟩ => ⟨by rw [he]; congr 2, ho, hf⟩
theorem markAtomS_rl (B : Nat) (v : Value) (l : List Atom) (fp : List Nat) (k0 : Int) (w : World) (h : OL w B v l fp) (_hn : fp.Nodup) (h0 : 0 ≤ k0) (h1 : k0 + 3 * Mk.size l ≤ 1099511627776) (hl : Mk.size l ≤ 1048576) :
    Calls Try.prog 99 #[v, .int .i64 k0] w fun e w' => e = .returned (.int .i64 (k0 + Mk.cnt l)) ∧ OL w' B v (Mk.mark k0 l) fp ∧ Fr (fun k => k ∈ fp) w w' :=
  (markAtomS_any B v l fp k0 w h h0 (by omega) hl).mono fun _ _ ⟨he, ho, hf⟩ => ⟨by rw [he]; congr 2, ho, hf⟩
theorem heldIntS_rl {S : Nat → Prop} (v : Value) (l : List Int) (k0 : Int) (w : World) (h : RL w S v (Mk.mark k0 l)) (h0 : 0 ≤ k0) (h1 : k0 + 3 * Mk.size l ≤ 1099511627776) (hl : Mk.size l ≤ 1048576) :
    Calls Try.prog 101 #[v, .int .i64 k0] w fun e w' => e = .returned (.int .i64 (k0 + Mk.cnt l)) ∧ Below w.heap.size w w' :=
  (heldIntS_any v l.length k0 w h.ints h0 (by omega) (by have : l.length ≤ 1048576 := hl; omega)).mono fun _ _ ⟨he, hw⟩ => ⟨he, hw ▸ Below.refl _ _⟩
theorem heldFactS_rl {S : Nat → Prop} (v : Value) (l : List Fact) (k0 : Int) (w : World) (h : RL w S v (Mk.mark k0 l)) (h0 : 0 ≤ k0) (h1 : k0 + 3 * Mk.size l ≤ 1099511627776) (hl : Mk.size l ≤ 1048576) :
    Calls Try.prog 135 #[v, .int .i64 k0] w fun e w' => e = .returned (.int .i64 (k0 + Mk.cnt l)) ∧ Below w.heap.size w w' :=
  (heldFactS_any v l.length k0 w h h0 (by omega) hl).mono fun _ _ ⟨he, hw⟩ => ⟨by rw [he]; congr 2, hw ▸ Below.refl _ _⟩
theorem heldAtomS_rl {S : Nat → Prop} (v : Value) (l : List Atom) (k0 : Int) (w : World) (h : RL w S v (Mk.mark k0 l)) (h0 : 0 ≤ k0) (h1 : k0 + 3 * Mk.size l ≤ 1099511627776) (hl : Mk.size l ≤ 1048576) :
    Calls Try.prog 136 #[v, .int .i64 k0] w fun e w' => e = .returned (.int .i64 (k0 + Mk.cnt l)) ∧ Below w.heap.size w w' :=
  (heldAtomS_any v l.length k0 w h h0 (by omega) hl).mono fun _ _ ⟨he, hw⟩ => ⟨by rw [he]; congr 2, hw ▸ Below.refl _ _⟩
end Go.Proofs.Ytapoillhgimdiaa
/- Walks: the helpers of the laws for structs of two lists. -/
namespace Go.Proofs.Ytapoillhgimdiaa
open Go.RowKit

theorem OL.setB {α : Type} [Own α] [Tid α] {w : World} {B : Nat} {v : Value} {l : List α} {fp : List Nat} {p : Addr} {u : Value} (h : OL w B v l fp) (hp : p.block < B) : OL (w.setCell p u) B v l fp :=
  h.okept (fr_set _ _ _) fun k hk e => by have := (h.lt k hk).1; omega

theorem RL.ext {α : Type} [Dat α] {w : World} {S : Nat → Prop} {v : Value} {l : List α} (h : RL w S v l) (x : Ext w) : RL (ext w x) S v l := h.keep x.below
theorem RL.cpfAt {w : World} {S : Nat → Prop} {v : Value} {l : List CPf} (h : RL w S v l) : ∃ a cap, v = .slice a l.length cap ∧ l.length ≤ cap ∧ cap ≤ maxLen ∧
    ∀ i, i < l.length → ∃ b o v1 v2, a = some ⟨b, o, none⟩ ∧ S b ∧ b < w.heap.size ∧ w.cell? ⟨b, o + i * 2, none⟩ = some v1 ∧ w.cell? ⟨b, o + i * 2 + 1, none⟩ = some v2 ∧ RL w S v1 (gd l i).1 ∧ RL w S v2 (gd l i).2 := by
  obtain ⟨a, cap, e, h1, h2, h3⟩ := h.cells
  refine ⟨a, cap, e, h1, h2, fun i hi => ?_⟩
  obtain ⟨b, o, ea, hs, hb, cs, hr, hc⟩ := h3 i hi
  obtain ⟨v1, v2, rfl, r1, r2⟩ := rd_cpf hr
  exact ⟨b, o, v1, v2, ea, hs, hb, hc 0 _ rfl, hc 1 _ rfl, r1, r2⟩

set_option maxHeartbeats 800000 in
theorem szAssertion_rl {S1 S2 : Nat → Prop} (v1 v2 : Value) (a : Asn) (left : Int) (w : World) (r1 : RL w S1 v1 a.1) (r2 : RL w S2 v2 a.2) (h0 : 0 ≤ left) (h1 : left ≤ 1048576) :
    Calls Try.prog 18 #[.agg #[v1, v2], .int .i64 left] w fun e w' => e = .returned (.int .i64 (szF left (Mk.size a))) ∧ Below w.heap.size w w' := by
  obtain ⟨a1, a2⟩ := a
  simp only at r1 r2
  have hsz : Mk.size ((a1, a2) : Asn) = Mk.size a1 + Mk.size a2 := rfl
  obtain ⟨b1, c1, rfl⟩ := r1.form
  obtain ⟨b2, c2, rfl⟩ := r2.form
  have e1 : (left < (Mk.size a1 : Int)) ∨ ((Mk.size a1 : Int) ≤ left) := by omega
  rcases e1 with hb | hf
  · have hfin : szF left (Mk.size ((a1, a2) : Asn)) = -1 := szF_big (by rw [hsz]; omega)
    have HF := Lib.hid (And.intro hfin (szF_big hb))
    clear hfin hb hsz
    go_enter Try.func18, Try.ntmps18
    go_wp2_with fail
    refine (szFactS_rl _ a1 left _ (r1.alloc _) h0 h1).mono ?_
    rw [HF.out.2]
    rintro e w1 ⟨rfl, hb1⟩
    go_wp2
    go_ret
    exact ⟨by rw [HF.out.1]; rfl, bt (below_alloc _ _) hb1⟩
  have HS := Lib.hid (szF_fit hf)
  have e2 : (left - Mk.size a1 < (Mk.size a2 : Int)) ∨ ((Mk.size a2 : Int) ≤ left - Mk.size a1) := by omega
  rcases e2 with hb | hf2
  · have hfin : szF left (Mk.size ((a1, a2) : Asn)) = -1 := szF_big (by rw [hsz]; omega)
    have HF := Lib.hid (And.intro hfin (szF_big hb))
    clear hfin hb hsz
    go_enter Try.func18, Try.ntmps18
    go_wp2_with fail
    refine (szFactS_rl _ a1 left _ (r1.alloc _) h0 h1).mono ?_
    rw [HS.out]
    rintro e w1 ⟨rfl, hb1⟩
    have hc1 := cell_keep hb1 (p := ⟨w.heap.size, 1, none⟩) (v := .slice b2 a2.length c2) (by simp)
    go_wp2_with fail
    refine (szAtomS_rl _ a2 (left - Mk.size a1) _ ((r2.alloc _).keep hb1) (by omega) (by omega)).mono ?_
    rw [HF.out.2]
    rintro e w2 ⟨rfl, hb2⟩
    go_wp2
    go_ret
    exact ⟨by rw [HF.out.1]; rfl, bt (bt (below_alloc _ _) hb1) hb2⟩
  · have hfin : szF left (Mk.size ((a1, a2) : Asn)) = left - Mk.size a1 - Mk.size a2 := by rw [szF_fit (by rw [hsz]; omega), hsz]; omega
    have HF := Lib.hid (And.intro hfin (szF_fit hf2))
    clear hfin hsz
    go_enter Try.func18, Try.ntmps18
    go_wp2_with fail
    refine (szFactS_rl _ a1 left _ (r1.alloc _) h0 h1).mono ?_
    rw [HS.out]
    rintro e w1 ⟨rfl, hb1⟩
    have hc1 := cell_keep hb1 (p := ⟨w.heap.size, 1, none⟩) (v := .slice b2 a2.length c2) (by simp)
    go_wp2_with fail
    refine (szAtomS_rl _ a2 (left - Mk.size a1) _ ((r2.alloc _).keep hb1) (by omega) (by omega)).mono ?_
    rw [HF.out.2]
    rintro e w2 ⟨rfl, hb2⟩
    go_wp2
    go_ret
    exact ⟨by rw [HF.out.1]; rfl, bt (bt (below_alloc _ _) hb1) hb2⟩
set_option maxHeartbeats 1600000 in
theorem toAssertion_rl {S1 S2 : Nat → Prop} (v1 v2 : Value) (a : Asn) (w : World) (r1 : RL w S1 v1 a.1) (r2 : RL w S2 v2 a.2) (hl : Mk.size a ≤ 1048576) :
    Calls Try.prog 20 #[.agg #[v1, v2]] w fun e w' => ∃ u1 u2, e = .returned (.agg #[u1, u2]) ∧ OA w' w.heap.size u1 u2 a ∧ Below w.heap.size w w' := by
  obtain ⟨a1, a2⟩ := a
  simp only at r1 r2
  have hl1 : Mk.size a1 + Mk.size a2 ≤ 1048576 := hl
  clear hl
  obtain ⟨b1, c1, rfl⟩ := r1.form
  obtain ⟨b2, c2, rfl⟩ := r2.form
  go_enter Try.func20, Try.ntmps20
  go_wp2_with fail
  refine (toFactS_rl _ a1 _ (((r1.alloc _).alloc _).alloc _) (by omega)).mono ?_
  rintro e w1 ⟨u1, rfl, ⟨f1, o1, n1⟩, hb1⟩
  obtain ⟨d1, k1, rfl⟩ := o1.read.form
  have z1 : w.heap.size + 3 ≤ w1.heap.size := by have := hb1.size; simp at this; omega
  have y0 : w.heap.size < w1.heap.size := by omega
  have y1 : w.heap.size + 1 < w1.heap.size := by omega
  have y2 : w.heap.size + 1 + 1 < w1.heap.size := by omega
  replace o1 := o1.mono (B' := w.heap.size + 3) (by simp)
  obtain ⟨hc1, hf1⟩ := bcell hb1
  have hb01 : Below w.heap.size w w1 := bt (bt (bt (below_alloc _ _) (below_alloc _ _)) (below_alloc _ _)) hb1
  have hbs : Below w.heap.size w (w1.setCell ⟨w.heap.size + 1 + 1, 0, none⟩ (.slice d1 a1.length k1)) := hb01.setCell (by simp; omega) _
  clear hb1
  go_wp2_with fail
  refine (toAtomS_rl _ a2 _ (r2.keep hbs) (by omega)).mono ?_
  rintro e w2 ⟨u2, rfl, ⟨f2, o2, n2⟩, hb2⟩
  obtain ⟨d2, k2, rfl⟩ := o2.read.form
  have o1' := (o1.setB (p := ⟨w.heap.size + 1 + 1, 0, none⟩) (u := .slice d1 a1.length k1) (by simp)).keep hb2
  have o2' := o2.mono (B' := w.heap.size + 3) (by simp; omega)
  have hnd : (f1 ++ f2).Nodup := List.nodup_append.2 ⟨n1, n2, fun x h1 y h2 e => by
    have q1 := (o1.lt x h1).2
    have q2 := (o2.lt y h2).1
    simp at q2
    omega⟩
  have hb02 : Below w.heap.size w w2 := hbs.trans (hb2.mono (by simp; omega))
  obtain ⟨hc2, hf2⟩ := bcell hb2
  have z2 := hb2.size
  simp at z2
  have x1 : w.heap.size + 1 < w2.heap.size := by omega
  have x2 : w.heap.size + 1 + 1 < w2.heap.size := by omega
  clear o2 o1 n1 n2
  go_wp2
  refine bodyPost_ret (v := .agg #[.slice d1 a1.length k1, .slice d2 a2.length k2]) (by simp [results, Try.results20, go_sem, y1, hc1, hc2]) rfl ?_
  refine ⟨_, _, rfl, ⟨f1, f2, ?_, ?_, hnd⟩, ?_⟩
  · exact (((o1'.setB (by simp)).setB (by simp)).setB (by simp)).mono (by omega)
  · exact (((o2'.setB (by simp)).setB (by simp)).setB (by simp)).mono (by omega)
  · exact ((hb02.setCell (by simp; omega) _).setCell (by simp) _).setCell (by simp) _
set_option maxHeartbeats 800000 in
theorem eqAssertion_rl {S1 S2 S3 S4 : Nat → Prop} (v1 v2 u1 u2 : Value) (a b : Asn) (w : World) (h1 : RL w S1 v1 a.1) (h2 : RL w S2 v2 a.2) (k1 : RL w S3 u1 b.1) (k2 : RL w S4 u2 b.2) :
    Calls Try.prog 23 #[.agg #[v1, v2], .agg #[u1, u2]] w fun e w' => e = .returned (.bool (decide (a = b))) ∧ Below w.heap.size w w' := by
  obtain ⟨a1, a2⟩ := a
  obtain ⟨b1, b2⟩ := b
  simp only at h1 h2 k1 k2
  by_cases e1 : a1 = b1
  rotate_left
  · have hfin : decide ((a1, a2) = (b1, b2)) = false := by simp [e1]
    have d1 : decide (a1 = b1) = false := by simpa using e1
    have HF := Lib.hid (And.intro hfin d1)
    clear hfin d1 e1
    go_enter Try.func23, Try.ntmps23
    go_wp2_with fail
    refine (cb (eqFactS_rl _ _ a1 b1 _ ((h1.alloc _).alloc _) ((k1.alloc _).alloc _)) HF.out.2).mono ?_
    rintro e w1 ⟨rfl, hb1⟩
    go_wp2
    go_ret
    exact ⟨by rw [HF.out.1]; rfl, bt (ba (below_alloc _ _) _) hb1⟩
  have d1 : decide (a1 = b1) = true := by simpa using e1
  have D1 := Lib.hid d1
  have hfin : decide ((a1, a2) = (b1, b2)) = decide (a2 = b2) := by simp [e1]
  clear d1 e1
  cases d2 : decide (a2 = b2)
  all_goals
    rw [d2] at hfin
    have HF := Lib.hid (And.intro hfin d2)
    clear hfin d2
    go_enter Try.func23, Try.ntmps23
    go_wp2_with fail
    refine (cb (eqFactS_rl _ _ a1 b1 _ ((h1.alloc _).alloc _) ((k1.alloc _).alloc _)) D1.out).mono ?_
    rintro e w1 ⟨rfl, hb1⟩
    have hc1 := cell_below hb1 (p := ⟨w.heap.size, 1, none⟩) (v := v2) (by first | (simp; done) | (simp; omega)) (by simp)
    have hc2 := cell_below hb1 (p := ⟨w.heap.size + 1, 1, none⟩) (v := u2) (by simp) (by simp)
    go_wp2_with fail
    refine (cb (eqAtomS_rl _ _ a2 b2 _ (((h2.alloc _).alloc _).keep hb1) (((k2.alloc _).alloc _).keep hb1)) HF.out.2).mono ?_
    rintro e w2 ⟨rfl, hb2⟩
    go_wp2
    go_ret
    exact ⟨by rw [HF.out.1]; rfl, bt (bt (ba (below_alloc _ _) _) hb1) hb2⟩
theorem eqAssertion_eq {S1 S2 S3 S4 : Nat → Prop} (v1 v2 u1 u2 : Value) (a b : Asn) (t : Bool) (w : World) (h1 : RL w S1 v1 a.1) (h2 : RL w S2 v2 a.2) (k1 : RL w S3 u1 b.1) (k2 : RL w S4 u2 b.2) (ht : decide (a = b) = t) :
    Calls Try.prog 23 #[.agg #[v1, v2], .agg #[u1, u2]] w fun e w' => e = .returned (.bool t) ∧ Below w.heap.size w w' := cb (eqAssertion_rl v1 v2 u1 u2 a b w h1 h2 k1 k2) ht
set_option maxHeartbeats 800000 in
theorem markAssertion_rl (B : Nat) (v1 v2 : Value) (a : Asn) (f1 f2 : List Nat) (k0 : Int) (w : World) (o1 : OL w B v1 a.1 f1) (o2 : OL w B v2 a.2 f2) (hn : (f1 ++ f2).Nodup) (h0 : 0 ≤ k0) (h1 : k0 + 3 * Mk.size a ≤ 1099511627776) (hl : Mk.size a ≤ 1048576) :
    Calls Try.prog 24 #[.agg #[v1, v2], .int .i64 k0] w fun e w' => e = .returned (.int .i64 (k0 + Mk.cnt a)) ∧ OL w' B v1 (Mk.mark k0 a).1 f1 ∧ OL w' B v2 (Mk.mark k0 a).2 f2 ∧ Fr (fun k => k ∈ f1 ++ f2) w w' := by
  obtain ⟨a1, a2⟩ := a
  simp only at o1 o2
  have hsz : Mk.size ((a1, a2) : Asn) = Mk.size a1 + Mk.size a2 := rfl
  have hct : Mk.cnt ((a1, a2) : Asn) = Mk.cnt a1 + Mk.cnt a2 := rfl
  have hm : Mk.mark k0 ((a1, a2) : Asn) = (Mk.mark k0 a1, Mk.mark (k0 + Mk.cnt a1) a2) := rfl
  have hle := Mk.le a1
  rw [hsz] at h1 hl
  rw [hct, hm]
  clear hsz hct hm
  obtain ⟨n1, n2, n3⟩ := List.nodup_append.1 hn
  obtain ⟨d1, k1, rfl⟩ := o1.read.form
  obtain ⟨d2, k2, rfl⟩ := o2.read.form
  have HN := Lib.hid (And.intro n1 (And.intro n2 n3))
  clear n1 n2 n3 hn
  go_enter Try.func24, Try.ntmps24
  go_wp2_with fail
  refine (markFactS_rl B _ a1 f1 k0 _ (o1.keep (below_alloc _ _)) HN.out.1 h0 (by omega) (by omega)).mono ?_
  rintro e w1 ⟨rfl, p1, hf1⟩
  have hlt := o2.lt
  have hlt1 := o1.lt
  have hc1 := hf1.cell (p := ⟨w.heap.size, 1, none⟩) (v := .slice d2 a2.length k2) (fun hm => by have := (hlt1 _ hm).2; simp at this) (by simp)
  have o2' := (o2.keep (below_alloc w (.cells #[.slice d1 a1.length k1, .slice d2 a2.length k2] 33))).okept hf1 (fun k hk hm => HN.out.2.2 k hm k hk rfl)
  have hz := hf1.size
  simp at hz
  go_wp2_with fail
  refine (markAtomS_rl B _ a2 f2 (k0 + Mk.cnt a1) _ o2' HN.out.2.1 (by omega) (by omega) (by omega)).mono ?_
  rintro e w2 ⟨rfl, p2, hf2⟩
  have p1' := p1.okept hf2 (fun k hk hm => HN.out.2.2 k hk k hm rfl)
  have hfr := (((Below.fr (below_alloc w (.cells #[.slice d1 a1.length k1, .slice d2 a2.length k2] 33))).mono (S' := fun k => k ∈ f1 ++ f2) (fun _ _ h => h.elim)).trans (hf1.mono fun k _ hk => List.mem_append_left _ hk)).trans (hf2.mono fun k _ hk => List.mem_append_right _ hk)
  have HR := Lib.hid (And.intro p1' (And.intro p2 hfr))
  clear p1' p2 hfr p1 hf1 hf2 o2'
  go_wp2
  go_ret
  exact ⟨by rw [show k0 + ((Mk.cnt a1 + Mk.cnt a2 : Nat) : Int) = k0 + Mk.cnt a1 + Mk.cnt a2 by omega]; rfl, HR.out⟩
set_option maxHeartbeats 800000 in
theorem heldAssertion_rl {S1 S2 : Nat → Prop} (v1 v2 : Value) (a : Asn) (k0 : Int) (w : World) (r1 : RL w S1 v1 (Mk.mark k0 a).1) (r2 : RL w S2 v2 (Mk.mark k0 a).2) (h0 : 0 ≤ k0) (h1 : k0 + 3 * Mk.size a ≤ 1099511627776) (hl : Mk.size a ≤ 1048576) :
    Calls Try.prog 83 #[.agg #[v1, v2], .int .i64 k0] w fun e w' => e = .returned (.int .i64 (k0 + Mk.cnt a)) ∧ Below w.heap.size w w' := by
  obtain ⟨a1, a2⟩ := a
  have hsz : Mk.size ((a1, a2) : Asn) = Mk.size a1 + Mk.size a2 := rfl
  have hct : Mk.cnt ((a1, a2) : Asn) = Mk.cnt a1 + Mk.cnt a2 := rfl
  have hm : Mk.mark k0 ((a1, a2) : Asn) = (Mk.mark k0 a1, Mk.mark (k0 + Mk.cnt a1) a2) := rfl
  have hle := Mk.le a1
  rw [hsz] at h1 hl
  rw [hm] at r1 r2
  simp only at r1 r2
  rw [hct]
  clear hsz hct hm
  have hp1 : 0 ≤ k0 + (Mk.cnt a1 : Int) := by omega
  have hp2 : 0 ≤ k0 + (Mk.cnt a1 : Int) + (Mk.cnt a2 : Int) := by omega
  have hn1 : ¬ k0 + (Mk.cnt a1 : Int) < 0 := by omega
  have hn2 : ¬ k0 + (Mk.cnt a1 : Int) + (Mk.cnt a2 : Int) < 0 := by omega
  obtain ⟨d1, k1, rfl⟩ := r1.form
  obtain ⟨d2, k2, rfl⟩ := r2.form
  go_enter Try.func83, Try.ntmps83
  go_wp2_with fail
  refine (heldFactS_rl _ a1 k0 _ (r1.alloc _) h0 (by omega) (by omega)).mono ?_
  rintro e w1 ⟨rfl, hb1⟩
  have hc1 := cell_keep hb1 (p := ⟨w.heap.size, 1, none⟩) (v := .slice d2 (Mk.mark (k0 + Mk.cnt a1) a2).length k2) (by simp)
  go_wp2_with fail
  refine (heldAtomS_rl _ a2 (k0 + Mk.cnt a1) _ ((r2.alloc _).keep hb1) (by omega) (by omega) (by omega)).mono ?_
  rintro e w2 ⟨rfl, hb2⟩
  go_wp2
  go_ret
  exact ⟨by rw [show k0 + ((Mk.cnt a1 + Mk.cnt a2 : Nat) : Int) = k0 + Mk.cnt a1 + Mk.cnt a2 by omega]; rfl, bt (bt (below_alloc _ _) hb1) hb2⟩
end Go.Proofs.Ytapoillhgimdiaa
/- Walks: the helpers of the laws for lists of assertions and lists of lists of numbers. -/
namespace Go.Proofs.Ytapoillhgimdiaa
open Go.RowKit

set_option maxHeartbeats 1600000 in
theorem szAssertionS_rl {S : Nat → Prop} (v : Value) (l : List (Asn)) (left : Int) (w : World) (h : RL w S v l) (h0 : 0 ≤ left) (h1 : left ≤ 1048576) :
    Calls Try.prog 50 #[v, .int .i64 left] w fun e w' => e = .returned (.int .i64 (szF left (Mk.size l))) ∧ Below w.heap.size w w' := by
  have hm := h.len
  unfold maxLen at hm
  obtain ⟨a, c, rfl, _, _, hf⟩ := h.asnAt
  have F1 := Lib.hid hf
  have hsz : Mk.size l = l.length + (l.map Mk.size).sum := rfl
  clear hf h
  by_cases hl : (l.length : Int) ≤ left
  rotate_left
  · have hfin : szF left (Mk.size l) = -1 := szF_big (by rw [hsz]; omega)
    have HF := Lib.hid hfin
    clear hfin hsz
    go_enter Try.func50, Try.ntmps50
    go_wp2
    go_ret
    exact ⟨by rw [HF.out]; rfl, Below.refl _ _⟩
  go_enter Try.func50, Try.ntmps50
  go_wp2
  go_loopg [1, 5] l.length (fun q x i wr => ∃ k : Nat, k + q = l.length ∧ i = .int .i64 k ∧ x = .int .i64 (left - l.length - (psum Mk.size l k : Nat)) ∧ ((psum Mk.size l k : Nat) : Int) ≤ left - l.length ∧ Below w.heap.size w wr)
  case atStart => exact ⟨0, by omega, rfl, by simp [psum_zero], by rw [psum_zero]; omega, Below.refl _ _⟩
  case round =>
    obtain ⟨k, hk, rfl, rfl, hp0, hb⟩ := hrel
    have HK := Lib.hid hk
    clear hk
    by_cases hk8 : k < l.length
    · obtain ⟨b1, o1, u1, u2, rfl, _, hbl1, hp1, hp2, r1, r2⟩ := F1.out k hk8
      obtain ⟨ua1, uc1, rfl⟩ := r1.form
      obtain ⟨ua2, uc2, rfl⟩ := r2.form
      replace hp1 := cell_keep hb hp1; replace hp2 := cell_keep hb hp2
      have hs := hb.size
      have i1 : (k : Int) < (l.length : Int) := by omega
      have hzb : b1 < wr.heap.size := by omega
      have hps := psum_succ (f := Mk.size) hk8
      have hle := psum_le (f := Mk.size) (l := l) (k + 1)
      by_cases hfit : ((Mk.size (gd l k) : Nat) : Int) ≤ left - l.length - (psum Mk.size l k : Nat)
      rotate_left
      · have hfin : szF left (Mk.size l) = -1 := szF_big (by rw [hsz]; omega)
        have HF := Lib.hid (And.intro hfin (szF_big (left := left - l.length - (psum Mk.size l k : Nat)) (s := Mk.size (gd l k)) (by omega)))
        clear hfin hsz hps hle hfit
        go_wp2_with fail
        refine (szAssertion_rl _ _ (gd l k) _ _ (r1.keep hb) (r2.keep hb) (by omega) (by omega)).mono ?_
        rw [HF.out.2]
        rintro e w2 ⟨rfl, hb2⟩
        go_wp2
        go_ret
        exact ⟨by rw [HF.out.1]; rfl, bt hb hb2⟩
      · have HF := Lib.hid (And.intro (szF_fit hfit) hps)
        have hnn : ¬ left - (l.length : Int) - ((psum Mk.size l k : Nat) : Int) - ((Mk.size (gd l k) : Nat) : Int) < 0 := by omega
        clear hps hle
        go_wp2_with fail
        refine (szAssertion_rl _ _ (gd l k) _ _ (r1.keep hb) (r2.keep hb) (by omega) (by omega)).mono ?_
        rw [HF.out.1]
        rintro e w2 ⟨rfl, hb2⟩
        go_wp2
        go_roundg (gk - 1)
        case rel => exact ⟨k + 1, by have := HK.out; omega, by go_num, by rw [HF.out.2, show left - (l.length : Int) - ((psum Mk.size l k + Mk.size (gd l k) : Nat) : Int) = left - l.length - (psum Mk.size l k : Nat) - (Mk.size (gd l k) : Nat) by omega], by rw [HF.out.2]; omega, bt hb hb2⟩
        case measure => have := HK.out; omega
    · obtain rfl : k = l.length := by have := HK.out; omega
      have hall := psum_all (f := Mk.size) (l := l)
      have hfin : szF left (Mk.size l) = left - l.length - (psum Mk.size l l.length : Nat) := by rw [szF_fit (by rw [hsz, ← hall]; omega), hsz, ← hall]; omega
      have HF := Lib.hid hfin
      clear hfin hsz hall
      go_wp2
      go_ret
      exact ⟨by rw [HF.out]; rfl, hb⟩
set_option maxHeartbeats 1600000 in
theorem eqAssertionS_rl {S1 S2 : Nat → Prop} (v1 v2 : Value) (l1 l2 : List (Asn)) (w : World) (h1 : RL w S1 v1 l1) (h2 : RL w S2 v2 l2) :
    Calls Try.prog 54 #[v1, v2] w fun e w' => e = .returned (.bool (decide (l1 = l2))) ∧ Below w.heap.size w w' := by
  have hm1 := h1.len
  have hm2 := h2.len
  unfold maxLen at hm1 hm2
  obtain ⟨a1, c1, rfl, _, _, hf1⟩ := h1.asnAt
  obtain ⟨a2, c2, rfl, _, _, hf2⟩ := h2.asnAt
  by_cases hl : l1.length = l2.length
  rotate_left
  · have hne : ((l1.length : Int) != (l2.length : Int)) = true := by simp; omega
    have hfin : decide (l1 = l2) = false := by simpa using fun h => hl (by rw [h])
    have HF := Lib.hid hfin
    clear hl hfin hf1 hf2
    go_enter Try.func54, Try.ntmps54
    go_wp2
    go_ret
    exact ⟨by rw [HF.out]; rfl, Below.refl _ _⟩
  have HL := Lib.hid hl
  have F1 := Lib.hid hf1
  have F2 := Lib.hid hf2
  have hne : ((l1.length : Int) != (l2.length : Int)) = false := by simp [hl]
  have hle : l1.length ≤ l2.length := by omega
  clear hl hf1 hf2 h1 h2
  go_enter Try.func54, Try.ntmps54
  go_wp2
  go_loopg [5] l1.length (fun q i wr => ∃ k : Nat, k + q = l1.length ∧ i = .int .i64 k ∧ l1.take k = l2.take k ∧ Below w.heap.size w wr)
  case atStart => exact ⟨0, by omega, rfl, by simp, Below.refl _ _⟩
  case round =>
    obtain ⟨k, hk, rfl, ht, hb⟩ := hrel
    have HK := Lib.hid hk
    have HT := Lib.hid ht
    clear hk ht
    by_cases hk8 : k < l1.length
    · have hk2 : k < l2.length := by omega
      obtain ⟨b1, o1, u1, u2, rfl, _, hbl1, hp1, hp2, r1, r2⟩ := F1.out k hk8
      obtain ⟨b2, o2, z1, z2, rfl, _, hbl2, hq1, hq2, s1, s2⟩ := F2.out k hk2
      replace hp1 := cell_keep hb hp1; replace hp2 := cell_keep hb hp2; replace hq1 := cell_keep hb hq1; replace hq2 := cell_keep hb hq2
      have hs := hb.size
      have g1 : b1 < wr.heap.size := by omega
      have g2 : b2 < wr.heap.size := by omega
      have i1 : (k : Int) < (l1.length : Int) := by omega
      have i2 : (k : Int) < (l2.length : Int) := by omega
      by_cases he : gd l1 k = gd l2 k
      · have hd : decide (gd l1 k = gd l2 k) = true := by simpa using he
        have HE := Lib.hid (And.intro he hd)
        clear he hd
        go_wp2
        refine wp_region_ext (by kernel_rfl) (by kernel_rfl) ?_
        repeat (go_big_quiet_step ((go_at_call 23; exact ext_c (cb (eqAssertion_rl _ _ _ _ (gd l1 k) (gd l2 k) _ ((r1.keep hb).ext _) ((r2.keep hb).ext _) ((s1.keep hb).ext _) ((s2.keep hb).ext _)) HE.out.2))))
        refine wpQuiet_nil ?_
        intro w2 hb2
        go_wp2
        go_roundg (gk - 1)
        case rel => exact ⟨k + 1, by have := HK.out; omega, by go_num, gd_take_succ hk8 hk2 HT.out HE.out.1, hb.trans (hb2.mono hs)⟩
        case measure => have := HK.out; omega
      · have hd : decide (gd l1 k = gd l2 k) = false := by simpa using he
        have hfin : decide (l1 = l2) = false := by simpa using ne_of_gd he
        have HF := Lib.hid (And.intro hfin hd)
        clear he hfin hd
        go_wp2
        refine wp_region_ext (by kernel_rfl) (by kernel_rfl) ?_
        repeat (go_big_quiet_step ((go_at_call 23; exact ext_c (cb (eqAssertion_rl _ _ _ _ (gd l1 k) (gd l2 k) _ ((r1.keep hb).ext _) ((r2.keep hb).ext _) ((s1.keep hb).ext _) ((s2.keep hb).ext _)) HF.out.2))))
        refine wpQuiet_nil ?_
        intro w2 hb2
        go_wp2
        go_ret
        exact ⟨by rw [HF.out.1]; rfl, hb.trans (hb2.mono hs)⟩
    · obtain rfl : k = l1.length := by have := HK.out; omega
      have hfin : decide (l1 = l2) = true := by
        have := HT.out
        rw [List.take_length, HL.out, List.take_length] at this
        simpa using this
      have HF := Lib.hid hfin
      clear hfin HT
      go_wp2
      go_ret
      exact ⟨by rw [HF.out]; rfl, hb⟩
theorem info_AssertionS : (Try.prog.info? 33).map (fun i => (i.zero, i.size, i.bytes)) = some (some (.agg #[.slice none 0 0, .slice none 0 0]), 2, 48) := by kernel_rfl
set_option maxHeartbeats 1600000 in
theorem toAssertionS_rl {S : Nat → Prop} (v : Value) (l : List (Asn)) (w : World) (h : RL w S v l) (hl : Mk.size l ≤ 1048576) :
    Calls Try.prog 52 #[v] w fun e w' => ∃ v', e = .returned v' ∧ OO w' w.heap.size v' l ∧ Below w.heap.size w w' := by
  have hsz : Mk.size l = l.length + (l.map Mk.size).sum := rfl
  have hln : l.length ≤ 1048576 := by omega
  have HSZ := Lib.hid hsz
  obtain ⟨a1, c1, rfl, _, _, hf1⟩ := h.asnAt
  have F1 := Lib.hid hf1
  clear hf1 h hsz
  obtain ⟨i0, hi, hz0, hz1, hz2⟩ := info_parts info_AssertionS
  go_enter Try.func52, Try.ntmps52
  go_wp2_with (at_make; refine wpList_make_full _ rfl _ _ 62 rfl w.heap.size 33 i0 (.agg #[.slice none 0 0, .slice none 0 0]) 2 Try.underlying62 hi hz0 hz1 _ _ _ _ l.length rfl rfl rfl rfl (by rw [hz2]; omega) (by unfold maxLen; omega) (Nat.le_refl _) ?_; intro w1 hown hgr)
  have hb1 := (grown_fr hgr).below (B := w.heap.size) (Nat.le_refl _) (by intro k _ e; cases e)
  have hP := PL.zero (α := Asn) hown l
  clear hown hi hz0 hz1 hz2 hgr
  go_loopg [4] l.length (fun q i wr => ∃ k : Nat, k + q = l.length ∧ i = .int .i64 k ∧ PL wr w.heap.size (.slice (some ⟨w.heap.size, 0, none⟩) l.length l.length) l.length l k ∧ Below w.heap.size w wr)
  case atStart => exact ⟨0, by omega, rfl, hP, hb1⟩
  case round =>
    clear hb1 hP
    obtain ⟨k, hk, rfl, hP, hb⟩ := hrel
    have HK := Lib.hid hk
    clear hk
    by_cases hk8 : k < l.length
    · obtain ⟨b1, o1, u1, u2, rfl, _, hbl1, hp1, hp2, r1, r2⟩ := F1.out k hk8
      obtain ⟨ua1, uc1, rfl⟩ := r1.form
      obtain ⟨ua2, uc2, rfl⟩ := r2.form
      replace hp1 := cell_keep hb hp1; replace hp2 := cell_keep hb hp2
      have hki : (k : Int) < (l.length : Int) := by omega
      have hs := hb.size
      have hzb : b1 < wr.heap.size := by omega
      have hse : Mk.size (gd l k) ≤ 1048576 := by have := psum_mem (f := Mk.size) hk8; have := HSZ.out; omega
      have HP := Lib.hid hP
      clear hP
      go_wp2_with fail
      refine (toAssertion_rl _ _ (gd l k) _ (r1.keep hb) (r2.keep hb) hse).mono ?_
      rintro e w2 ⟨z1, z2, rfl, ⟨f1, f2, ho1, ho2, hn2⟩, hb2⟩
      obtain ⟨za1, zc1, rfl⟩ := ho1.read.form
      obtain ⟨za2, zc2, rfl⟩ := ho2.read.form
      have ho : Own.own w2 wr.heap.size (gd l k) [.slice za1 (gd l k).1.length zc1, .slice za2 (gd l k).2.length zc2] (f1 ++ f2) := ⟨[_], [_], f1, f2, rfl, rfl, ⟨_, rfl, ho1⟩, ⟨_, rfl, ho2⟩⟩
      clear ho1 ho2
      have hfz : ∀ i, w2.frozen? ⟨w.heap.size, i, none⟩ = false := fun i => (HP.out.keep hb2).row.elim fun _ hr => hr.frozenAt i
      obtain ⟨y1, hy1⟩ : ∃ u, w2.cell? ⟨w.heap.size, k * 2, none⟩ = some u := (HP.out.keep hb2).row.elim fun _ hr => row_cell hr (show k * 2 < l.length * 2 by omega)
      obtain ⟨y2, hy2⟩ : ∃ u, w2.cell? ⟨w.heap.size, k * 2 + 1, none⟩ = some u := (HP.out.keep hb2).row.elim fun _ hr => row_cell hr (show k * 2 + 1 < l.length * 2 by omega)
      have hbb := bt hb hb2
      have hP2 := PL.set2 (α := Asn) rfl HP.out hk8 hb2 ho hn2
      have HP2 := Lib.hid hP2
      clear hP2 ho hn2
      go_wp2
      go_roundg (gk - 1)
      case rel => exact ⟨k + 1, by have := HK.out; omega, by go_num, HP2.out, Bl⟩
      case measure => have := HK.out; omega
    · obtain rfl : k = l.length := by have := HK.out; omega
      go_wp2
      go_ret
      exact ⟨_, rfl, hP.done, hb⟩
set_option maxHeartbeats 1600000 in
theorem markAssertionS_rl (B : Nat) (v : Value) (l : List (Asn)) (fp : List Nat) (k0 : Int) (w : World) (h : OL w B v l fp) (hn : fp.Nodup) (h0 : 0 ≤ k0) (h1 : k0 + 3 * Mk.size l ≤ 1099511627776) (hl : Mk.size l ≤ 1048576) :
    Calls Try.prog 55 #[v, .int .i64 k0] w fun e w' => e = .returned (.int .i64 (k0 + Mk.cnt l)) ∧ OL w' B v (Mk.mark k0 l) fp ∧ Fr (fun k => k ∈ fp) w w' := by
  have hsz : Mk.size l = l.length + (l.map Mk.size).sum := rfl
  have hct : Mk.cnt l = (l.map Mk.cnt).sum := rfl
  obtain ⟨a, c, rfl⟩ := h.read.form
  have HS := Lib.hid (And.intro hsz hct)
  have HN0 := Lib.hid hn
  have hln : l.length ≤ 1048576 := by omega
  clear hct hn
  go_enter Try.func55, Try.ntmps55
  go_wp2
  go_loopg [1, 5] l.length (fun q x i wr => ∃ k : Nat, k + q = l.length ∧ i = .int .i64 k ∧ x = .int .i64 (k0 + (psum Mk.cnt l k : Nat)) ∧ OL wr B (.slice a l.length c) (mkTo k0 l k) fp ∧ Fr (fun k => k ∈ fp) w wr)
  case atStart => exact ⟨0, by omega, rfl, by simp [psum_zero], h, Fr.refl _ _⟩
  case round =>
    obtain ⟨k, hk, rfl, rfl, ho, hf⟩ := hrel
    have HK := Lib.hid hk
    have HF := Lib.hid hf
    clear hk hf
    by_cases hk8 : k < l.length
    · have hps := psum_succ (f := Mk.cnt) hk8
      have hpz := psum_le (f := Mk.size) (l := l) (k + 1)
      have hpy := psum_succ (f := Mk.size) hk8
      have hcl := psum_cnt (l := l) k
      obtain ⟨cs, f, g, cap', hv, hgl, hgf, hown, hnf, hsub, hcell, hback⟩ := ho.open HN0.out (k := k) (by rw [mkTo_len]; exact hk8)
      rw [mkTo_gd hk8] at hown
      obtain ⟨_, _, f1, f2, rfl, rfl, ⟨z1, rfl, ho1⟩, ⟨z2, rfl, ho2⟩⟩ := hown
      simp only [Value.slice.injEq] at hv
      obtain ⟨rfl, hx0, rfl⟩ := hv
      clear hx0
      obtain ⟨n1, n2, n3⟩ := List.nodup_append.1 hnf
      obtain ⟨za1, zc1, rfl⟩ := ho1.read.form
      obtain ⟨za2, zc2, rfl⟩ := ho2.read.form
      have hki : (k : Int) < (l.length : Int) := by omega
      have hs1 : Mk.size (gd l k) = Mk.size (gd l k).1 + Mk.size (gd l k).2 := rfl
      have hs2 : Mk.cnt (gd l k) = Mk.cnt (gd l k).1 + Mk.cnt (gd l k).2 := rfl
      have hle1 := Mk.le (gd l k).1
      have HN := Lib.hid (And.intro n1 (And.intro n2 n3))
      have HB := Lib.hid hback
      have HC := Lib.hid (And.intro hps hs2)
      have HSUB := Lib.hid hsub
      have hp1 : wr.cell? ⟨g, k * 2, none⟩ = some (.slice za1 (gd l k).1.length zc1) := hcell 0 _ rfl
      have hp2 : wr.cell? ⟨g, k * 2 + 1, none⟩ = some (.slice za2 (gd l k).2.length zc2) := hcell 1 _ rfl
      have q0 : 0 ≤ k0 + ((psum Mk.cnt l k : Nat) : Int) := by omega
      have q1 : k0 + ((psum Mk.cnt l k : Nat) : Int) + 3 * ((Mk.size (gd l k).1 : Nat) : Int) ≤ 1099511627776 := by omega
      have q2 : k0 + ((psum Mk.cnt l k : Nat) : Int) + ((Mk.cnt (gd l k).1 : Nat) : Int) + 3 * ((Mk.size (gd l k).2 : Nat) : Int) ≤ 1099511627776 := by omega
      have q3 : Mk.size (gd l k).1 ≤ 1048576 := by omega
      have q4 : Mk.size (gd l k).2 ≤ 1048576 := by omega
      have q5 : 0 ≤ k0 + ((psum Mk.cnt l k : Nat) : Int) + ((Mk.cnt (gd l k).1 : Nat) : Int) := by omega
      clear hps hpz hpy hcl hs1 hs2 hback n1 n2 n3 hcell ho hsub hnf hle1
      go_wp2_with fail
      refine (markFactS_rl B _ (gd l k).1 f1 _ _ ho1 HN.out.1 q0 q1 q3).mono ?_
      rintro e w2 ⟨rfl, p1, hf1⟩
      have hp2' := hf1.cell (fun hm => hgf (List.mem_append_left _ hm)) hp2
      have ho2' := ho2.okept hf1 (fun j hj hm => HN.out.2.2 j hm j hj rfl)
      have hz := hf1.size
      have hgl2 : g < w2.heap.size := by omega
      clear hp1 hp2 ho1 ho2
      go_wp2_with fail
      refine (markAtomS_rl B _ (gd l k).2 f2 _ _ ho2' HN.out.2.1 q5 q2 q4).mono ?_
      rintro e w3 ⟨rfl, p2, hf2⟩
      have p1' := p1.okept hf2 (fun j hj hm => HN.out.2.2 j hj j hm rfl)
      have hfr := (hf1.mono (S' := fun j => j ∈ f1 ++ f2) fun j _ hj => List.mem_append_left _ hj).trans (hf2.mono fun j _ hj => List.mem_append_right _ hj)
      have hnew := (HB.out w3 (Mk.mark (k0 + (psum Mk.cnt l k : Nat)) (gd l k)) hfr ⟨_, _, f1, f2, rfl, rfl, ⟨_, rfl, p1'⟩, ⟨_, rfl, p2⟩⟩).1
      rw [mkTo_set hk8] at hnew
      have HO := Lib.hid (And.intro hnew (HF.out.trans (hfr.mono fun j _ hj => HSUB.out j hj)))
      clear hnew hfr p1 p1' p2 hf1 hf2 hp2' ho2'
      go_wp2
      go_roundg (gk - 1)
      case rel => exact ⟨k + 1, by have := HK.out; omega, by go_num, by rw [HC.out.1, HC.out.2, show k0 + ((psum Mk.cnt l k + (Mk.cnt (gd l k).1 + Mk.cnt (gd l k).2) : Nat) : Int) = k0 + (psum Mk.cnt l k : Nat) + (Mk.cnt (gd l k).1 : Nat) + (Mk.cnt (gd l k).2 : Nat) by omega], HO.out.1, HO.out.2⟩
      case measure => have := HK.out; omega
    · obtain rfl : k = l.length := by have := HK.out; omega
      have hall := psum_all (f := Mk.cnt) (l := l)
      have hmk : mkTo k0 l l.length = Mk.mark k0 l := mkTo_all
      rw [hmk] at ho
      have HA := Lib.hid hall
      clear hall hmk
      go_wp2
      go_ret
      exact ⟨by rw [HS.out.2, ← HA.out]; rfl, ho, HF.out⟩
set_option maxHeartbeats 1600000 in
theorem heldAssertionS_rl {S : Nat → Prop} (v : Value) (l : List (Asn)) (k0 : Int) (w : World) (h : RL w S v (Mk.mark k0 l)) (h0 : 0 ≤ k0) (h1 : k0 + 3 * Mk.size l ≤ 1099511627776) (hl : Mk.size l ≤ 1048576) :
    Calls Try.prog 56 #[v, .int .i64 k0] w fun e w' => e = .returned (.int .i64 (k0 + Mk.cnt l)) ∧ Below w.heap.size w w' := by
  have hsz : Mk.size l = l.length + (l.map Mk.size).sum := rfl
  have hct : Mk.cnt l = (l.map Mk.cnt).sum := rfl
  have hmL : Mk.mark k0 l = mkL k0 l := rfl
  rw [hmL] at h
  obtain ⟨a, c, hvv, _, _, hf⟩ := h.asnAt
  rw [mkL_len] at hf hvv
  subst hvv
  have F1 := Lib.hid hf
  have HS := Lib.hid (And.intro hsz hct)
  have hln : l.length ≤ 1048576 := by omega
  clear hct hf h hmL
  go_enter Try.func56, Try.ntmps56
  go_wp2
  go_loopg [1, 5] l.length (fun q x i wr => ∃ k : Nat, k + q = l.length ∧ i = .int .i64 k ∧ x = .int .i64 (k0 + (psum Mk.cnt l k : Nat)) ∧ Below w.heap.size w wr)
  case atStart => exact ⟨0, by omega, rfl, by simp [psum_zero], Below.refl _ _⟩
  case round =>
    obtain ⟨k, hk, rfl, rfl, hb⟩ := hrel
    have HK := Lib.hid hk
    clear hk
    by_cases hk8 : k < l.length
    · have hps := psum_succ (f := Mk.cnt) hk8
      have hpz := psum_le (f := Mk.size) (l := l) (k + 1)
      have hpy := psum_succ (f := Mk.size) hk8
      have hcl := psum_cnt (l := l) k
      obtain ⟨b1, o1, u1, u2, rfl, _, hbl1, hp1, hp2, r1, r2⟩ := F1.out k hk8
      rw [gd_mkL hk8] at r1 r2
      obtain ⟨ua1, uc1, rfl⟩ := r1.form
      obtain ⟨ua2, uc2, rfl⟩ := r2.form
      replace hp1 := cell_keep hb hp1; replace hp2 := cell_keep hb hp2
      have hs := hb.size
      have hki : (k : Int) < (l.length : Int) := by omega
      have hzb : b1 < wr.heap.size := by omega
      have hs1 : Mk.size (gd l k) = Mk.size (gd l k).1 + Mk.size (gd l k).2 := rfl
      have hs2 : Mk.cnt (gd l k) = Mk.cnt (gd l k).1 + Mk.cnt (gd l k).2 := rfl
      have hle1 := Mk.le (gd l k).1
      have HC := Lib.hid (And.intro hps hs2)
      have q0 : 0 ≤ k0 + ((psum Mk.cnt l k : Nat) : Int) := by omega
      have q1 : k0 + ((psum Mk.cnt l k : Nat) : Int) + 3 * ((Mk.size (gd l k).1 : Nat) : Int) ≤ 1099511627776 := by omega
      have q2 : k0 + ((psum Mk.cnt l k : Nat) : Int) + ((Mk.cnt (gd l k).1 : Nat) : Int) + 3 * ((Mk.size (gd l k).2 : Nat) : Int) ≤ 1099511627776 := by omega
      have q3 : Mk.size (gd l k).1 ≤ 1048576 := by omega
      have q4 : Mk.size (gd l k).2 ≤ 1048576 := by omega
      have q5 : 0 ≤ k0 + ((psum Mk.cnt l k : Nat) : Int) + ((Mk.cnt (gd l k).1 : Nat) : Int) := by omega
      have q6 : ¬ k0 + ((psum Mk.cnt l k : Nat) : Int) + ((Mk.cnt (gd l k).1 : Nat) : Int) < 0 := by omega
      have q7 : ¬ k0 + ((psum Mk.cnt l k : Nat) : Int) + ((Mk.cnt (gd l k).1 : Nat) : Int) + ((Mk.cnt (gd l k).2 : Nat) : Int) < 0 := by omega
      clear hps hpz hpy hcl hs1 hs2 hle1
      go_wp2_with fail
      refine (heldFactS_rl _ (gd l k).1 _ _ (r1.keep hb) q0 q1 q3).mono ?_
      rintro e w2 ⟨rfl, hb2⟩
      replace hp2 := cell_keep hb2 hp2
      have hz2 := hb2.size
      have hzb2 : b1 < w2.heap.size := by omega
      go_wp2_with fail
      refine (heldAtomS_rl _ (gd l k).2 _ _ (r2.keep (bt hb hb2)) q5 q2 q4).mono ?_
      rintro e w3 ⟨rfl, hb3⟩
      go_wp2
      go_roundg (gk - 1)
      case rel => exact ⟨k + 1, by have := HK.out; omega, by go_num, by rw [HC.out.1, HC.out.2, show k0 + ((psum Mk.cnt l k + (Mk.cnt (gd l k).1 + Mk.cnt (gd l k).2) : Nat) : Int) = k0 + (psum Mk.cnt l k : Nat) + (Mk.cnt (gd l k).1 : Nat) + (Mk.cnt (gd l k).2 : Nat) by omega], bt (bt hb hb2) hb3⟩
      case measure => have := HK.out; omega
    · obtain rfl : k = l.length := by have := HK.out; omega
      have hall := psum_all (f := Mk.cnt) (l := l)
      have HA := Lib.hid hall
      clear hall
      go_wp2
      go_ret
      exact ⟨by rw [HS.out.2, ← HA.out]; rfl, hb⟩
set_option maxHeartbeats 1600000 in
theorem eqIntSS_rl {S1 S2 : Nat → Prop} (v1 v2 : Value) (l1 l2 : List (List Int)) (w : World) (h1 : RL w S1 v1 l1) (h2 : RL w S2 v2 l2) :
    Calls Try.prog 179 #[v1, v2] w fun e w' => e = .returned (.bool (decide (l1 = l2))) ∧ Below w.heap.size w w' := by
  have hm1 := h1.len
  have hm2 := h2.len
  unfold maxLen at hm1 hm2
  obtain ⟨a1, c1, rfl, _, _, hf1⟩ := h1.listAt
  obtain ⟨a2, c2, rfl, _, _, hf2⟩ := h2.listAt
  by_cases hl : l1.length = l2.length
  rotate_left
  · have hne : ((l1.length : Int) != (l2.length : Int)) = true := by simp; omega
    have hfin : decide (l1 = l2) = false := by simpa using fun h => hl (by rw [h])
    have HF := Lib.hid hfin
    clear hl hfin hf1 hf2
    go_enter Try.func179, Try.ntmps179
    go_wp2
    go_ret
    exact ⟨by rw [HF.out]; rfl, Below.refl _ _⟩
  have HL := Lib.hid hl
  have F1 := Lib.hid hf1
  have F2 := Lib.hid hf2
  have hne : ((l1.length : Int) != (l2.length : Int)) = false := by simp [hl]
  have hle : l1.length ≤ l2.length := by omega
  clear hl hf1 hf2 h1 h2
  go_enter Try.func179, Try.ntmps179
  go_wp2
  go_loopg [5] l1.length (fun q i wr => ∃ k : Nat, k + q = l1.length ∧ i = .int .i64 k ∧ l1.take k = l2.take k ∧ Below w.heap.size w wr)
  case atStart => exact ⟨0, by omega, rfl, by simp, Below.refl _ _⟩
  case round =>
    obtain ⟨k, hk, rfl, ht, hb⟩ := hrel
    have HK := Lib.hid hk
    have HT := Lib.hid ht
    clear hk ht
    by_cases hk8 : k < l1.length
    · have hk2 : k < l2.length := by omega
      obtain ⟨b1, o1, u1, rfl, _, hbl1, hp1, r1⟩ := F1.out k hk8
      obtain ⟨b2, o2, z1, rfl, _, hbl2, hq1, s1⟩ := F2.out k hk2
      replace hp1 := cell_keep hb hp1; replace hq1 := cell_keep hb hq1
      have hs := hb.size
      have g1 : b1 < wr.heap.size := by omega
      have g2 : b2 < wr.heap.size := by omega
      have i1 : (k : Int) < (l1.length : Int) := by omega
      have i2 : (k : Int) < (l2.length : Int) := by omega
      by_cases he : gd l1 k = gd l2 k
      · have hd : decide (gd l1 k = gd l2 k) = true := by simpa using he
        have HE := Lib.hid (And.intro he hd)
        clear he hd
        go_wp2
        refine wp_region_ext (by kernel_rfl) (by kernel_rfl) ?_
        repeat (go_big_quiet_step ((go_at_call 81; exact ext_c (cb (eqIntS_rl _ _ (gd l1 k) (gd l2 k) _ ((r1.keep hb).ext _) ((s1.keep hb).ext _)) HE.out.2))))
        refine wpQuiet_nil ?_
        intro w2 hb2
        go_wp2
        go_roundg (gk - 1)
        case rel => exact ⟨k + 1, by have := HK.out; omega, by go_num, gd_take_succ hk8 hk2 HT.out HE.out.1, hb.trans (hb2.mono hs)⟩
        case measure => have := HK.out; omega
      · have hd : decide (gd l1 k = gd l2 k) = false := by simpa using he
        have hfin : decide (l1 = l2) = false := by simpa using ne_of_gd he
        have HF := Lib.hid (And.intro hfin hd)
        clear he hfin hd
        go_wp2
        refine wp_region_ext (by kernel_rfl) (by kernel_rfl) ?_
        repeat (go_big_quiet_step ((go_at_call 81; exact ext_c (cb (eqIntS_rl _ _ (gd l1 k) (gd l2 k) _ ((r1.keep hb).ext _) ((s1.keep hb).ext _)) HF.out.2))))
        refine wpQuiet_nil ?_
        intro w2 hb2
        go_wp2
        go_ret
        exact ⟨by rw [HF.out.1]; rfl, hb.trans (hb2.mono hs)⟩
    · obtain rfl : k = l1.length := by have := HK.out; omega
      have hfin : decide (l1 = l2) = true := by
        have := HT.out
        rw [List.take_length, HL.out, List.take_length] at this
        simpa using this
      have HF := Lib.hid hfin
      clear hfin HT
      go_wp2
      go_ret
      exact ⟨by rw [HF.out]; rfl, hb⟩
theorem info_IntSS : (Try.prog.info? 41).map (fun i => (i.zero, i.size, i.bytes)) = some (some (.slice none 0 0), 1, 24) := by kernel_rfl
set_option maxHeartbeats 1600000 in
theorem markIntSS_rl (B : Nat) (v : Value) (l : List (List Int)) (fp : List Nat) (k0 : Int) (w : World) (h : OL w B v l fp) (hn : fp.Nodup) (h0 : 0 ≤ k0) (h1 : k0 + 3 * Mk.size l ≤ 1099511627776) (hl : Mk.size l ≤ 1048576) :
    Calls Try.prog 100 #[v, .int .i64 k0] w fun e w' => e = .returned (.int .i64 (k0 + Mk.cnt l)) ∧ OL w' B v (Mk.mark k0 l) fp ∧ Fr (fun k => k ∈ fp) w w' := by
  have hsz : Mk.size l = l.length + (l.map Mk.size).sum := rfl
  have hct : Mk.cnt l = (l.map Mk.cnt).sum := rfl
  obtain ⟨a, c, rfl⟩ := h.read.form
  have HS := Lib.hid (And.intro hsz hct)
  have HN0 := Lib.hid hn
  have hln : l.length ≤ 1048576 := by omega
  clear hct hn
  go_enter Try.func100, Try.ntmps100
  go_wp2
  go_loopg [1, 5] l.length (fun q x i wr => ∃ k : Nat, k + q = l.length ∧ i = .int .i64 k ∧ x = .int .i64 (k0 + (psum Mk.cnt l k : Nat)) ∧ OL wr B (.slice a l.length c) (mkTo k0 l k) fp ∧ Fr (fun k => k ∈ fp) w wr)
  case atStart => exact ⟨0, by omega, rfl, by simp [psum_zero], h, Fr.refl _ _⟩
  case round =>
    obtain ⟨k, hk, rfl, rfl, ho, hf⟩ := hrel
    have HK := Lib.hid hk
    have HF := Lib.hid hf
    clear hk hf
    by_cases hk8 : k < l.length
    · have hps := psum_succ (f := Mk.cnt) hk8
      have hpz := psum_le (f := Mk.size) (l := l) (k + 1)
      have hpy := psum_succ (f := Mk.size) hk8
      have hcl := psum_cnt (l := l) k
      obtain ⟨cs, f, g, cap', hv, hgl, hgf, hown, hnf, hsub, hcell, hback⟩ := ho.open HN0.out (k := k) (by rw [mkTo_len]; exact hk8)
      rw [mkTo_gd hk8] at hown
      obtain ⟨z1, rfl, ho1⟩ := hown
      simp only [Value.slice.injEq] at hv
      obtain ⟨rfl, hx0, rfl⟩ := hv
      clear hx0
      obtain ⟨za1, zc1, rfl⟩ := ho1.read.form
      have hki : (k : Int) < (l.length : Int) := by omega
      have HB := Lib.hid hback
      have HC := Lib.hid hps
      have HSUB := Lib.hid hsub
      have HNF := Lib.hid hnf
      have hp1 : wr.cell? ⟨g, k, none⟩ = some (.slice za1 (gd l k).length zc1) := by have := hcell 0 _ rfl; rwa [show Dat.sz (List Int) = 1 from rfl, Nat.mul_one, Nat.add_zero] at this
      have q0 : 0 ≤ k0 + ((psum Mk.cnt l k : Nat) : Int) := by omega
      have q1 : k0 + ((psum Mk.cnt l k : Nat) : Int) + 3 * ((Mk.size (gd l k) : Nat) : Int) ≤ 1099511627776 := by omega
      have q3 : Mk.size (gd l k) ≤ 1048576 := by omega
      clear hps hpz hpy hcl hback hcell ho hsub hnf
      go_wp2_with fail
      refine (markIntS_rl B _ (gd l k) f _ _ ho1 HNF.out q0 q1 q3).mono ?_
      rintro e w2 ⟨rfl, p1, hf1⟩
      have hnew := (HB.out w2 (Mk.mark (k0 + (psum Mk.cnt l k : Nat)) (gd l k)) hf1 ⟨_, rfl, p1⟩).1
      rw [mkTo_set hk8] at hnew
      have HO := Lib.hid (And.intro hnew (HF.out.trans (hf1.mono fun j _ hj => HSUB.out j hj)))
      clear hnew p1 hf1 hp1 ho1
      go_wp2
      go_roundg (gk - 1)
      case rel => exact ⟨k + 1, by have := HK.out; omega, by go_num, by rw [HC.out, show k0 + ((psum Mk.cnt l k + Mk.cnt (gd l k) : Nat) : Int) = k0 + (psum Mk.cnt l k : Nat) + (Mk.cnt (gd l k) : Nat) by omega], HO.out.1, HO.out.2⟩
      case measure => have := HK.out; omega
    · obtain rfl : k = l.length := by have := HK.out; omega
      have hall := psum_all (f := Mk.cnt) (l := l)
      have hmk : mkTo k0 l l.length = Mk.mark k0 l := mkTo_all
      rw [hmk] at ho
      have HA := Lib.hid hall
      clear hall hmk
      go_wp2
      go_ret
      exact ⟨by rw [HS.out.2, ← HA.out]; rfl, ho, HF.out⟩
set_option maxHeartbeats 1600000 in
theorem heldIntSS_rl {S : Nat → Prop} (v : Value) (l : List (List Int)) (k0 : Int) (w : World) (h : RL w S v (Mk.mark k0 l)) (h0 : 0 ≤ k0) (h1 : k0 + 3 * Mk.size l ≤ 1099511627776) (hl : Mk.size l ≤ 1048576) :
    Calls Try.prog 102 #[v, .int .i64 k0] w fun e w' => e = .returned (.int .i64 (k0 + Mk.cnt l)) ∧ Below w.heap.size w w' := by
  have hsz : Mk.size l = l.length + (l.map Mk.size).sum := rfl
  have hct : Mk.cnt l = (l.map Mk.cnt).sum := rfl
  have hmL : Mk.mark k0 l = mkL k0 l := rfl
  rw [hmL] at h
  obtain ⟨a, c, hvv, _, _, hf⟩ := h.listAt
  rw [mkL_len] at hf hvv
  subst hvv
  have F1 := Lib.hid hf
  have HS := Lib.hid (And.intro hsz hct)
  have hln : l.length ≤ 1048576 := by omega
  clear hct hf h hmL
  go_enter Try.func102, Try.ntmps102
  go_wp2
  go_loopg [1, 5] l.length (fun q x i wr => ∃ k : Nat, k + q = l.length ∧ i = .int .i64 k ∧ x = .int .i64 (k0 + (psum Mk.cnt l k : Nat)) ∧ Below w.heap.size w wr)
  case atStart => exact ⟨0, by omega, rfl, by simp [psum_zero], Below.refl _ _⟩
  case round =>
    obtain ⟨k, hk, rfl, rfl, hb⟩ := hrel
    have HK := Lib.hid hk
    clear hk
    by_cases hk8 : k < l.length
    · have hps := psum_succ (f := Mk.cnt) hk8
      have hpz := psum_le (f := Mk.size) (l := l) (k + 1)
      have hpy := psum_succ (f := Mk.size) hk8
      have hcl := psum_cnt (l := l) k
      obtain ⟨b1, o1, u1, rfl, _, hbl1, hp1, r1⟩ := F1.out k hk8
      rw [gd_mkL hk8] at r1
      obtain ⟨ua1, uc1, rfl⟩ := r1.form
      replace hp1 := cell_keep hb hp1
      have hs := hb.size
      have hki : (k : Int) < (l.length : Int) := by omega
      have hzb : b1 < wr.heap.size := by omega
      have HC := Lib.hid hps
      have q0 : 0 ≤ k0 + ((psum Mk.cnt l k : Nat) : Int) := by omega
      have q1 : k0 + ((psum Mk.cnt l k : Nat) : Int) + 3 * ((Mk.size (gd l k) : Nat) : Int) ≤ 1099511627776 := by omega
      have q3 : Mk.size (gd l k) ≤ 1048576 := by omega
      have q6 : ¬ k0 + ((psum Mk.cnt l k : Nat) : Int) + ((Mk.cnt (gd l k) : Nat) : Int) < 0 := by omega
      clear hps hpz hpy hcl
      go_wp2_with fail
      refine (heldIntS_rl _ (gd l k) _ _ (r1.keep hb) q0 q1 q3).mono ?_
      rintro e w2 ⟨rfl, hb2⟩
      go_wp2
      go_roundg (gk - 1)
      case rel => exact ⟨k + 1, by have := HK.out; omega, by go_num, by rw [HC.out, show k0 + ((psum Mk.cnt l k + Mk.cnt (gd l k) : Nat) : Int) = k0 + (psum Mk.cnt l k : Nat) + (Mk.cnt (gd l k) : Nat) by omega], bt hb hb2⟩
      case measure => have := HK.out; omega
    · obtain rfl : k = l.length := by have := HK.out; omega
      have hall := psum_all (f := Mk.cnt) (l := l)
      have HA := Lib.hid hall
      clear hall
      go_wp2
      go_ret
      exact ⟨by rw [HS.out.2, ← HA.out]; rfl, hb⟩
end Go.Proofs.Ytapoillhgimdiaa
/- Small words for the walks of exact laws. -/
namespace Go.Proofs.Ytapoillhgimdiaa
open Go.RowKit
theorem RL.lt {α : Type} [Dat α] {w : World} {S : Nat → Prop} {v : Value} {l : List α} (h : RL w S v l) : RL w (fun k => k < w.heap.size) v l := h.more fun _ hk _ => hk
end Go.Proofs.Ytapoillhgimdiaa
