/- Data2: texts Mk, Lx1, Lx2, ExKit in one. -/
import Derived.Test.YtdjfdopgjlbloaaUData1
/- How the laws measure and mark data, in plain Lean; the helpers for lists of numbers, facts and atoms in one form. -/
namespace Go.Proofs.Ytdjfdopgjlbloaa
open Go.RowKit

class Mk (α : Type) where
  size : α → Nat
  cnt : α → Nat
  mark : Int → α → α
  le : ∀ a, cnt a ≤ 3 * size a
def mkL {α : Type} [Mk α] (k : Int) : List α → List α
  | [] => []
  | x :: r => Mk.mark k x :: mkL (k + Mk.cnt x) r
theorem sum_le3 {α : Type} [Mk α] : ∀ l : List α, (l.map (Mk.cnt (α := α))).sum ≤ 3 * (l.map (Mk.size (α := α))).sum
  | [] => by simp
  | x :: r => by
    have h1 := Mk.le x
    have h2 := sum_le3 r
    simp only [List.map_cons, List.sum_cons]
    omega
instance : Mk (List Int) := ⟨fun l => l.length, fun l => l.length, fun k l => mks k l.length, fun l => by show l.length ≤ 3 * l.length; omega⟩
instance : Mk (List Fact) := ⟨fun l => l.length, fun l => 3 * l.length, fun k l => mkFacts k l.length, fun _ => Nat.le_refl _⟩
instance : Mk (List Atom) := ⟨fun l => l.length, fun l => 3 * l.length, fun k l => mkAtoms k l.length, fun _ => Nat.le_refl _⟩
instance {α β : Type} [Mk α] [Mk β] : Mk (α × β) :=
  ⟨fun p => Mk.size p.1 + Mk.size p.2, fun p => Mk.cnt p.1 + Mk.cnt p.2, fun k p => (Mk.mark k p.1, Mk.mark (k + Mk.cnt p.1) p.2), fun p => by
    have := Mk.le p.1
    have := Mk.le p.2
    show Mk.cnt p.1 + Mk.cnt p.2 ≤ 3 * (Mk.size p.1 + Mk.size p.2)
    omega⟩
instance {α : Type} [Mk α] : Mk (List α) :=
  ⟨fun l => l.length + (l.map Mk.size).sum, fun l => (l.map Mk.cnt).sum, mkL, fun l => by
    have := sum_le3 l
    show (l.map Mk.cnt).sum ≤ 3 * (l.length + (l.map Mk.size).sum)
    omega⟩

/-- What is left of a measure. -/
def szF (left : Int) (s : Nat) : Int := if (s : Int) ≤ left then left - s else -1
theorem szF_fit {left : Int} {s : Nat} (h : (s : Int) ≤ left) : szF left s = left - s := if_pos h
theorem szF_big {left : Int} {s : Nat} (h : left < (s : Int)) : szF left s = -1 := if_neg (by omega)

section
variable {α : Type} [Inhabited α] {f : α → Nat} {l : List α} {k : Nat}
end
section
variable {α : Type} [Inhabited α] [Mk α] {k0 : Int} {l : List α} {k : Nat}
end

theorem szFactS_rl {S : Nat → Prop} (v : Value) (l : List Fact) (left : Int) (w : World) (h : RL w S v l) (h0 : 0 ≤ left) (h1 : left ≤ 1048576) :
    Calls Try.prog 29 #[v, .int .i64 left] w fun e w' => e = .returned (.int .i64 (szF left (Mk.size l))) ∧ Below w.heap.size w w' := by
  have hm := h.len
  obtain ⟨a, c, rfl⟩ := h.form
  by_cases hf : (l.length : Int) ≤ left
  · refine (szFactS_fit a l.length c left w h1 hf).mono ?_
    rintro e w' ⟨rfl, rfl⟩
    exact ⟨by rw [show Mk.size l = l.length from rfl, szF_fit hf], Below.refl _ _⟩
  · refine (szFactS_big a l.length c left w h0 (by omega) hm).mono ?_
    rintro e w' ⟨rfl, rfl⟩
    exact ⟨by rw [show Mk.size l = l.length from rfl, szF_big (by omega)], Below.refl _ _⟩
theorem szAtomS_rl {S : Nat → Prop} (v : Value) (l : List Atom) (left : Int) (w : World) (h : RL w S v l) (h0 : 0 ≤ left) (h1 : left ≤ 1048576) :
    Calls Try.prog 30 #[v, .int .i64 left] w fun e w' => e = .returned (.int .i64 (szF left (Mk.size l))) ∧ Below w.heap.size w w' := by
  have hm := h.len
  obtain ⟨a, c, rfl⟩ := h.form
  by_cases hf : (l.length : Int) ≤ left
  · refine (szAtomS_fit a l.length c left w h1 hf).mono ?_
    rintro e w' ⟨rfl, rfl⟩
    exact ⟨by rw [show Mk.size l = l.length from rfl, szF_fit hf], Below.refl _ _⟩
  · refine (szAtomS_big a l.length c left w h0 (by omega) hm).mono ?_
    rintro e w' ⟨rfl, rfl⟩
    exact ⟨by rw [show Mk.size l = l.length from rfl, szF_big (by omega)], Below.refl _ _⟩
theorem own_cInt (w : World) (B : Nat) (x : Int) : Own.own w B x [.int .i64 x] [] := ⟨rfl, rfl⟩
theorem fp_int {w : World} {B : Nat} {a : Int} {cs : List Value} {fp : List Nat} (h : Own.own w B a cs fp) : fp = [] := h.2
theorem nth_ints {l : List Int} {i : Nat} (h : i < l.length) : nth 1 (ints l) i = [.int .i64 (gd l i)] := by
  have hl : (ints l).length = l.length := by simp
  unfold nth
  rw [Nat.mul_one, List.drop_eq_getElem_cons (by omega)]
  simp [ints, gd_of h]
theorem ints_OL {w : World} {B : Nat} {v : Value} {l : List Int} (h : w.ownsRow B 3 1 v l.length (ints l)) : OL w B v l v.ownBlock.toList :=
  flat_OL (c := fun x => [.int .i64 x]) own_cInt h fun _ hi => nth_ints hi
theorem OL.ints {w : World} {B : Nat} {v : Value} {l : List Int} {fp : List Nat} (h : OL w B v l fp) : w.ownsRow B 3 1 v l.length (ints l) ∧ fp = v.ownBlock.toList := by
  have hfp := (h.row fp_int).2
  refine ⟨?_, hfp⟩
  obtain ⟨xs, fps, hr, hl, _, ho⟩ := h
  have : xs = Go.Proofs.Ytdjfdopgjlbloaa.ints l := by
    have h1 : xs.length = l.length := by rw [hr.1]; exact Nat.mul_one _
    refine List.ext_getElem (by rw [h1]; simp) fun i h2 h3 => ?_
    have h0 : nth 1 xs i = [.int .i64 (gd l i)] := (ho i (by omega)).1
    have h4 := nth_at (sz := 1) (i := i) (j := 0) (xs := xs) (u := .int .i64 (gd l i)) (by rw [h0]; rfl)
    rw [Nat.mul_one, Nat.add_zero, List.getElem?_eq_getElem h2] at h4
    injection h4 with h4
    rw [h4]
    simp [gd_of (show i < l.length by omega)]
  rw [this] at hr
  exact hr
theorem nodup_own (v : Value) : v.ownBlock.toList.Nodup := by cases v.ownBlock <;> simp
theorem toIntS_rl {S : Nat → Prop} (v : Value) (l : List Int) (w : World) (h : RL w S v l) (hl : Mk.size l ≤ 1048576) :
    Calls Try.prog 13 #[v] w fun e w' => ∃ v', e = .returned v' ∧ OO w' w.heap.size v' l ∧ Below w.heap.size w w' :=
  (toIntS_any v l w h.ints hl).mono fun _ _ ⟨v', he, ho, hb⟩ => ⟨v', he, ⟨_, ints_OL ho, nodup_own v'⟩, hb⟩
theorem toFactS_rl {S : Nat → Prop} (v : Value) (l : List Fact) (w : World) (h : RL w S v l) (hl : Mk.size l ≤ 1048576) :
    Calls Try.prog 31 #[v] w fun e w' => ∃ v', e = .returned v' ∧ OO w' w.heap.size v' l ∧ Below w.heap.size w w' := toFactS_any v l w h hl
theorem toAtomS_rl {S : Nat → Prop} (v : Value) (l : List Atom) (w : World) (h : RL w S v l) (hl : Mk.size l ≤ 1048576) :
    Calls Try.prog 32 #[v] w fun e w' => ∃ v', e = .returned v' ∧ OO w' w.heap.size v' l ∧ Below w.heap.size w w' := toAtomS_any v l w h hl
theorem eqIntS_rl {S1 S2 : Nat → Prop} (v1 v2 : Value) (l1 l2 : List Int) (w : World) (h1 : RL w S1 v1 l1) (h2 : RL w S2 v2 l2) :
    Calls Try.prog 15 #[v1, v2] w fun e w' => e = .returned (.bool (decide (l1 = l2))) ∧ Below w.heap.size w w' := eqIntS_any v1 v2 l1 l2 w h1.ints h2.ints
theorem eqFactS_rl {S1 S2 : Nat → Prop} (v1 v2 : Value) (l1 l2 : List Fact) (w : World) (h1 : RL w S1 v1 l1) (h2 : RL w S2 v2 l2) :
    Calls Try.prog 33 #[v1, v2] w fun e w' => e = .returned (.bool (decide (l1 = l2))) ∧ Below w.heap.size w w' := eqFactS_any v1 v2 l1 l2 w h1 h2
theorem eqAtomS_rl {S1 S2 : Nat → Prop} (v1 v2 : Value) (l1 l2 : List Atom) (w : World) (h1 : RL w S1 v1 l1) (h2 : RL w S2 v2 l2) :
    Calls Try.prog 34 #[v1, v2] w fun e w' => e = .returned (.bool (decide (l1 = l2))) ∧ Below w.heap.size w w' := eqAtomS_any v1 v2 l1 l2 w h1 h2
theorem markIntS_rl (B : Nat) (v : Value) (l : List Int) (fp : List Nat) (k0 : Int) (w : World) (h : OL w B v l fp) (_hn : fp.Nodup) (h0 : 0 ≤ k0) (h1 : k0 + 3 * Mk.size l ≤ 1099511627776) (hl : Mk.size l ≤ 1048576) :
    Calls Try.prog 17 #[v, .int .i64 k0] w fun e w' => e = .returned (.int .i64 (k0 + Mk.cnt l)) ∧ OL w' B v (Mk.mark k0 l) fp ∧ Fr (fun k => k ∈ fp) w w' := by
  obtain ⟨hr, rfl⟩ := h.ints
  refine (markIntS_any B v l k0 w hr h0 (by omega) (Nat.le_trans (show l.length ≤ 1048576 from hl) (by decide))).mono ?_
  rintro e w' ⟨rfl, ho, hf⟩
  refine ⟨rfl, ints_OL (l := mks k0 l.length) (by rw [mks_len]; exact ho), hf.mono fun k _ hk => mem_ownBlock.2 hk⟩
theorem markFactS_rl (B : Nat) (v : Value) (l : List Fact) (fp : List Nat) (k0 : Int) (w : World) (h : OL w B v l fp) (_hn : fp.Nodup) (h0 : 0 ≤ k0) (h1 : k0 + 3 * Mk.size l ≤ 1099511627776) (hl : Mk.size l ≤ 1048576) :
    Calls Try.prog 35 #[v, .int .i64 k0] w fun e w' => e = .returned (.int .i64 (k0 + Mk.cnt l)) ∧ OL w' B v (Mk.mark k0 l) fp ∧ Fr (fun k => k ∈ fp) w w' :=
  (markFactS_any B v l fp k0 w h h0 (by omega) hl).mono fun _ _ ⟨he, ho, hf⟩ => ⟨by rw [he]; congr 2, ho, hf⟩
theorem markAtomS_rl (B : Nat) (v : Value) (l : List Atom) (fp : List Nat) (k0 : Int) (w : World) (h : OL w B v l fp) (_hn : fp.Nodup) (h0 : 0 ≤ k0) (h1 : k0 + 3 * Mk.size l ≤ 1099511627776) (hl : Mk.size l ≤ 1048576) :
    Calls Try.prog 36 #[v, .int .i64 k0] w fun e w' => e = .returned (.int .i64 (k0 + Mk.cnt l)) ∧ OL w' B v (Mk.mark k0 l) fp ∧ Fr (fun k => k ∈ fp) w w' :=
  (markAtomS_any B v l fp k0 w h h0 (by omega) hl).mono fun _ _ ⟨he, ho, hf⟩ => ⟨by rw [he]; congr 2, ho, hf⟩
theorem heldFactS_rl {S : Nat → Prop} (v : Value) (l : List Fact) (k0 : Int) (w : World) (h : RL w S v (Mk.mark k0 l)) (h0 : 0 ≤ k0) (h1 : k0 + 3 * Mk.size l ≤ 1099511627776) (hl : Mk.size l ≤ 1048576) :
    Calls Try.prog 37 #[v, .int .i64 k0] w fun e w' => e = .returned (.int .i64 (k0 + Mk.cnt l)) ∧ Below w.heap.size w w' :=
  (heldFactS_any v l.length k0 w h h0 (by omega) hl).mono fun _ _ ⟨he, hw⟩ => ⟨by rw [he]; congr 2, hw ▸ Below.refl _ _⟩
theorem heldAtomS_rl {S : Nat → Prop} (v : Value) (l : List Atom) (k0 : Int) (w : World) (h : RL w S v (Mk.mark k0 l)) (h0 : 0 ≤ k0) (h1 : k0 + 3 * Mk.size l ≤ 1099511627776) (hl : Mk.size l ≤ 1048576) :
    Calls Try.prog 38 #[v, .int .i64 k0] w fun e w' => e = .returned (.int .i64 (k0 + Mk.cnt l)) ∧ Below w.heap.size w w' :=
  (heldAtomS_any v l.length k0 w h h0 (by omega) hl).mono fun _ _ ⟨he, hw⟩ => ⟨by rw [he]; congr 2, hw ▸ Below.refl _ _⟩
end Go.Proofs.Ytdjfdopgjlbloaa
/- Walks: the helpers of the laws for structs of two lists. -/
namespace Go.Proofs.Ytdjfdopgjlbloaa
open Go.RowKit

theorem OL.setB {α : Type} [Own α] [Tid α] {w : World} {B : Nat} {v : Value} {l : List α} {fp : List Nat} {p : Addr} {u : Value} (h : OL w B v l fp) (hp : p.block < B) : OL (w.setCell p u) B v l fp :=
  h.okept (fr_set _ _ _) fun k hk e => by have := (h.lt k hk).1; omega

theorem RL.ext {α : Type} [Dat α] {w : World} {S : Nat → Prop} {v : Value} {l : List α} (h : RL w S v l) (x : Ext w) : RL (ext w x) S v l := h.keep x.below
set_option maxHeartbeats 800000 in
theorem szAssertion_rl {S1 S2 : Nat → Prop} (v1 v2 : Value) (a : Asn) (left : Int) (w : World) (r1 : RL w S1 v1 a.1) (r2 : RL w S2 v2 a.2) (h0 : 0 ≤ left) (h1 : left ≤ 1048576) :
    Calls Try.prog 11 #[.agg #[v1, v2], .int .i64 left] w fun e w' => e = .returned (.int .i64 (szF left (Mk.size a))) ∧ Below w.heap.size w w' := by
  obtain ⟨a1, a2⟩ := a
  simp only at r1 r2
  have hsz : Mk.size ((a1, a2) : Asn) = Mk.size a1 + Mk.size a2 := rfl
  obtain ⟨b1, c1, rfl⟩ := r1.form
  obtain ⟨b2, c2, rfl⟩ := r2.form
  have e1 : (left < (Mk.size a1 : Int)) ∨ ((Mk.size a1 : Int) ≤ left) := by omega
  rcases e1 with hb | hf
  · have hfin : szF left (Mk.size ((a1, a2) : Asn)) = -1 := szF_big (by rw [hsz]; omega)
    have HF := Lib.hid (And.intro hfin (szF_big hb))
    clear hfin hb hsz
    go_enter Try.func11, Try.ntmps11
    go_wp2_with fail
    refine (szFactS_rl _ a1 left _ (r1.alloc _) h0 h1).mono ?_
    rw [HF.out.2]
    rintro e w1 ⟨rfl, hb1⟩
    go_wp2
    go_ret
    exact ⟨by rw [HF.out.1]; rfl, bt (below_alloc _ _) hb1⟩
  have HS := Lib.hid (szF_fit hf)
  have e2 : (left - Mk.size a1 < (Mk.size a2 : Int)) ∨ ((Mk.size a2 : Int) ≤ left - Mk.size a1) := by omega
  rcases e2 with hb | hf2
  · have hfin : szF left (Mk.size ((a1, a2) : Asn)) = -1 := szF_big (by rw [hsz]; omega)
    have HF := Lib.hid (And.intro hfin (szF_big hb))
    clear hfin hb hsz
    go_enter Try.func11, Try.ntmps11
    go_wp2_with fail
    refine (szFactS_rl _ a1 left _ (r1.alloc _) h0 h1).mono ?_
    rw [HS.out]
    rintro e w1 ⟨rfl, hb1⟩
    have hc1 := cell_keep hb1 (p := ⟨w.heap.size, 1, none⟩) (v := .slice b2 a2.length c2) (by simp)
    go_wp2_with fail
    refine (szAtomS_rl _ a2 (left - Mk.size a1) _ ((r2.alloc _).keep hb1) (by omega) (by omega)).mono ?_
    rw [HF.out.2]
    rintro e w2 ⟨rfl, hb2⟩
    go_wp2
    go_ret
    exact ⟨by rw [HF.out.1]; rfl, bt (bt (below_alloc _ _) hb1) hb2⟩
  · have hfin : szF left (Mk.size ((a1, a2) : Asn)) = left - Mk.size a1 - Mk.size a2 := by rw [szF_fit (by rw [hsz]; omega), hsz]; omega
    have HF := Lib.hid (And.intro hfin (szF_fit hf2))
    clear hfin hsz
    go_enter Try.func11, Try.ntmps11
    go_wp2_with fail
    refine (szFactS_rl _ a1 left _ (r1.alloc _) h0 h1).mono ?_
    rw [HS.out]
    rintro e w1 ⟨rfl, hb1⟩
    have hc1 := cell_keep hb1 (p := ⟨w.heap.size, 1, none⟩) (v := .slice b2 a2.length c2) (by simp)
    go_wp2_with fail
    refine (szAtomS_rl _ a2 (left - Mk.size a1) _ ((r2.alloc _).keep hb1) (by omega) (by omega)).mono ?_
    rw [HF.out.2]
    rintro e w2 ⟨rfl, hb2⟩
    go_wp2
    go_ret
    exact ⟨by rw [HF.out.1]; rfl, bt (bt (below_alloc _ _) hb1) hb2⟩
set_option maxHeartbeats 1600000 in
theorem toAssertion_rl {S1 S2 : Nat → Prop} (v1 v2 : Value) (a : Asn) (w : World) (r1 : RL w S1 v1 a.1) (r2 : RL w S2 v2 a.2) (hl : Mk.size a ≤ 1048576) :
    Calls Try.prog 12 #[.agg #[v1, v2]] w fun e w' => ∃ u1 u2, e = .returned (.agg #[u1, u2]) ∧ OA w' w.heap.size u1 u2 a ∧ Below w.heap.size w w' := by
  obtain ⟨a1, a2⟩ := a
  simp only at r1 r2
  have hl1 : Mk.size a1 + Mk.size a2 ≤ 1048576 := hl
  clear hl
  obtain ⟨b1, c1, rfl⟩ := r1.form
  obtain ⟨b2, c2, rfl⟩ := r2.form
  go_enter Try.func12, Try.ntmps12
  go_wp2_with fail
  refine (toFactS_rl _ a1 _ (((r1.alloc _).alloc _).alloc _) (by omega)).mono ?_
  rintro e w1 ⟨u1, rfl, ⟨f1, o1, n1⟩, hb1⟩
  obtain ⟨d1, k1, rfl⟩ := o1.read.form
  have z1 : w.heap.size + 3 ≤ w1.heap.size := by have := hb1.size; simp at this; omega
  have y0 : w.heap.size < w1.heap.size := by omega
  have y1 : w.heap.size + 1 < w1.heap.size := by omega
  have y2 : w.heap.size + 1 + 1 < w1.heap.size := by omega
  replace o1 := o1.mono (B' := w.heap.size + 3) (by simp)
  obtain ⟨hc1, hf1⟩ := bcell hb1
  have hb01 : Below w.heap.size w w1 := bt (bt (bt (below_alloc _ _) (below_alloc _ _)) (below_alloc _ _)) hb1
  have hbs : Below w.heap.size w (w1.setCell ⟨w.heap.size + 1 + 1, 0, none⟩ (.slice d1 a1.length k1)) := hb01.setCell (by simp; omega) _
  clear hb1
  go_wp2_with fail
  refine (toAtomS_rl _ a2 _ (r2.keep hbs) (by omega)).mono ?_
  rintro e w2 ⟨u2, rfl, ⟨f2, o2, n2⟩, hb2⟩
  obtain ⟨d2, k2, rfl⟩ := o2.read.form
  have o1' := (o1.setB (p := ⟨w.heap.size + 1 + 1, 0, none⟩) (u := .slice d1 a1.length k1) (by simp)).keep hb2
  have o2' := o2.mono (B' := w.heap.size + 3) (by simp; omega)
  have hnd : (f1 ++ f2).Nodup := List.nodup_append.2 ⟨n1, n2, fun x h1 y h2 e => by
    have q1 := (o1.lt x h1).2
    have q2 := (o2.lt y h2).1
    simp at q2
    omega⟩
  have hb02 : Below w.heap.size w w2 := hbs.trans (hb2.mono (by simp; omega))
  obtain ⟨hc2, hf2⟩ := bcell hb2
  have z2 := hb2.size
  simp at z2
  have x1 : w.heap.size + 1 < w2.heap.size := by omega
  have x2 : w.heap.size + 1 + 1 < w2.heap.size := by omega
  clear o2 o1 n1 n2
  go_wp2
  refine bodyPost_ret (v := .agg #[.slice d1 a1.length k1, .slice d2 a2.length k2]) (by simp [results, Try.results12, go_sem, y1, hc1, hc2]) rfl ?_
  refine ⟨_, _, rfl, ⟨f1, f2, ?_, ?_, hnd⟩, ?_⟩
  · exact (((o1'.setB (by simp)).setB (by simp)).setB (by simp)).mono (by omega)
  · exact (((o2'.setB (by simp)).setB (by simp)).setB (by simp)).mono (by omega)
  · exact ((hb02.setCell (by simp; omega) _).setCell (by simp) _).setCell (by simp) _
set_option maxHeartbeats 800000 in
theorem eqAssertion_rl {S1 S2 S3 S4 : Nat → Prop} (v1 v2 u1 u2 : Value) (a b : Asn) (w : World) (h1 : RL w S1 v1 a.1) (h2 : RL w S2 v2 a.2) (k1 : RL w S3 u1 b.1) (k2 : RL w S4 u2 b.2) :
    Calls Try.prog 14 #[.agg #[v1, v2], .agg #[u1, u2]] w fun e w' => e = .returned (.bool (decide (a = b))) ∧ Below w.heap.size w w' := by
  obtain ⟨a1, a2⟩ := a
  obtain ⟨b1, b2⟩ := b
  simp only at h1 h2 k1 k2
  by_cases e1 : a1 = b1
  rotate_left
  · have hfin : decide ((a1, a2) = (b1, b2)) = false := by simp [e1]
    have d1 : decide (a1 = b1) = false := by simpa using e1
    have HF := Lib.hid (And.intro hfin d1)
    clear hfin d1 e1
    go_enter Try.func14, Try.ntmps14
    go_wp2_with fail
    refine (cb (eqFactS_rl _ _ a1 b1 _ ((h1.alloc _).alloc _) ((k1.alloc _).alloc _)) HF.out.2).mono ?_
    rintro e w1 ⟨rfl, hb1⟩
    go_wp2
    go_ret
    exact ⟨by rw [HF.out.1]; rfl, bt (ba (below_alloc _ _) _) hb1⟩
  have d1 : decide (a1 = b1) = true := by simpa using e1
  have D1 := Lib.hid d1
  have hfin : decide ((a1, a2) = (b1, b2)) = decide (a2 = b2) := by simp [e1]
  clear d1 e1
  cases d2 : decide (a2 = b2)
  all_goals
    rw [d2] at hfin
    have HF := Lib.hid (And.intro hfin d2)
    clear hfin d2
    go_enter Try.func14, Try.ntmps14
    go_wp2_with fail
    refine (cb (eqFactS_rl _ _ a1 b1 _ ((h1.alloc _).alloc _) ((k1.alloc _).alloc _)) D1.out).mono ?_
    rintro e w1 ⟨rfl, hb1⟩
    have hc1 := cell_below hb1 (p := ⟨w.heap.size, 1, none⟩) (v := v2) (by first | (simp; done) | (simp; omega)) (by simp)
    have hc2 := cell_below hb1 (p := ⟨w.heap.size + 1, 1, none⟩) (v := u2) (by simp) (by simp)
    go_wp2_with fail
    refine (cb (eqAtomS_rl _ _ a2 b2 _ (((h2.alloc _).alloc _).keep hb1) (((k2.alloc _).alloc _).keep hb1)) HF.out.2).mono ?_
    rintro e w2 ⟨rfl, hb2⟩
    go_wp2
    go_ret
    exact ⟨by rw [HF.out.1]; rfl, bt (bt (ba (below_alloc _ _) _) hb1) hb2⟩
set_option maxHeartbeats 800000 in
theorem markAssertion_rl (B : Nat) (v1 v2 : Value) (a : Asn) (f1 f2 : List Nat) (k0 : Int) (w : World) (o1 : OL w B v1 a.1 f1) (o2 : OL w B v2 a.2 f2) (hn : (f1 ++ f2).Nodup) (h0 : 0 ≤ k0) (h1 : k0 + 3 * Mk.size a ≤ 1099511627776) (hl : Mk.size a ≤ 1048576) :
    Calls Try.prog 16 #[.agg #[v1, v2], .int .i64 k0] w fun e w' => e = .returned (.int .i64 (k0 + Mk.cnt a)) ∧ OL w' B v1 (Mk.mark k0 a).1 f1 ∧ OL w' B v2 (Mk.mark k0 a).2 f2 ∧ Fr (fun k => k ∈ f1 ++ f2) w w' := by
  obtain ⟨a1, a2⟩ := a
  simp only at o1 o2
  have hsz : Mk.size ((a1, a2) : Asn) = Mk.size a1 + Mk.size a2 := rfl
  have hct : Mk.cnt ((a1, a2) : Asn) = Mk.cnt a1 + Mk.cnt a2 := rfl
  have hm : Mk.mark k0 ((a1, a2) : Asn) = (Mk.mark k0 a1, Mk.mark (k0 + Mk.cnt a1) a2) := rfl
  have hle := Mk.le a1
  rw [hsz] at h1 hl
  rw [hct, hm]
  clear hsz hct hm
  obtain ⟨n1, n2, n3⟩ := List.nodup_append.1 hn
  obtain ⟨d1, k1, rfl⟩ := o1.read.form
  obtain ⟨d2, k2, rfl⟩ := o2.read.form
  have HN := Lib.hid (And.intro n1 (And.intro n2 n3))
  clear n1 n2 n3 hn
  go_enter Try.func16, Try.ntmps16
  go_wp2_with fail
  refine (markFactS_rl B _ a1 f1 k0 _ (o1.keep (below_alloc _ _)) HN.out.1 h0 (by omega) (by omega)).mono ?_
  rintro e w1 ⟨rfl, p1, hf1⟩
  have hlt := o2.lt
  have hlt1 := o1.lt
  have hc1 := hf1.cell (p := ⟨w.heap.size, 1, none⟩) (v := .slice d2 a2.length k2) (fun hm => by have := (hlt1 _ hm).2; simp at this) (by simp)
  have o2' := (o2.keep (below_alloc w (.cells #[.slice d1 a1.length k1, .slice d2 a2.length k2] 26))).okept hf1 (fun k hk hm => HN.out.2.2 k hm k hk rfl)
  have hz := hf1.size
  simp at hz
  go_wp2_with fail
  refine (markAtomS_rl B _ a2 f2 (k0 + Mk.cnt a1) _ o2' HN.out.2.1 (by omega) (by omega) (by omega)).mono ?_
  rintro e w2 ⟨rfl, p2, hf2⟩
  have p1' := p1.okept hf2 (fun k hk hm => HN.out.2.2 k hk k hm rfl)
  have hfr := (((Below.fr (below_alloc w (.cells #[.slice d1 a1.length k1, .slice d2 a2.length k2] 26))).mono (S' := fun k => k ∈ f1 ++ f2) (fun _ _ h => h.elim)).trans (hf1.mono fun k _ hk => List.mem_append_left _ hk)).trans (hf2.mono fun k _ hk => List.mem_append_right _ hk)
  have HR := Lib.hid (And.intro p1' (And.intro p2 hfr))
  clear p1' p2 hfr p1 hf1 hf2 o2'
  go_wp2
  go_ret
  exact ⟨by rw [show k0 + ((Mk.cnt a1 + Mk.cnt a2 : Nat) : Int) = k0 + Mk.cnt a1 + Mk.cnt a2 by omega]; rfl, HR.out⟩
set_option maxHeartbeats 800000 in
theorem heldAssertion_rl {S1 S2 : Nat → Prop} (v1 v2 : Value) (a : Asn) (k0 : Int) (w : World) (r1 : RL w S1 v1 (Mk.mark k0 a).1) (r2 : RL w S2 v2 (Mk.mark k0 a).2) (h0 : 0 ≤ k0) (h1 : k0 + 3 * Mk.size a ≤ 1099511627776) (hl : Mk.size a ≤ 1048576) :
    Calls Try.prog 18 #[.agg #[v1, v2], .int .i64 k0] w fun e w' => e = .returned (.int .i64 (k0 + Mk.cnt a)) ∧ Below w.heap.size w w' := by
  obtain ⟨a1, a2⟩ := a
  have hsz : Mk.size ((a1, a2) : Asn) = Mk.size a1 + Mk.size a2 := rfl
  have hct : Mk.cnt ((a1, a2) : Asn) = Mk.cnt a1 + Mk.cnt a2 := rfl
  have hm : Mk.mark k0 ((a1, a2) : Asn) = (Mk.mark k0 a1, Mk.mark (k0 + Mk.cnt a1) a2) := rfl
  have hle := Mk.le a1
  rw [hsz] at h1 hl
  rw [hm] at r1 r2
  simp only at r1 r2
  rw [hct]
  clear hsz hct hm
  have hp1 : 0 ≤ k0 + (Mk.cnt a1 : Int) := by omega
  have hp2 : 0 ≤ k0 + (Mk.cnt a1 : Int) + (Mk.cnt a2 : Int) := by omega
  have hn1 : ¬ k0 + (Mk.cnt a1 : Int) < 0 := by omega
  have hn2 : ¬ k0 + (Mk.cnt a1 : Int) + (Mk.cnt a2 : Int) < 0 := by omega
  obtain ⟨d1, k1, rfl⟩ := r1.form
  obtain ⟨d2, k2, rfl⟩ := r2.form
  go_enter Try.func18, Try.ntmps18
  go_wp2_with fail
  refine (heldFactS_rl _ a1 k0 _ (r1.alloc _) h0 (by omega) (by omega)).mono ?_
  rintro e w1 ⟨rfl, hb1⟩
  have hc1 := cell_keep hb1 (p := ⟨w.heap.size, 1, none⟩) (v := .slice d2 (Mk.mark (k0 + Mk.cnt a1) a2).length k2) (by simp)
  go_wp2_with fail
  refine (heldAtomS_rl _ a2 (k0 + Mk.cnt a1) _ ((r2.alloc _).keep hb1) (by omega) (by omega) (by omega)).mono ?_
  rintro e w2 ⟨rfl, hb2⟩
  go_wp2
  go_ret
  exact ⟨by rw [show k0 + ((Mk.cnt a1 + Mk.cnt a2 : Nat) : Int) = k0 + Mk.cnt a1 + Mk.cnt a2 by omega]; rfl, bt (bt (below_alloc _ _) hb1) hb2⟩
end Go.Proofs.Ytdjfdopgjlbloaa
/- Walks: the helpers of the laws for lists of assertions and lists of lists of numbers. -/
namespace Go.Proofs.Ytdjfdopgjlbloaa
open Go.RowKit

theorem info_IntSS : (Try.prog.info? 27).map (fun i => (i.zero, i.size, i.bytes)) = some (some (.slice none 0 0), 1, 24) := by kernel_rfl
end Go.Proofs.Ytdjfdopgjlbloaa
/- Small words for the walks of exact laws. -/
namespace Go.Proofs.Ytdjfdopgjlbloaa
open Go.RowKit
theorem RL.lt {α : Type} [Dat α] {w : World} {S : Nat → Prop} {v : Value} {l : List α} (h : RL w S v l) : RL w (fun k => k < w.heap.size) v l := h.more fun _ hk _ => hk
end Go.Proofs.Ytdjfdopgjlbloaa
