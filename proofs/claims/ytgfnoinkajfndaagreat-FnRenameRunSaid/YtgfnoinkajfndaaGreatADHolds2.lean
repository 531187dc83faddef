/- Fam1: texts Jn1, Jn2, Jn3 in one. -/
import Derived.Test.YtgfnoinkajfndaaGreatAData3
import Derived.Test.YtgfnoinkajfndaaGreatAData2
import Derived.Test.YtgfnoinkajfndaaGreatACpy
import Derived.Deep.RegionHeld3
import Derived.Test.YtgfnoinkajfndaaGreatAAppF
import Derived.Test.YtgfnoinkajfndaaGreatADraw2
import Derived.Handy
/- Walks: lists joined; copies of assertions, of the program. -/
namespace Go.Proofs.YtgfnoinkajfndaaGreat
open Go.RowKit

end Go.Proofs.YtgfnoinkajfndaaGreat
/- Walks: copies of assertions, of the program. -/
namespace Go.Proofs.YtgfnoinkajfndaaGreat
open Go.RowKit

section
variable {α β : Type} [Own α] [Tid α] [Own β] [Tid β] {w w' w'' : World} {B B1 B2 : Nat} {v1 v2 : Value} {l1 : List α} {l2 : List β} {f1 f2 : List Nat} {a : List α × List β}
theorem OA.setB (h : OA w B v1 v2 a) {p : Addr} {u : Value} (hp : p.block < B) : OA (w.setCell p u) B v1 v2 a :=
  h.kept (fr_set _ _ _) fun k h1 _ e => by omega
end

end Go.Proofs.YtgfnoinkajfndaaGreat
/- Walks: copies of families, of the program; families joined. -/
namespace Go.Proofs.YtgfnoinkajfndaaGreat
open Go.RowKit

end Go.Proofs.YtgfnoinkajfndaaGreat
/- Fam2: texts Star, Star2, Join in one. -/
/- Walks: the reference's separating conjunction and copies. -/
namespace Go.Proofs.YtgfnoinkajfndaaGreat
open Go.RowKit

theorem RL.setB {α : Type} [Dat α] {w : World} {S : Nat → Prop} {v : Value} {l : List α} (h : RL w S v l) {p : Addr} {u : Value} (hp : ∀ k, S k → ¬ k = p.block) : RL (w.setCell p u) S v l := h.kept (fr_set _ _ _) fun k _ h1 h2 => hp k h1 h2

theorem RL.forms {α : Type} [Dat α] {w : World} {S : Nat → Prop} {v : Value} {l : List α} (h : RL w S v l) : ∃ a n cap, v = .slice a n cap := by obtain ⟨a, c, h⟩ := h.form; exact ⟨a, _, c, h⟩

end Go.Proofs.YtgfnoinkajfndaaGreat
/- Walks: copies of families, of the reference; families joined. -/
namespace Go.Proofs.YtgfnoinkajfndaaGreat
open Go.RowKit

/-- A row of the call's own whose elements can be read and do not hang on the row itself. -/
def TR {α : Type} [Dat α] (w : World) (B : Nat) (e : TypeId) (v : Value) (l : List α) : Prop :=
  ∃ xs, w.ownsRow B e (Dat.sz α) v l.length xs ∧ ∀ i, i < l.length → Dat.rd w (fun k => B ≤ k ∧ ¬ some k = v.ownBlock) (gd l i) (nth (Dat.sz α) xs i)
section
variable {α : Type} [Dat α] {w w' : World} {B : Nat} {e : TypeId} {v v' : Value} {l m : List α} {xs ys : List Value}
theorem TR.keep (h : TR w B e v l) (hb : Below w.heap.size w w') : TR w' B e v l := by
  obtain ⟨xs, hr, hx⟩ := h
  exact ⟨xs, own_keep hr hb, fun i hi => Dat.kept (hx i hi) (Below.fr hb) fun _ _ _ h => h⟩
theorem TR.rl (h : TR w B e v l) : RL w (fun k => B ≤ k) v l := by
  obtain ⟨xs, hr, hx⟩ := h
  exact (RowE.rl (.inr hr) hx).more fun k _ h => h.elim (fun h => h.1) id
theorem TR.lt (h : TR w B e v l) : ∀ j, some j = v.ownBlock → j < w.heap.size := fun j hj => by
  obtain ⟨xs, hr, _⟩ := h; exact (own_lt hr hj).2
theorem TR.nil (w : World) (B : Nat) (e : TypeId) : TR w B e (.slice none 0 0) ([] : List α) := ⟨[], World.ownsRow_nil _ _ _ _, fun i hi => absurd hi (by simp)⟩
theorem TR.of (h : w.ownsRow B e (Dat.sz α) v 0 []) : TR w B e v ([] : List α) := ⟨[], h, fun i hi => absurd hi (by simp)⟩
end
/-- The asserted bounds of one assertion. -/
def asSz (a : Asn) : Prop := a.1.length ≤ 1048576 ∧ a.2.length ≤ 1048576
end Go.Proofs.YtgfnoinkajfndaaGreat
/- Walks: families joined, in the program and in the reference. -/
namespace Go.Proofs.YtgfnoinkajfndaaGreat
open Go.RowKit

end Go.Proofs.YtgfnoinkajfndaaGreat
/- Walks: draws of atoms and assertions. -/
namespace Go.Proofs.YtgfnoinkajfndaaGreat
open Go.RowKit

theorem heap3 (w : World) (a b c : Value) (T : TypeId) : (w.alloc (.cells #[a, b, c] T)).heap[w.heap.size]? = some (.cells #[a, b, c] T (0, 0)) := heap_alloc_new w _
section
variable {w : World} {b : Nat} {T : TypeId} {x y z : Value}
theorem c30 (h : w.heap[b]? = some (.cells #[x, y, z] T (0, 0))) : w.cell? ⟨b, 0, none⟩ = some x := cell_of_row w b 0 _ _ _ h
theorem c31 (h : w.heap[b]? = some (.cells #[x, y, z] T (0, 0))) : w.cell? ⟨b, 1, none⟩ = some y := cell_of_row w b 1 _ _ _ h
theorem c32 (h : w.heap[b]? = some (.cells #[x, y, z] T (0, 0))) : w.cell? ⟨b, 2, none⟩ = some z := cell_of_row w b 2 _ _ _ h
theorem c3z (h : w.heap[b]? = some (.cells #[x, y, z] T (0, 0))) (i : Nat) : w.frozen? ⟨b, i, none⟩ = false := frozen_of_row w b i _ _ h
end
theorem atomB_mk {k a b : Int} (hk : k = 1 ∨ k = 2) (h1 : 0 ≤ a) (h2 : a ≤ 8) (h3 : 0 ≤ b) (h4 : b ≤ 8) : atomB (k, a, b) = true := by
  have e1 := isTermB_iff.2 (And.intro h1 h2)
  have e2 := isTermB_iff.2 (And.intro h3 h4)
  simp only [atomB, e1, e2]
  rcases hk with rfl | rfl <;> rfl

set_option maxRecDepth 100000 in
set_option maxHeartbeats 1600000 in
theorem l3Point_any (g q : Nat) (w : World) (hr : Rdr w g q) (hq : q ≤ 1000000) :
    Calls Tryz.prog 157 #[.pointer (some ⟨g, 0, none⟩)] w fun e w' => ∃ x : Atom, e = .returned (.agg #[.int .i64 x.1, .int .i64 x.2.1, .int .i64 x.2.2]) ∧ atomB x = true ∧ Rdr w' g (q + 3) ∧ Fr (fun j => j = g) w w' := by
  have hgl := hr.lt
  have hlit := lit_ints (w.alloc (.cells #[.int .i64 0, .int .i64 0, .int .i64 0] 96)) [1, 2, 3, 5, 4, 6] (by decide)
  simp only [World.size_alloc] at hlit
  have HLIT := Lib.hid hlit
  clear hlit
  go_enter Tryz.func157, Tryz.ntmps157
  go_wp2_with fail
  refine (num_any g q _ [1, 2, 3, 5, 4, 6] _ ((hr.keep (below_alloc _ _)).keep (below_alloc _ _)) HLIT.out (by omega) (by decide) (by decide) (fun k hk e => by simp [Value.ownBlock] at hk; omega)).mono ?_
  rintro e w1 ⟨x, hx, rfl, hr1, hf1⟩
  have hx8 : 0 ≤ x ∧ x ≤ 8 := by simp at hx; omega
  have hA1 := box_kept (box_keep (heap3 w (.int .i64 0) (.int .i64 0) (.int .i64 0) 96) (below_alloc _ _)) hf1 (by omega)
  have hF1 : Fr (fun j => j = g) w w1 := ((Below.fr (bt (below_alloc w _) (below_alloc _ _))).mono fun _ _ h => h.elim).trans hf1
  have hz1 := box_lt hA1
  clear hf1 hx hr HLIT
  go_wp2_with fail
  refine (num_any g (q + 1) _ [2, 0, 3, 1, 5, 0, 6] _ (hr1.keep (below_alloc _ _)) (lit_ints _ [2, 0, 3, 1, 5, 0, 6] (by decide)) (by omega) (by decide) (by decide) (fun k hk e => by simp [Value.ownBlock] at hk; omega)).mono ?_
  rintro e w2 ⟨y, hy, rfl, hr2, hf2⟩
  have hy8 : 0 ≤ y ∧ y ≤ 8 := by simp at hy; omega
  have hA2 := box_kept (box_keep hA1 (below_alloc _ _)) hf2 (by omega)
  have hF2 : Fr (fun j => j = g) w w2 := (hF1.thenB (below_alloc _ _)).trans hf2
  have hz2 := box_lt hA2
  clear hf2 hy hr1 hA1 hF1
  go_wp2_with fail
  refine (pick_any g (q + 2) 2 _ (hr2.keep (below_alloc _ _)) (by omega) (by decide) (by decide)).mono ?_
  rintro e w3 ⟨k, rfl, hk, hr3, hf3⟩
  have hA3 := box_kept (box_keep hA2 (below_alloc _ _)) hf3 (by omega)
  have hB3 := box_kept (heap3 w2 (.int .i64 1) (.int .i64 x) (.int .i64 y) 96) hf3 (by omega)
  have hF3 : Fr (fun j => j = g) w w3 := (hF2.thenB (below_alloc _ _)).trans hf3
  have hz3 := box_lt hB3
  clear hf3 hr2 hA2 hF2
  have a0 := c30 hA3
  have a1 := c31 hA3
  have a2 := c32 hA3
  have az := c3z hA3
  have b0 := c30 hB3
  have b1 := c31 hB3
  have b2 := c32 hB3
  have bz := c3z hB3
  have HF := Lib.hid (And.intro hF3 hr3)
  clear hA3 hB3 hF3 hr3
  by_cases k0 : k = 0
  · subst k0
    go_wp2
    refine bodyPost_ret (v := .agg #[.int .i64 2, .int .i64 x, .int .i64 y]) (by simp [results, Tryz.results157, go_sem, a0, a1, a2]) rfl ?_
    refine ⟨(2, x, y), rfl, atomB_mk (.inr rfl) hx8.1 hx8.2 hy8.1 hy8.2, ?_, ?_⟩
    · have h1 := HF.out.2
      exact (((h1.kept (fr_set _ _ _) (fun j h e => by simp at e; omega)).kept (fr_set _ _ _) (fun j h e => by simp at e; omega)).kept (fr_set _ _ _) (fun j h e => by simp at e; omega)).kept (fr_set _ _ _) (fun j h e => by simp at e; omega)
    · have h1 := HF.out.1
      exact (((h1.then (fr_set _ _ _) (fun i hi e => by simp at e; omega)).then (fr_set _ _ _) (fun i hi e => by simp at e; omega)).then (fr_set _ _ _) (fun i hi e => by simp at e; omega)).then (fr_set _ _ _) (fun i hi e => by simp at e; omega)
  · have kb : ((k : Int) == 0) = false := by simp; omega
    go_wp2
    refine bodyPost_ret (v := .agg #[.int .i64 1, .int .i64 x, .int .i64 y]) (by simp [results, Tryz.results157, go_sem, a0, a1, a2]) rfl ?_
    refine ⟨(1, x, y), rfl, atomB_mk (.inl rfl) hx8.1 hx8.2 hy8.1 hy8.2, ?_, ?_⟩
    · have h1 := HF.out.2
      exact ((h1.kept (fr_set _ _ _) (fun j h e => by simp at e; omega)).kept (fr_set _ _ _) (fun j h e => by simp at e; omega)).kept (fr_set _ _ _) (fun j h e => by simp at e; omega)
    · have h1 := HF.out.1
      exact ((h1.then (fr_set _ _ _) (fun i hi e => by simp at e; omega)).then (fr_set _ _ _) (fun i hi e => by simp at e; omega)).then (fr_set _ _ _) (fun i hi e => by simp at e; omega)
/-- An assertion that is being drawn: its rows, the reader, the box of the result, its own box. -/
structure DA (w0 w : World) (g q bR bA : Nat) (v1 v2 : Value) (l1 : List Fact) (l2 : List Atom) : Prop where
  f : FE w w0.heap.size v1 l1
  a : FE w w0.heap.size v2 l2
  boxR : w.heap[bR]? = some (.cells #[.slice none 0 0, .slice none 0 0] 41 (0, 0))
  boxA : w.heap[bA]? = some (.cells #[v1, v2] 41 (0, 0))
  rdr : Rdr w g q
  fr : Fr (fun j => j = g) w0 w
section
variable {w0 w w' : World} {g q q' bR bA : Nat} {v1 v2 v' : Value} {l1 m1 : List Fact} {l2 m2 : List Atom}
theorem DA.keep (h : DA w0 w g q bR bA v1 v2 l1 l2) (hb : Below w.heap.size w w') : DA w0 w' g q bR bA v1 v2 l1 l2 :=
  ⟨h.f.keep hb, h.a.keep hb, box_keep h.boxR hb, box_keep h.boxA hb, h.rdr.keep hb, h.fr.thenB hb⟩
theorem DA.drawn (h : DA w0 w g q bR bA v1 v2 l1 l2) (hr : Rdr w' g q') (hf : Fr (fun j => j = g) w w') (hg : g < w0.heap.size) (hR : ¬ bR = g) (hA : ¬ bA = g) : DA w0 w' g q' bR bA v1 v2 l1 l2 :=
  ⟨h.f.kept hf fun k hk e => by have := hk.1; omega, h.a.kept hf fun k hk e => by have := hk.1; omega, box_kept h.boxR hf hR, box_kept h.boxA hf hA, hr, h.fr.trans hf⟩
theorem DA.app1 (h : DA w0 w g q bR bA v1 v2 l1 l2) (hg : g < w0.heap.size) (hne : ¬ bR = bA) (hlo : w0.heap.size ≤ bA) (h1 : FE w' w0.heap.size v' m1) (hf : Fr (TF w w0.heap.size 75) w w') :
    DA w0 (w'.setCell ⟨bA, 0, none⟩ v') g q bR bA v' v2 m1 l2 := by
  have hA := box_tf h.boxA hf (by decide)
  have hS : ∀ {e : TypeId}, 41 ≠ e → ¬ TF w' w0.heap.size e bA := fun hne => tf_ne hA hne
  exact ⟨h1.setB (hS (by decide)), (h.a.tf hf (by decide)).setB (hS (by decide)), box_other (box_tf h.boxR hf (by decide)) _ _ hne, box_set0 hA _,
    ((h.rdr.kept hf fun k hk e => by have := e.1; omega).kept (fr_set _ _ _) fun k hk e => by simp at e; omega),
    (h.fr.then hf fun i hi e => by have := e.1; omega).then (fr_set _ _ _) fun i hi e => by simp at e; omega⟩
theorem DA.app2 (h : DA w0 w g q bR bA v1 v2 l1 l2) (hg : g < w0.heap.size) (hne : ¬ bR = bA) (hlo : w0.heap.size ≤ bA) (h1 : FE w' w0.heap.size v' m2) (hf : Fr (TF w w0.heap.size 96) w w') :
    DA w0 (w'.setCell ⟨bA, 1, none⟩ v') g q bR bA v1 v' l1 m2 := by
  have hA := box_tf h.boxA hf (by decide)
  have hS : ∀ {e : TypeId}, 41 ≠ e → ¬ TF w' w0.heap.size e bA := fun hne => tf_ne hA hne
  exact ⟨(h.f.tf hf (by decide)).setB (hS (by decide)), h1.setB (hS (by decide)), box_other (box_tf h.boxR hf (by decide)) _ _ hne, box_set1 hA _,
    ((h.rdr.kept hf fun k hk e => by have := e.1; omega).kept (fr_set _ _ _) fun k hk e => by simp at e; omega),
    (h.fr.then hf fun i hi e => by have := e.1; omega).then (fr_set _ _ _) fun i hi e => by simp at e; omega⟩
/-- The result is laid. -/
theorem DA.done (h : DA w0 w g q bR bA v1 v2 l1 l2) (hg : g < w0.heap.size) (hlo : w0.heap.size ≤ bR) (x y : Value) :
    (FE ((w.setCell ⟨bR, 0, none⟩ x).setCell ⟨bR, 1, none⟩ y) w0.heap.size v1 l1 ∧ FE ((w.setCell ⟨bR, 0, none⟩ x).setCell ⟨bR, 1, none⟩ y) w0.heap.size v2 l2) ∧
    Rdr ((w.setCell ⟨bR, 0, none⟩ x).setCell ⟨bR, 1, none⟩ y) g q ∧ Fr (fun j => j = g) w0 ((w.setCell ⟨bR, 0, none⟩ x).setCell ⟨bR, 1, none⟩ y) := by
  have hS : ∀ {e : TypeId}, 41 ≠ e → ¬ TF w w0.heap.size e bR := fun hne => tf_ne h.boxR hne
  have hS2 : ∀ {e : TypeId}, 41 ≠ e → ¬ TF (w.setCell ⟨bR, 0, none⟩ x) w0.heap.size e bR := fun hne => tf_ne (box_set0 h.boxR x) hne
  exact ⟨⟨(h.f.setB (hS (by decide))).setB (hS2 (by decide)), (h.a.setB (hS (by decide))).setB (hS2 (by decide))⟩,
    (h.rdr.kept (fr_set _ _ _) (fun k hk e => by simp at e; omega)).kept (fr_set _ _ _) (fun k hk e => by simp at e; omega),
    (h.fr.then (fr_set _ _ _) (fun i hi e => by simp at e; omega)).then (fr_set _ _ _) (fun i hi e => by simp at e; omega)⟩
end
end Go.Proofs.YtgfnoinkajfndaaGreat
