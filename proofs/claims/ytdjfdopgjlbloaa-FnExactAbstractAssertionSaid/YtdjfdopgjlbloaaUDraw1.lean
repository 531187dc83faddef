/- Draw1: texts Rd, Dr1, Dr2, FrameB in one. -/
import Derived.Test.YtdjfdopgjlbloaaUBase1
import Derived.Laws.BitsAllLaws
import Derived.Test.YtdjfdopgjlbloaaUBase3
import Derived.Deep.RegionHeld3
/- Walks: the reader of random bytes of the reference. -/
namespace Go.Proofs.Ytdjfdopgjlbloaa
open Go.RowKit

/-- Block `g` is a reader that has made at most `q` picks; its bytes lie below it. -/
def Rdr (w : World) (g q : Nat) : Prop :=
  ∃ (a : Option Addr) (n cap : Nat) (c : Nat → Int) (p : Nat), RSl w 1 (.slice a n cap) n (fun i => .int .u8 (c i)) ∧ (∀ i, 0 ≤ c i ∧ c i ≤ 255) ∧ n ≤ 2000 ∧ p ≤ q ∧
    (0 < n → ∀ k, (Value.slice a n cap).ownBlock = some k → k < g) ∧ w.heap[g]? = some (.cells #[.slice a n cap, .int .i64 p] 97 (0, 0))

theorem Rdr.lt {w : World} {g q : Nat} (h : Rdr w g q) : g < w.heap.size := by
  obtain ⟨_, _, _, _, _, _, _, _, _, _, hb⟩ := h
  exact (Array.getElem?_eq_some_iff.1 hb).1

theorem Rdr.kept {w w' : World} {g q : Nat} {S : Nat → Prop} (h : Rdr w g q) (hf : Fr S w w') (hs : ∀ k, k ≤ g → S k → False) : Rdr w' g q := by
  obtain ⟨a, n, cap, c, p, h1, h2, h3, h4, h5, hb⟩ := h
  have hg := (Array.getElem?_eq_some_iff.1 hb).1
  refine ⟨a, n, cap, c, p, ?_, h2, h3, h4, h5, ?_⟩
  · rcases h1 with h | ⟨b, o, cap', hv, q1, q2, q3⟩
    · exact .inl h
    · refine .inr ⟨b, o, cap', hv, q1, q2, fun i hi => hf.cell (fun hS => ?_) (q3 i hi)⟩
      have := h5 (by omega) b (by rw [hv]; rfl)
      exact hs b (by omega) hS
  · rw [hf.block g hg (fun hS => hs g (Nat.le_refl _) hS)]; exact hb

theorem Rdr.keep {w w' : World} {g q : Nat} (h : Rdr w g q) (hf : Below w.heap.size w w') : Rdr w' g q := h.kept (Below.fr hf) fun _ _ h => h
theorem Rdr.more {w : World} {g q q' : Nat} (h : Rdr w g q) (hq : q ≤ q') : Rdr w g q' := by
  obtain ⟨a, n, cap, c, p, h1, h2, h3, h4, h5, hb⟩ := h
  exact ⟨a, n, cap, c, p, h1, h2, h3, Nat.le_trans h4 hq, h5, hb⟩

end Go.Proofs.Ytdjfdopgjlbloaa
/- Walks: drawing states: opening the reader, blank states, places. -/
namespace Go.Proofs.Ytdjfdopgjlbloaa
open Go.RowKit

/-- `v1`, `v2` are two apart owned slices of integers, from block `B` on. -/
structure OwnSt (w : World) (B : Nat) (v1 v2 : Value) (l1 l2 : List Int) : Prop where
  one : w.ownsRow B 3 1 v1 l1.length (ints l1)
  two : w.ownsRow B 3 1 v2 l2.length (ints l2)
  apart : ∀ k, some k = v1.ownBlock → ¬ some k = v2.ownBlock

theorem OwnSt.keep {w w' : World} {B : Nat} {v1 v2 : Value} {l1 l2 : List Int} (h : OwnSt w B v1 v2 l1 l2) (hb : Below w.heap.size w w') : OwnSt w' B v1 v2 l1 l2 :=
  ⟨own_keep h.one hb, own_keep h.two hb, h.apart⟩
theorem OwnSt.kept {w w' : World} {B : Nat} {v1 v2 : Value} {l1 l2 : List Int} {S : Nat → Prop} (h : OwnSt w B v1 v2 l1 l2) (hf : Fr S w w') (hs : ∀ k, B ≤ k → k < w.heap.size → ¬ S k) : OwnSt w' B v1 v2 l1 l2 :=
  ⟨own_kept h.one hf (fun k hk => hs k (own_lt h.one hk).1 (own_lt h.one hk).2), own_kept h.two hf (fun k hk => hs k (own_lt h.two hk).1 (own_lt h.two hk).2), h.apart⟩
theorem OwnSt.mono {w : World} {B B' : Nat} {v1 v2 : Value} {l1 l2 : List Int} (h : OwnSt w B v1 v2 l1 l2) (hB : B' ≤ B) : OwnSt w B' v1 v2 l1 l2 :=
  ⟨own_mono h.one hB, own_mono h.two hB, h.apart⟩

/-- A slice of bytes that came in. -/
def RBytes (w : World) (v : Value) (n : Nat) : Prop := ∃ c : Nat → Int, RSl w 1 v n (fun i => .int .u8 (c i)) ∧ ∀ i, 0 ≤ c i ∧ c i ≤ 255

/-! ### A box of two cells -/
section
variable {w w' : World} {b : Nat} {x y z : Value} {T : TypeId}
theorem box0 (h : w.heap[b]? = some (.cells #[x, y] T (0, 0))) : w.cell? ⟨b, 0, none⟩ = some x := cell_of_row w b 0 _ _ _ h
theorem box1 (h : w.heap[b]? = some (.cells #[x, y] T (0, 0))) : w.cell? ⟨b, 1, none⟩ = some y := cell_of_row w b 1 _ _ _ h
theorem boxz (h : w.heap[b]? = some (.cells #[x, y] T (0, 0))) (i : Nat) : w.frozen? ⟨b, i, none⟩ = false := frozen_of_row w b i _ _ h
theorem box_set0 (h : w.heap[b]? = some (.cells #[x, y] T (0, 0))) (z : Value) : (w.setCell ⟨b, 0, none⟩ z).heap[b]? = some (.cells #[z, y] T (0, 0)) := by
  rw [heap_setCell_same w b 0 _ T z h]; rfl
theorem box_set1 (h : w.heap[b]? = some (.cells #[x, y] T (0, 0))) (z : Value) : (w.setCell ⟨b, 1, none⟩ z).heap[b]? = some (.cells #[x, z] T (0, 0)) := by
  rw [heap_setCell_same w b 1 _ T z h]; rfl
theorem box_lt {o : Obj} (h : w.heap[b]? = some o) : b < w.heap.size := (Array.getElem?_eq_some_iff.1 h).1
theorem box_kept {o : Obj} {S : Nat → Prop} (h : w.heap[b]? = some o) (hf : Fr S w w') (hs : ¬ S b) : w'.heap[b]? = some o := by
  rw [hf.block b (box_lt h) hs]; exact h
theorem box_keep {o : Obj} (h : w.heap[b]? = some o) (hf : Below w.heap.size w w') : w'.heap[b]? = some o := by
  rw [hf.block b (box_lt h)]; exact h
theorem box_other {o : Obj} (h : w.heap[b]? = some o) (p : Addr) (v : Value) (hp : ¬ b = p.block) : (w.setCell p v).heap[b]? = some o := by
  rw [Below.heap_setCell _ _ _ _ hp]; exact h
theorem fr_set (w : World) (p : Addr) (v : Value) : Fr (fun k => k = p.block) w (w.setCell p v) :=
  ⟨rfl, rfl, rfl, by simp [World.setCell], fun k _ hk => Below.heap_setCell _ _ _ _ hk⟩
end

/-- `k` times `x`. -/
def reps (x : Int) (k : Nat) : List Int := List.replicate k x
end Go.Proofs.Ytdjfdopgjlbloaa
/- Walks: drawing states. -/
namespace Go.Proofs.Ytdjfdopgjlbloaa
open Go.RowKit

theorem own_set {w : World} {B g cap : Nat} {l : List Int} (h : w.ownsRow B 3 1 (.slice (some ⟨g, 0, none⟩) l.length cap) l.length (ints l)) (i : Nat) (x : Int) :
    (w.setCell ⟨g, i, none⟩ (.int .i64 x)).ownsRow B 3 1 (.slice (some ⟨g, 0, none⟩) l.length cap) (l.set i x).length (ints (l.set i x)) := by
  have := (h.stored i (.int .i64 x)).1
  rw [List.length_set]
  have e : (ints l).set i (.int .i64 x) = ints (l.set i x) := by simp [ints, List.map_set]
  rwa [e] at this

theorem OwnSt.set2 {w : World} {B g cap : Nat} {v1 : Value} {l1 l2 : List Int} (h : OwnSt w B v1 (.slice (some ⟨g, 0, none⟩) l2.length cap) l1 l2) (i : Nat) (x : Int) :
    OwnSt (w.setCell ⟨g, i, none⟩ (.int .i64 x)) B v1 (.slice (some ⟨g, 0, none⟩) l2.length cap) l1 (l2.set i x) :=
  ⟨own_kept h.one (fr_set w _ _) (fun k hk e => h.apart k hk (by rw [e]; rfl)), own_set h.two i x, fun k h1 h2 => h.apart k h1 (by simpa [Value.ownBlock] using h2)⟩

theorem own_cell {w : World} {B g cap : Nat} {l : List Int} (h : w.ownsRow B 3 1 (.slice (some ⟨g, 0, none⟩) l.length cap) l.length (ints l)) (i : Nat) (hi : i < l.length) :
    w.cell? ⟨g, i, none⟩ = some (.int .i64 (gi l i)) ∧ w.frozen? ⟨g, i, none⟩ = false := by
  refine ⟨?_, h.frozenAt i⟩
  rw [h.cellAt i (by omega)]
  simp [ints, hi, gi]

theorem Fr.then {S S' : Nat → Prop} {a b c : World} (h : Fr S a b) (k : Fr S' b c) (hs : ∀ i, i < a.heap.size → S' i → S i) : Fr S a c :=
  ⟨k.os.trans h.os, k.tape.trans h.tape, k.output.trans h.output, Nat.le_trans h.size k.size,
    fun i hi hn => (k.block i (Nat.lt_of_lt_of_le hi h.size) (fun hS => hn (hs i hi hS))).trans (h.block i hi hn)⟩
theorem Fr.thenB {S : Nat → Prop} {a b c : World} (h : Fr S a b) (k : Below b.heap.size b c) : Fr S a c := h.then (Below.fr k) fun _ _ h => h.elim

/-- A state that is being drawn: its slices, the reader, the box of the result, its own box; what was there when the call began. -/
structure DrSt (w0 w : World) (g q B bA bB : Nat) (v1 v2 : Value) (l1 l2 : List Int) : Prop where
  own : OwnSt w B v1 v2 l1 l2
  rdr : Rdr w g q
  boxA : w.heap[bA]? = some (.cells #[.slice none 0 0, .slice none 0 0] 9999 (0, 0))
  boxB : w.heap[bB]? = some (.cells #[v1, v2] 9999 (0, 0))
  fr : Fr (fun j => j = g) w0 w

section
variable {w0 w w' : World} {g q q' B bA bB : Nat} {v1 v2 : Value} {l1 l2 : List Int}
theorem DrSt.keep (h : DrSt w0 w g q B bA bB v1 v2 l1 l2) (hb : Below w.heap.size w w') : DrSt w0 w' g q B bA bB v1 v2 l1 l2 :=
  ⟨h.own.keep hb, h.rdr.keep hb, box_keep h.boxA hb, box_keep h.boxB hb, h.fr.thenB hb⟩
theorem DrSt.set2 {g2 c2 : Nat} (h : DrSt w0 w g q B bA bB v1 (.slice (some ⟨g2, 0, none⟩) l2.length c2) l1 l2) (i : Nat) (x : Int) (h0 : w0.heap.size ≤ g2) (hA : ¬ bA = g2) (hB : ¬ bB = g2) (hg : g < g2) :
    DrSt w0 (w.setCell ⟨g2, i, none⟩ (.int .i64 x)) g q B bA bB v1 (.slice (some ⟨g2, 0, none⟩) l2.length c2) l1 (l2.set i x) :=
  ⟨h.own.set2 i x, h.rdr.kept (fr_set _ _ _) (fun k hk e => by simp at e; omega), box_other h.boxA _ _ hA, box_other h.boxB _ _ hB, h.fr.then (fr_set _ _ _) (fun k hk e => by simp at e; omega)⟩
end

end Go.Proofs.Ytdjfdopgjlbloaa
/- Bytes that come in. -/
namespace Go.Proofs.Ytdjfdopgjlbloaa
open Go.ChangeShapes Go.WideShapes Go.ChangeAt Go.RowKit Go.Joins

end Go.Proofs.Ytdjfdopgjlbloaa
