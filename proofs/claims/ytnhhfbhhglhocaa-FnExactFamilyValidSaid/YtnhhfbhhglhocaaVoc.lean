/- Vocabulary of the proofs of this seat: slices that can be read in a world, frames between worlds. No program is in sight. -/
import Derived.WalkKit
import Derived.Lib.Hide
import Derived.Deep.QuietTactic
import Derived.BigQuiet
namespace Go.Proofs.Ytnhhfbhhglhocaa
open Go.RowKit

/-- `v` is a slice of `n` elements of `sz` cells each; the cells from its start on hold `c 0, c 1, ..`. -/
def RSl (w : World) (sz : Nat) (v : Value) (n : Nat) (c : Nat → Value) : Prop :=
  (∃ a cap, v = .slice a 0 cap ∧ n = 0 ∧ cap ≤ maxLen ∧ (a = none → cap = 0)) ∨
  ∃ b o cap, v = .slice (some ⟨b, o, none⟩) n cap ∧ n ≤ cap ∧ cap ≤ maxLen ∧ ∀ i, i < n * sz → w.cell? ⟨b, o + i, none⟩ = some (c i)

/-- The i-th integer of a list. -/
def gi (l : List Int) (i : Nat) : Int := l.getD i 0
theorem gi_of {l : List Int} {i : Nat} (h : i < l.length) : gi l i = l[i] := by simp [gi, h]
theorem gi_mem {l : List Int} {i : Nat} (h : i < l.length) : gi l i ∈ l := by rw [gi_of h]; exact List.getElem_mem h

/-- `v` reads as the list `l` of integers. -/
def RInts (w : World) (v : Value) (l : List Int) : Prop := RSl w 1 v l.length (fun i => .int .i64 (gi l i))

/-- All integers of a list fit an int. -/
def Fits (l : List Int) : Prop := ∀ n ∈ l, -9223372036854775808 ≤ n ∧ n ≤ 9223372036854775807

/-- The blocks of `w` that are not in `S` are the same in `w'`. -/
structure Fr (S : Nat → Prop) (w w' : World) : Prop where
  os : w'.os = w.os
  tape : w'.tape = w.tape
  output : w'.output = w.output
  size : w.heap.size ≤ w'.heap.size
  block : ∀ k, k < w.heap.size → ¬ S k → w'.heap[k]? = w.heap[k]?

theorem Fr.refl (S : Nat → Prop) (w : World) : Fr S w w := ⟨rfl, rfl, rfl, Nat.le_refl _, fun _ _ _ => rfl⟩

theorem Fr.trans {S : Nat → Prop} {a b c : World} (h : Fr S a b) (k : Fr S b c) : Fr S a c :=
  ⟨k.os.trans h.os, k.tape.trans h.tape, k.output.trans h.output, Nat.le_trans h.size k.size,
    fun i hi hs => (k.block i (Nat.lt_of_lt_of_le hi h.size) hs).trans (h.block i hi hs)⟩

theorem Fr.mono {S S' : Nat → Prop} {a b : World} (h : Fr S a b) (hs : ∀ k, k < a.heap.size → S k → S' k) : Fr S' a b :=
  ⟨h.os, h.tape, h.output, h.size, fun i hi hn => h.block i hi fun hk => hn (hs i hi hk)⟩

theorem Below.fr {w w' : World} (h : Below w.heap.size w w') : Fr (fun _ => False) w w' :=
  ⟨h.os, h.tape, h.output, h.size, fun k hk _ => h.block k hk⟩

theorem Fr.below {w w' : World} {S : Nat → Prop} {B : Nat} (h : Fr S w w') (hB : B ≤ w.heap.size) (hs : ∀ k, k < B → ¬ S k) : Below B w w' :=
  ⟨h.os, h.tape, h.output, h.size, fun k hk => h.block k (Nat.lt_of_lt_of_le hk hB) (hs k hk)⟩

theorem Below.chg {w w' : World} {B : Nat} (h : Below B w w') : Fr (fun k => B ≤ k) w w' :=
  ⟨h.os, h.tape, h.output, h.size, fun k _ hn => h.block k (by omega)⟩

theorem grown_fr {w w' : World} {r : Option Nat} (h : w.grownBy w' r) : Fr (fun k => some k = r) w w' :=
  ⟨h.os, h.tape, h.output, h.size, fun k hk hn => h.block k hk hn⟩

theorem Fr.cell {S : Nat → Prop} {w w' : World} (h : Fr S w w') {p : Addr} {v : Value} (hp : ¬ S p.block) (hc : w.cell? p = some v) : w'.cell? p = some v :=
  (World.cell?_of_block (w := w) (h.block p.block (World.block_lt_of_cell? w p hc) hp)).trans hc

theorem RSl.kept {S : Nat → Prop} {w w' : World} {sz n : Nat} {v : Value} {c : Nat → Value} (h : RSl w sz v n c) (hf : Fr S w w')
    (hs : ∀ k, v.ownBlock = some k → ¬ S k) : RSl w' sz v n c := by
  rcases h with h | ⟨b, o, cap, rfl, h1, h2, h3⟩
  · exact .inl h
  · exact .inr ⟨b, o, cap, rfl, h1, h2, fun i hi => hf.cell (hs b rfl) (h3 i hi)⟩

theorem RInts.kept {S : Nat → Prop} {w w' : World} {v : Value} {l : List Int} (h : RInts w v l) (hf : Fr S w w')
    (hs : ∀ k, v.ownBlock = some k → ¬ S k) : RInts w' v l := RSl.kept h hf hs

theorem RSl.keep {w w' : World} {sz n : Nat} {v : Value} {c : Nat → Value} (h : RSl w sz v n c) (hf : Below w.heap.size w w') : RSl w' sz v n c :=
  h.kept (Below.fr hf) fun _ _ h => h

theorem RInts.keep {w w' : World} {v : Value} {l : List Int} (h : RInts w v l) (hf : Below w.heap.size w w') : RInts w' v l := RSl.keep h hf

theorem below_alloc (w : World) (o : Obj) : Below w.heap.size w (w.alloc o) := (Below.refl _ _).alloc (Nat.le_refl _) o
theorem below_drew (w : World) : Below w.heap.size w w.drew := (Below.refl _ _).drew

/-- What was there reads as it did, as two rules for the walk. -/
theorem bcell {W w1 : World} (hb : Below W.heap.size W w1) : (∀ b o, b < W.heap.size → w1.cell? ⟨b, o, none⟩ = W.cell? ⟨b, o, none⟩) ∧ (∀ b o, b < W.heap.size → w1.frozen? ⟨b, o, none⟩ = W.frozen? ⟨b, o, none⟩) :=
  ⟨fun b o h => hb.cell (p := ⟨b, o, none⟩) h, fun b o h => hb.frozen (p := ⟨b, o, none⟩) h⟩

/-- Frames, one behind the other. -/
theorem bt {a b c : World} (h : Below a.heap.size a b) (k : Below b.heap.size b c) : Below a.heap.size a c := h.trans (k.mono h.size)

theorem RInts.alloc {w : World} {v : Value} {l : List Int} (h : RInts w v l) (o : Obj) : RInts (w.alloc o) v l := h.keep (below_alloc w o)

/-- An owned row can be read. -/
theorem own_rsl {w : World} {base : Nat} {e : TypeId} {sz n : Nat} {v : Value} {xs : List Value} (h : w.ownsRow base e sz v n xs) :
    RSl w sz v n (fun i => xs.getD i undef) := by
  obtain ⟨hl, h⟩ := h
  rcases h with ⟨rfl, rfl⟩ | ⟨g, cap, cur, rfl, hb, hg, hn, hc, hs, ht⟩
  · exact .inl ⟨none, 0, rfl, rfl, Nat.zero_le _, fun _ => rfl⟩
  · refine .inr ⟨g, 0, cap, rfl, hn, hc, fun i hi => ?_⟩
    rw [Nat.zero_add, cell_of_row w g i cur e (0, 0) hg, ← ht]
    have h1 : cur.toList[i]? = some (cur.toList[i]'(by rw [Array.length_toList, hs]; exact Nat.lt_of_lt_of_le hi (Nat.mul_le_mul_right _ hn))) := List.getElem?_eq_getElem _
    simp only [List.getD_eq_getElem?_getD, List.getElem?_take, hi, if_true]
    rw [h1]
    simp

theorem RSl.congr {w : World} {sz n : Nat} {v : Value} {c c' : Nat → Value} (h : RSl w sz v n c) (hc : ∀ i, i < n * sz → c i = c' i) : RSl w sz v n c' := by
  rcases h with h | ⟨b, o, cap, rfl, h1, h2, h3⟩
  · exact .inl h
  · exact .inr ⟨b, o, cap, rfl, h1, h2, fun i hi => (h3 i hi).trans (by rw [hc i hi])⟩

abbrev ints (l : List Int) : List Value := l.map (Value.int .i64)

theorem own_ints {w : World} {base : Nat} {e : TypeId} {v : Value} {n : Nat} {l : List Int} (h : w.ownsRow base e 1 v n (ints l)) : RInts w v l ∧ n = l.length := by
  have hn : n = l.length := by have := h.1; simpa using this.symm
  subst hn
  refine ⟨(own_rsl h).congr fun i hi => ?_, rfl⟩
  have hi' : i < l.length := by omega
  simp [ints, hi', gi]

theorem RInts.form {w : World} {v : Value} {l : List Int} (h : RInts w v l) : ∃ a cap, v = .slice a l.length cap := by
  rcases h with ⟨a, cap, rfl, h, _⟩ | ⟨b, o, cap, rfl, _⟩
  · exact ⟨a, cap, by rw [h]⟩
  · exact ⟨_, _, rfl⟩

theorem RInts.len {w : World} {v : Value} {l : List Int} (h : RInts w v l) : l.length ≤ maxLen := by
  rcases h with ⟨a, cap, rfl, h, _⟩ | ⟨b, o, cap, rfl, h1, h2, _⟩
  · rw [h]; exact Nat.zero_le _
  · omega

theorem RInts.nil (w : World) : RInts w (.slice none 0 0) [] := .inl ⟨none, 0, rfl, rfl, Nat.zero_le _, fun _ => rfl⟩

theorem drewN_eq (w : World) (n : Nat) : (w.drewN n).heap = w.heap := rfl
theorem below_drewN (w : World) (n : Nat) : Below w.heap.size w (w.drewN n) := ⟨rfl, rfl, rfl, Nat.le_refl _, fun _ _ => rfl⟩

end Go.Proofs.Ytnhhfbhhglhocaa
