/- Base1: texts Voc, Pure, Laws, W1, W2, Quiet, W3, Reach, W4, W5, W6 in one. -/
import Derived.WalkKit
import Derived.Lib.Hide
import Derived.Deep.QuietTactic
import Derived.BigQuiet
import Derived.Test.YtdjfdopgjlbloaaGreatDoorRows
import Derived.WalkSpells
import Derived.WalkLawsBesides
import Derived.Deep.AppendLies
import Derived.Deep.LoopGhost
/- Vocabulary of the proofs of this seat: slices that can be read in a world, frames between worlds. No program is in sight. -/
namespace Go.Proofs.YtdjfdopgjlbloaaGreatDoor
open Go.RowKit

/-- `v` is a slice of `n` elements of `sz` cells each; the cells from its start on hold `c 0, c 1, ..`. -/
def RSl (w : World) (sz : Nat) (v : Value) (n : Nat) (c : Nat → Value) : Prop :=
  (∃ a cap, v = .slice a 0 cap ∧ n = 0 ∧ cap ≤ maxLen ∧ (a = none → cap = 0)) ∨
  ∃ b o cap, v = .slice (some ⟨b, o, none⟩) n cap ∧ n ≤ cap ∧ cap ≤ maxLen ∧ ∀ i, i < n * sz → w.cell? ⟨b, o + i, none⟩ = some (c i)

/-- The i-th integer of a list. -/
def gi (l : List Int) (i : Nat) : Int := l.getD i 0
theorem gi_of {l : List Int} {i : Nat} (h : i < l.length) : gi l i = l[i] := by simp [gi, h]
theorem gi_mem {l : List Int} {i : Nat} (h : i < l.length) : gi l i ∈ l := by rw [gi_of h]; exact List.getElem_mem h

/-- `v` reads as the list `l` of integers. -/
def RInts (w : World) (v : Value) (l : List Int) : Prop := RSl w 1 v l.length (fun i => .int .i64 (gi l i))

/-- The blocks of `w` that are not in `S` are the same in `w'`. -/
structure Fr (S : Nat → Prop) (w w' : World) : Prop where
  os : w'.os = w.os
  tape : w'.tape = w.tape
  output : w'.output = w.output
  size : w.heap.size ≤ w'.heap.size
  block : ∀ k, k < w.heap.size → ¬ S k → w'.heap[k]? = w.heap[k]?

theorem Fr.refl (S : Nat → Prop) (w : World) : Fr S w w := ⟨rfl, rfl, rfl, Nat.le_refl _, fun _ _ _ => rfl⟩

theorem Fr.trans {S : Nat → Prop} {a b c : World} (h : Fr S a b) (k : Fr S b c) : Fr S a c :=
  ⟨k.os.trans h.os, k.tape.trans h.tape, k.output.trans h.output, Nat.le_trans h.size k.size,
    fun i hi hs => (k.block i (Nat.lt_of_lt_of_le hi h.size) hs).trans (h.block i hi hs)⟩

theorem Fr.mono {S S' : Nat → Prop} {a b : World} (h : Fr S a b) (hs : ∀ k, k < a.heap.size → S k → S' k) : Fr S' a b :=
  ⟨h.os, h.tape, h.output, h.size, fun i hi hn => h.block i hi fun hk => hn (hs i hi hk)⟩

theorem Below.fr {w w' : World} (h : Below w.heap.size w w') : Fr (fun _ => False) w w' :=
  ⟨h.os, h.tape, h.output, h.size, fun k hk _ => h.block k hk⟩

theorem Fr.below {w w' : World} {S : Nat → Prop} {B : Nat} (h : Fr S w w') (hB : B ≤ w.heap.size) (hs : ∀ k, k < B → ¬ S k) : Below B w w' :=
  ⟨h.os, h.tape, h.output, h.size, fun k hk => h.block k (Nat.lt_of_lt_of_le hk hB) (hs k hk)⟩

theorem Below.chg {w w' : World} {B : Nat} (h : Below B w w') : Fr (fun k => B ≤ k) w w' :=
  ⟨h.os, h.tape, h.output, h.size, fun k _ hn => h.block k (by omega)⟩

theorem grown_fr {w w' : World} {r : Option Nat} (h : w.grownBy w' r) : Fr (fun k => some k = r) w w' :=
  ⟨h.os, h.tape, h.output, h.size, fun k hk hn => h.block k hk hn⟩

theorem Fr.cell {S : Nat → Prop} {w w' : World} (h : Fr S w w') {p : Addr} {v : Value} (hp : ¬ S p.block) (hc : w.cell? p = some v) : w'.cell? p = some v :=
  (World.cell?_of_block (w := w) (h.block p.block (World.block_lt_of_cell? w p hc) hp)).trans hc

theorem RSl.kept {S : Nat → Prop} {w w' : World} {sz n : Nat} {v : Value} {c : Nat → Value} (h : RSl w sz v n c) (hf : Fr S w w')
    (hs : ∀ k, v.ownBlock = some k → ¬ S k) : RSl w' sz v n c := by
  rcases h with h | ⟨b, o, cap, rfl, h1, h2, h3⟩
  · exact .inl h
  · exact .inr ⟨b, o, cap, rfl, h1, h2, fun i hi => hf.cell (hs b rfl) (h3 i hi)⟩

theorem RInts.kept {S : Nat → Prop} {w w' : World} {v : Value} {l : List Int} (h : RInts w v l) (hf : Fr S w w')
    (hs : ∀ k, v.ownBlock = some k → ¬ S k) : RInts w' v l := RSl.kept h hf hs

theorem RSl.keep {w w' : World} {sz n : Nat} {v : Value} {c : Nat → Value} (h : RSl w sz v n c) (hf : Below w.heap.size w w') : RSl w' sz v n c :=
  h.kept (Below.fr hf) fun _ _ h => h

theorem RInts.keep {w w' : World} {v : Value} {l : List Int} (h : RInts w v l) (hf : Below w.heap.size w w') : RInts w' v l := RSl.keep h hf

theorem below_alloc (w : World) (o : Obj) : Below w.heap.size w (w.alloc o) := (Below.refl _ _).alloc (Nat.le_refl _) o
theorem below_drew (w : World) : Below w.heap.size w w.drew := (Below.refl _ _).drew

/-- Frames, one behind the other. -/
theorem bt {a b c : World} (h : Below a.heap.size a b) (k : Below b.heap.size b c) : Below a.heap.size a c := h.trans (k.mono h.size)

theorem RInts.alloc {w : World} {v : Value} {l : List Int} (h : RInts w v l) (o : Obj) : RInts (w.alloc o) v l := h.keep (below_alloc w o)

/-- An owned row can be read. -/
theorem own_rsl {w : World} {base : Nat} {e : TypeId} {sz n : Nat} {v : Value} {xs : List Value} (h : w.ownsRow base e sz v n xs) :
    RSl w sz v n (fun i => xs.getD i undef) := by
  obtain ⟨hl, h⟩ := h
  rcases h with ⟨rfl, rfl⟩ | ⟨g, cap, cur, rfl, hb, hg, hn, hc, hs, ht⟩
  · exact .inl ⟨none, 0, rfl, rfl, Nat.zero_le _, fun _ => rfl⟩
  · refine .inr ⟨g, 0, cap, rfl, hn, hc, fun i hi => ?_⟩
    rw [Nat.zero_add, cell_of_row w g i cur e (0, 0) hg, ← ht]
    have h1 : cur.toList[i]? = some (cur.toList[i]'(by rw [Array.length_toList, hs]; exact Nat.lt_of_lt_of_le hi (Nat.mul_le_mul_right _ hn))) := List.getElem?_eq_getElem _
    simp only [List.getD_eq_getElem?_getD, List.getElem?_take, hi, if_true]
    rw [h1]
    simp

theorem RSl.congr {w : World} {sz n : Nat} {v : Value} {c c' : Nat → Value} (h : RSl w sz v n c) (hc : ∀ i, i < n * sz → c i = c' i) : RSl w sz v n c' := by
  rcases h with h | ⟨b, o, cap, rfl, h1, h2, h3⟩
  · exact .inl h
  · exact .inr ⟨b, o, cap, rfl, h1, h2, fun i hi => (h3 i hi).trans (by rw [hc i hi])⟩

abbrev ints (l : List Int) : List Value := l.map (Value.int .i64)

theorem own_ints {w : World} {base : Nat} {e : TypeId} {v : Value} {n : Nat} {l : List Int} (h : w.ownsRow base e 1 v n (ints l)) : RInts w v l ∧ n = l.length := by
  have hn : n = l.length := by have := h.1; simpa using this.symm
  subst hn
  refine ⟨(own_rsl h).congr fun i hi => ?_, rfl⟩
  have hi' : i < l.length := by omega
  simp [ints, hi', gi]

theorem RInts.form {w : World} {v : Value} {l : List Int} (h : RInts w v l) : ∃ a cap, v = .slice a l.length cap := by
  rcases h with ⟨a, cap, rfl, h, _⟩ | ⟨b, o, cap, rfl, _⟩
  · exact ⟨a, cap, by rw [h]⟩
  · exact ⟨_, _, rfl⟩

theorem RInts.len {w : World} {v : Value} {l : List Int} (h : RInts w v l) : l.length ≤ maxLen := by
  rcases h with ⟨a, cap, rfl, h, _⟩ | ⟨b, o, cap, rfl, h1, h2, _⟩
  · rw [h]; exact Nat.zero_le _
  · omega

theorem RInts.nil (w : World) : RInts w (.slice none 0 0) [] := .inl ⟨none, 0, rfl, rfl, Nat.zero_le _, fun _ => rfl⟩

end Go.Proofs.YtdjfdopgjlbloaaGreatDoor
/- The Lean functions that the small Go functions compute. -/
namespace Go.Proofs.YtdjfdopgjlbloaaGreatDoor

def isTermB (n : Int) : Bool := decide (0 ≤ n) && decide (n ≤ 8)
theorem isTermB_iff {n : Int} : isTermB n = true ↔ 0 ≤ n ∧ n ≤ 8 := by simp [isTermB]
end Go.Proofs.YtdjfdopgjlbloaaGreatDoor
/- Laws for the walks of this seat: append of one integer to an owned slice; sets of small numbers as 16-bit words; selections of numbers. -/
namespace Go.Proofs.YtdjfdopgjlbloaaGreatDoor
open Go.RowKit

theorem info_int : (Tryz.prog.info? 3).map (fun i => (i.zero, i.size, i.bytes)) = some (some (.int .i64 0), 1, 8) := by kernel_rfl

/-- `append(s, n)` where `s` is the call's own. -/
theorem app_int {ops : Array Oper} {rest : List Oper} {o : Oper} {a : Act} {Q : Exit → Act → World → Prop} (w : World) (hgd : o.guard = none) (s x : Operand)
    (ho : o.op = .call { callee := .builtin .append, args := #[s, x], argTypes := #[23, 23] })
    (B : Nat) (v : Value) (l : List Int) (hs : a.eval s = v) (hown : w.ownsRow B 3 1 v l.length (ints l))
    (ad : Addr) (n : Int) (hx : a.eval x = .slice (some ad) 1 1) (hnew : w.cell? ad = some (.int .i64 n)) (hlen : l.length < 1099511627776) (hB : B ≤ w.heap.size)
    (h : ∀ v' w', w'.ownsRow B 3 1 v' (l ++ [n]).length (ints (l ++ [n])) → Fr (fun k => some k = v.ownBlock) w w' → wpList Tryz.prog ops Q rest (a.put o.dst v') w') :
    wpList Tryz.prog ops Q (o :: rest) a w := by
  obtain ⟨i0, hi, hz0, hz1, hz2⟩ := info_parts info_int
  refine wpList_append_own w hgd s x 23 ho B 3 i0 (.int .i64 0) 1 8 Tryz.underlying23 hi hz0 hz1 hz2 rfl (by decide) v l.length (ints l) hs hown ad 1 1 [.int .i64 n] hx rfl ?_ ?_ ?_ ?_ hB ?_
  · intro j u hj
    cases j with
    | zero => simp at hj; subst hj; simpa [Addr.add] using hnew
    | succ j => simp at hj
  · intro u hu; simp at hu; subst hu; rfl
  · unfold maxLen; omega
  · omega
  · intro v' w' h1 h2 _
    refine h v' w' ?_ (grown_fr h2)
    simpa [ints] using h1

/-- The same; and where the new slice lies. -/
theorem app_int2 {ops : Array Oper} {rest : List Oper} {o : Oper} {a : Act} {Q : Exit → Act → World → Prop} (w : World) (hgd : o.guard = none) (s x : Operand)
    (ho : o.op = .call { callee := .builtin .append, args := #[s, x], argTypes := #[23, 23] })
    (B : Nat) (v : Value) (l : List Int) (hs : a.eval s = v) (hown : w.ownsRow B 3 1 v l.length (ints l))
    (ad : Addr) (n : Int) (hx : a.eval x = .slice (some ad) 1 1) (hnew : w.cell? ad = some (.int .i64 n)) (hlen : l.length < 1099511627776) (hB : B ≤ w.heap.size)
    (h : ∀ v' w', w'.ownsRow B 3 1 v' (l ++ [n]).length (ints (l ++ [n])) → Fr (fun k => some k = v.ownBlock) w w' → (∀ k, some k = v'.ownBlock → some k = v.ownBlock ∨ w.heap.size ≤ k) → wpList Tryz.prog ops Q rest (a.put o.dst v') w') :
    wpList Tryz.prog ops Q (o :: rest) a w := by
  obtain ⟨i0, hi, hz0, hz1, hz2⟩ := info_parts info_int
  refine wpList_append_lies w hgd s x 23 ho B 3 i0 (.int .i64 0) 1 8 Tryz.underlying23 hi hz0 hz1 hz2 rfl (by decide) v l.length (ints l) hs hown ad 1 1 [.int .i64 n] hx rfl ?_ ?_ (by decide) ?_ ?_ hB w.heap.size rfl ?_
  · intro j u hj
    cases j with
    | zero => simp at hj; subst hj; simpa [Addr.add] using hnew
    | succ j => simp at hj
  · intro u hu; simp at hu; subst hu; rfl
  · unfold maxLen; omega
  · omega
  · intro g cap w' h1 h2 h3 _
    refine h _ w' ?_ (grown_fr h2) ?_
    · simpa [ints] using h1
    · intro k hk
      simp [Value.ownBlock] at hk
      subst hk
      rcases h3 with h3 | h3
      · exact .inl h3.symm
      · exact .inr (by omega)

theorem own_lt {w : World} {B e sz n : Nat} {v : Value} {xs : List Value} (h : w.ownsRow B e sz v n xs) {k : Nat} (hk : some k = v.ownBlock) : B ≤ k ∧ k < w.heap.size := h.lt k hk.symm

theorem own_kept {w w' : World} {B e sz n : Nat} {v : Value} {xs : List Value} {S : Nat → Prop} (h : w.ownsRow B e sz v n xs) (hf : Fr S w w') (hs : ∀ k, some k = v.ownBlock → ¬ S k) : w'.ownsRow B e sz v n xs := by
  refine ⟨h.1, ?_⟩
  rcases h.2 with hn | ⟨g, cap, cur, rfl, hb, hgg, rest⟩
  · exact .inl hn
  · refine .inr ⟨g, cap, cur, rfl, hb, ?_, rest⟩
    rw [hf.block g (Array.getElem?_eq_some_iff.1 hgg).1 (hs g rfl)]
    exact hgg

theorem own_keep {w w' : World} {B e sz n : Nat} {v : Value} {xs : List Value} (h : w.ownsRow B e sz v n xs) (hf : Below w.heap.size w w') : w'.ownsRow B e sz v n xs :=
  own_kept h (Below.fr hf) fun _ _ h => h

theorem own_mono {w : World} {B B' e sz n : Nat} {v : Value} {xs : List Value} (h : w.ownsRow B e sz v n xs) (hB : B' ≤ B) : w.ownsRow B' e sz v n xs := by
  refine ⟨h.1, ?_⟩
  rcases h.2 with hn | ⟨g, cap, cur, hv, hb, rest⟩
  · exact .inl hn
  · exact .inr ⟨g, cap, cur, hv, by omega, rest⟩

/-- Behind an append to an owned row the blocks below its base are as they were. -/
theorem below_own {w0 w w' : World} {B e sz n : Nat} {v : Value} {xs : List Value} (h : w.ownsRow B e sz v n xs) (hf : Fr (fun k => some k = v.ownBlock) w w') (hb : Below B w0 w) (hB : B ≤ w.heap.size) : Below B w0 w' :=
  hb.trans (hf.below hB fun k hk hS => by have := (own_lt h hS).1; omega)

theorem cell_below {w w' : World} {B : Nat} {p : Addr} {v : Value} (hb : Below B w w') (hp : p.block < B) (hc : w.cell? p = some v) : w'.cell? p = some v := (hb.cell hp).trans hc

/-- A cell that holds something still holds it in a world that extends this one. -/
theorem cell_keep {w w' : World} {p : Addr} {v : Value} (hb : Below w.heap.size w w') (hc : w.cell? p = some v) : w'.cell? p = some v :=
  (hb.cell (World.block_lt_of_cell? w p hc)).trans hc

theorem cell_new1 (w : World) (v : Value) (e : TypeId) : (w.alloc (.cells #[v] e)).cell? ⟨w.heap.size, 0, none⟩ = some v := by
  simp

theorem testBit_or_pow (m k j : Nat) : (m ||| 2 ^ k).testBit j = (m.testBit j || decide (k = j)) := by
  rw [Nat.testBit_or, Nat.testBit_two_pow]

end Go.Proofs.YtdjfdopgjlbloaaGreatDoor
/- Walks: the small functions on terms, addresses and states. -/
namespace Go.Proofs.YtdjfdopgjlbloaaGreatDoor
open Go.RowKit

set_option maxHeartbeats 400000 in
theorem isTerm_any (n : Int) (w : World) :
    Calls Tryz.prog 30 #[.int .i64 n] w fun e w' => e = .returned (.bool (isTermB n)) ∧ w = w' := by
  by_cases h1 : 0 ≤ n
  · by_cases h2 : n ≤ 8
    all_goals
      go_enter Tryz.func30, Tryz.ntmps30
      go_wp2
      go_ret
      simp [isTermB, h1, h2]
  · go_enter Tryz.func30, Tryz.ntmps30
    go_wp2
    go_ret
    simp [isTermB]; omega
set_option maxHeartbeats 400000 in
theorem l1Is_any (n : Int) (w : World) :
    Calls Tryz.prog 76 #[.int .i64 n] w fun e w' => e = .returned (.bool (isTermB n)) ∧ w = w' := by
  by_cases h1 : 0 ≤ n
  · by_cases h2 : n ≤ 8
    all_goals
      go_enter Tryz.func76, Tryz.ntmps76
      go_wp2
      go_ret
      simp [isTermB, h1, h2]
  · go_enter Tryz.func76, Tryz.ntmps76
    go_wp2
    go_ret
    simp [isTermB]; omega

/-- A cell of a readable list. -/
theorem RInts.at {w : World} {b o cap : Nat} {l : List Int} {n : Nat} (h : RInts w (.slice (some ⟨b, o, none⟩) n cap) l) (i : Nat) (hi : i < l.length) :
    n = l.length ∧ w.cell? ⟨b, o + i, none⟩ = some (.int .i64 (gi l i)) := by
  rcases h with ⟨_, _, _, h, _⟩ | ⟨b', o', cap', h, h1, h2, h3⟩
  · omega
  · simp only [Value.slice.injEq, Option.some.injEq, Addr.mk.injEq, and_true] at h
    obtain ⟨⟨rfl, rfl⟩, rfl, rfl⟩ := h
    exact ⟨rfl, h3 i (by omega)⟩

/-- A readable list that is not empty lies in memory. -/
theorem RInts.ne {w : World} {v : Value} {l : List Int} (h : RInts w v l) (hl : 0 < l.length) :
    ∃ b o cap, v = .slice (some ⟨b, o, none⟩) l.length cap ∧ l.length ≤ cap ∧ cap ≤ maxLen ∧ ∀ i, i < l.length → w.cell? ⟨b, o + i, none⟩ = some (.int .i64 (gi l i)) := by
  rcases h with ⟨_, _, _, h, _⟩ | ⟨b, o, cap, rfl, h1, h2, h3⟩
  · omega
  · exact ⟨b, o, cap, rfl, h1, h2, fun i hi => h3 i (by omega)⟩

end Go.Proofs.YtdjfdopgjlbloaaGreatDoor
/- Walks: cells of a state; sets of cells. -/
namespace Go.Proofs.YtdjfdopgjlbloaaGreatDoor
open Go.RowKit

end Go.Proofs.YtdjfdopgjlbloaaGreatDoor
/- Regions that draw their order, whose operations only read and whose callees may make memory of their own but change nothing that was there: one walk in the order of the text. -/
namespace Go.Proofs.YtdjfdopgjlbloaaGreatDoor
open Go.RowKit

/-- A world that extends `w`. -/
structure Ext (w : World) where
  to : World
  below : Below w.heap.size w to
instance (w : World) : Nonempty (Ext w) := ⟨⟨w, Below.refl _ _⟩⟩
def ext (w : World) (x : Ext w) : World := x.to
@[simp, go_sem] theorem cell?_ext (w : World) (x : Ext w) (p : Addr) (h : p.block < w.heap.size) : (ext w x).cell? p = w.cell? p := x.below.cell h

theorem ext_c {P : Program} {f : FuncId} {args : Array Value} {w : World} {x : Ext w} {v : Value}
    (h : Calls P f args (ext w x) fun e w' => e = .returned v ∧ Below (ext w x).heap.size (ext w x) w') : Calls P f args (ext w x) fun e w'' => e = .returned v ∧ ∃ y, w'' = ext w y :=
  h.mono fun _ w'' ⟨he, hb⟩ => ⟨he, ⟨w'', bt x.below hb⟩, rfl⟩

theorem RInts.ext {w : World} {v : Value} {l : List Int} (h : RInts w v l) (x : Ext w) : RInts (ext w x) v l := h.keep x.below

theorem wp_region_ext {P : Program} {id : Nat} {Q : Exit → Act → World → Prop} {a : Act} {w : World} {l : List Oper} (hm : P.follows .mixedOrders = true) (hB : Region.lexB .any l.toArray = true)
    (h : wpQuiet P l.toArray (fun w' => ∃ x, w' = Go.Proofs.YtdjfdopgjlbloaaGreatDoor.ext w x) (fun a' => ∀ w', Below w.heap.size w w' → Q .normal a' w') l a) : (Code.region id l.toArray true).wp P Q a w := by
  refine wp_region_quiet (C := fun w' => ∃ x, w' = Go.Proofs.YtdjfdopgjlbloaaGreatDoor.ext w x) hm hB ⟨⟨_, below_drew w⟩, rfl⟩ ?_
  have key : ∀ (l' : List Oper) (a : Act), wpQuiet P l.toArray (fun w' => ∃ x, w' = Go.Proofs.YtdjfdopgjlbloaaGreatDoor.ext w x) (fun a' => ∀ w', Below w.heap.size w w' → Q .normal a' w') l' a →
      wpQuiet P l.toArray (fun w' => ∃ x, w' = Go.Proofs.YtdjfdopgjlbloaaGreatDoor.ext w x) (fun a' => ∀ w', (∃ x, w' = Go.Proofs.YtdjfdopgjlbloaaGreatDoor.ext w x) → Q .normal a' w') l' a := by
    intro l'
    induction l' with
    | nil => intro a h w' ⟨x, hx⟩; subst hx; exact h _ x.below
    | cons o l' ih =>
      intro a h
      unfold wpQuiet at h ⊢
      split
      · rename_i hw; rw [if_pos hw] at h; exact Oper.quiet_mono (fun a => ih a) h
      · rename_i hw; rw [if_neg hw] at h; exact ih _ h
  simpa using key l a h

end Go.Proofs.YtdjfdopgjlbloaaGreatDoor
/- Walks: sets of addresses; reached cells. -/
namespace Go.Proofs.YtdjfdopgjlbloaaGreatDoor
open Go.RowKit

end Go.Proofs.YtdjfdopgjlbloaaGreatDoor
/- Reached cells, in plain Lean. -/
namespace Go.Proofs.YtdjfdopgjlbloaaGreatDoor

/-- How many addresses a set has. -/
def cnt (m : Nat) : Nat := ((List.range' 1 8).filter (fun n => m.testBit n)).length
end Go.Proofs.YtdjfdopgjlbloaaGreatDoor
/- Walks: used and reached cells; valid states. -/
namespace Go.Proofs.YtdjfdopgjlbloaaGreatDoor
open Go.RowKit

end Go.Proofs.YtdjfdopgjlbloaaGreatDoor
/- Walks: valid states. -/
namespace Go.Proofs.YtdjfdopgjlbloaaGreatDoor
open Go.RowKit

end Go.Proofs.YtdjfdopgjlbloaaGreatDoor
/- Walks: the reference's small functions on states. -/
namespace Go.Proofs.YtdjfdopgjlbloaaGreatDoor
open Go.RowKit

theorem RInts.cells {w : World} {v : Value} {l : List Int} (h : RInts w v l) :
    ∃ a cap, v = .slice a l.length cap ∧ ∀ i, i < l.length → ∃ b o, a = some ⟨b, o, none⟩ ∧ b < w.heap.size ∧ w.cell? ⟨b, o + i, none⟩ = some (.int .i64 (gi l i)) := by
  rcases h with ⟨a, cap, rfl, h, _⟩ | ⟨b, o, cap, rfl, h1, h2, h3⟩
  · exact ⟨a, cap, by rw [h], fun i hi => by omega⟩
  · exact ⟨_, cap, rfl, fun i hi => ⟨b, o, rfl, World.block_lt_of_cell? w _ (h3 i (by omega)), h3 i (by omega)⟩⟩


/-! ### Flags -/
/-- The bools that stand for a set of numbers up to 8. -/
def flagsOf (m : Nat) : List Value := (List.range 9).map fun n => .bool (m.testBit n)
theorem flags_at (m k : Nat) (h : k < 9) : (flagsOf m)[k]? = some (.bool (m.testBit k)) := by simp [flagsOf, h]
theorem flags_set (m k : Nat) (_h : k < 9) : (flagsOf m).set k (.bool true) = flagsOf (m ||| 2 ^ k) := by
  apply List.ext_getElem?
  intro i
  rw [List.getElem?_set]
  by_cases hi : i < 9
  · rw [flags_at _ _ hi, flags_at _ _ hi, testBit_or_pow]
    by_cases hk : k = i
    · subst hk; simp [flagsOf, hi]
    · simp [hk]
  · have h1 : (flagsOf m)[i]? = none := by simp [flagsOf]; omega
    have h2 : (flagsOf (m ||| 2 ^ k))[i]? = none := by simp [flagsOf]; omega
    rw [h1, h2]
    by_cases hk : k = i
    · subst hk; omega
    · simp [hk]

end Go.Proofs.YtdjfdopgjlbloaaGreatDoor
