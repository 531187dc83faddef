/- Base1: texts Voc, Pure, Laws, W1, W2, Quiet, W3, Reach, W4, W5, W6 in one. -/
import Derived.WalkKit
import Derived.Lib.Hide
import Derived.Deep.QuietTactic
import Derived.BigQuiet
import Derived.Test.YtgfnoinkajfndaaGreatRows
import Derived.WalkSpells
import Derived.WalkLawsBesides
import Derived.Deep.AppendLies
import Derived.Deep.LoopGhost
/- Vocabulary of the proofs of this seat: slices that can be read in a world, frames between worlds. No program is in sight. -/
namespace Go.Proofs.YtgfnoinkajfndaaGreat
open Go.RowKit

/-- `v` is a slice of `n` elements of `sz` cells each; the cells from its start on hold `c 0, c 1, ..`. -/
def RSl (w : World) (sz : Nat) (v : Value) (n : Nat) (c : Nat → Value) : Prop :=
  (∃ a cap, v = .slice a 0 cap ∧ n = 0 ∧ cap ≤ maxLen ∧ (a = none → cap = 0)) ∨
  ∃ b o cap, v = .slice (some ⟨b, o, none⟩) n cap ∧ n ≤ cap ∧ cap ≤ maxLen ∧ ∀ i, i < n * sz → w.cell? ⟨b, o + i, none⟩ = some (c i)

/-- The i-th integer of a list. -/
def gi (l : List Int) (i : Nat) : Int := l.getD i 0
theorem gi_of {l : List Int} {i : Nat} (h : i < l.length) : gi l i = l[i] := by simp [gi, h]
theorem gi_mem {l : List Int} {i : Nat} (h : i < l.length) : gi l i ∈ l := by rw [gi_of h]; exact List.getElem_mem h

/-- `v` reads as the list `l` of integers. -/
def RInts (w : World) (v : Value) (l : List Int) : Prop := RSl w 1 v l.length (fun i => .int .i64 (gi l i))

/-- The blocks of `w` that are not in `S` are the same in `w'`. -/
structure Fr (S : Nat → Prop) (w w' : World) : Prop where
  os : w'.os = w.os
  tape : w'.tape = w.tape
  output : w'.output = w.output
  size : w.heap.size ≤ w'.heap.size
  block : ∀ k, k < w.heap.size → ¬ S k → w'.heap[k]? = w.heap[k]?

theorem Fr.refl (S : Nat → Prop) (w : World) : Fr S w w := ⟨rfl, rfl, rfl, Nat.le_refl _, fun _ _ _ => rfl⟩

theorem Fr.trans {S : Nat → Prop} {a b c : World} (h : Fr S a b) (k : Fr S b c) : Fr S a c :=
  ⟨k.os.trans h.os, k.tape.trans h.tape, k.output.trans h.output, Nat.le_trans h.size k.size,
    fun i hi hs => (k.block i (Nat.lt_of_lt_of_le hi h.size) hs).trans (h.block i hi hs)⟩

theorem Fr.mono {S S' : Nat → Prop} {a b : World} (h : Fr S a b) (hs : ∀ k, k < a.heap.size → S k → S' k) : Fr S' a b :=
  ⟨h.os, h.tape, h.output, h.size, fun i hi hn => h.block i hi fun hk => hn (hs i hi hk)⟩

theorem Below.fr {w w' : World} (h : Below w.heap.size w w') : Fr (fun _ => False) w w' :=
  ⟨h.os, h.tape, h.output, h.size, fun k hk _ => h.block k hk⟩

theorem Fr.below {w w' : World} {S : Nat → Prop} {B : Nat} (h : Fr S w w') (hB : B ≤ w.heap.size) (hs : ∀ k, k < B → ¬ S k) : Below B w w' :=
  ⟨h.os, h.tape, h.output, h.size, fun k hk => h.block k (Nat.lt_of_lt_of_le hk hB) (hs k hk)⟩

theorem Below.chg {w w' : World} {B : Nat} (h : Below B w w') : Fr (fun k => B ≤ k) w w' :=
  ⟨h.os, h.tape, h.output, h.size, fun k _ hn => h.block k (by omega)⟩

theorem grown_fr {w w' : World} {r : Option Nat} (h : w.grownBy w' r) : Fr (fun k => some k = r) w w' :=
  ⟨h.os, h.tape, h.output, h.size, fun k hk hn => h.block k hk hn⟩

theorem Fr.cell {S : Nat → Prop} {w w' : World} (h : Fr S w w') {p : Addr} {v : Value} (hp : ¬ S p.block) (hc : w.cell? p = some v) : w'.cell? p = some v :=
  (World.cell?_of_block (w := w) (h.block p.block (World.block_lt_of_cell? w p hc) hp)).trans hc

theorem RSl.kept {S : Nat → Prop} {w w' : World} {sz n : Nat} {v : Value} {c : Nat → Value} (h : RSl w sz v n c) (hf : Fr S w w')
    (hs : ∀ k, v.ownBlock = some k → ¬ S k) : RSl w' sz v n c := by
  rcases h with h | ⟨b, o, cap, rfl, h1, h2, h3⟩
  · exact .inl h
  · exact .inr ⟨b, o, cap, rfl, h1, h2, fun i hi => hf.cell (hs b rfl) (h3 i hi)⟩

theorem RInts.kept {S : Nat → Prop} {w w' : World} {v : Value} {l : List Int} (h : RInts w v l) (hf : Fr S w w')
    (hs : ∀ k, v.ownBlock = some k → ¬ S k) : RInts w' v l := RSl.kept h hf hs

theorem RSl.keep {w w' : World} {sz n : Nat} {v : Value} {c : Nat → Value} (h : RSl w sz v n c) (hf : Below w.heap.size w w') : RSl w' sz v n c :=
  h.kept (Below.fr hf) fun _ _ h => h

theorem RInts.keep {w w' : World} {v : Value} {l : List Int} (h : RInts w v l) (hf : Below w.heap.size w w') : RInts w' v l := RSl.keep h hf

theorem below_alloc (w : World) (o : Obj) : Below w.heap.size w (w.alloc o) := (Below.refl _ _).alloc (Nat.le_refl _) o
theorem below_drew (w : World) : Below w.heap.size w w.drew := (Below.refl _ _).drew

/-- Frames, one behind the other. -/
theorem bt {a b c : World} (h : Below a.heap.size a b) (k : Below b.heap.size b c) : Below a.heap.size a c := h.trans (k.mono h.size)

theorem RInts.alloc {w : World} {v : Value} {l : List Int} (h : RInts w v l) (o : Obj) : RInts (w.alloc o) v l := h.keep (below_alloc w o)

/-- An owned row can be read. -/
theorem own_rsl {w : World} {base : Nat} {e : TypeId} {sz n : Nat} {v : Value} {xs : List Value} (h : w.ownsRow base e sz v n xs) :
    RSl w sz v n (fun i => xs.getD i undef) := by
  obtain ⟨hl, h⟩ := h
  rcases h with ⟨rfl, rfl⟩ | ⟨g, cap, cur, rfl, hb, hg, hn, hc, hs, ht⟩
  · exact .inl ⟨none, 0, rfl, rfl, Nat.zero_le _, fun _ => rfl⟩
  · refine .inr ⟨g, 0, cap, rfl, hn, hc, fun i hi => ?_⟩
    rw [Nat.zero_add, cell_of_row w g i cur e (0, 0) hg, ← ht]
    have h1 : cur.toList[i]? = some (cur.toList[i]'(by rw [Array.length_toList, hs]; exact Nat.lt_of_lt_of_le hi (Nat.mul_le_mul_right _ hn))) := List.getElem?_eq_getElem _
    simp only [List.getD_eq_getElem?_getD, List.getElem?_take, hi, if_true]
    rw [h1]
    simp

theorem RSl.congr {w : World} {sz n : Nat} {v : Value} {c c' : Nat → Value} (h : RSl w sz v n c) (hc : ∀ i, i < n * sz → c i = c' i) : RSl w sz v n c' := by
  rcases h with h | ⟨b, o, cap, rfl, h1, h2, h3⟩
  · exact .inl h
  · exact .inr ⟨b, o, cap, rfl, h1, h2, fun i hi => (h3 i hi).trans (by rw [hc i hi])⟩

abbrev ints (l : List Int) : List Value := l.map (Value.int .i64)

theorem own_ints {w : World} {base : Nat} {e : TypeId} {v : Value} {n : Nat} {l : List Int} (h : w.ownsRow base e 1 v n (ints l)) : RInts w v l ∧ n = l.length := by
  have hn : n = l.length := by have := h.1; simpa using this.symm
  subst hn
  refine ⟨(own_rsl h).congr fun i hi => ?_, rfl⟩
  have hi' : i < l.length := by omega
  simp [ints, hi', gi]

theorem RInts.form {w : World} {v : Value} {l : List Int} (h : RInts w v l) : ∃ a cap, v = .slice a l.length cap := by
  rcases h with ⟨a, cap, rfl, h, _⟩ | ⟨b, o, cap, rfl, _⟩
  · exact ⟨a, cap, by rw [h]⟩
  · exact ⟨_, _, rfl⟩

theorem RInts.len {w : World} {v : Value} {l : List Int} (h : RInts w v l) : l.length ≤ maxLen := by
  rcases h with ⟨a, cap, rfl, h, _⟩ | ⟨b, o, cap, rfl, h1, h2, _⟩
  · rw [h]; exact Nat.zero_le _
  · omega

theorem RInts.nil (w : World) : RInts w (.slice none 0 0) [] := .inl ⟨none, 0, rfl, rfl, Nat.zero_le _, fun _ => rfl⟩

end Go.Proofs.YtgfnoinkajfndaaGreat
/- The Lean functions that the small Go functions compute. -/
namespace Go.Proofs.YtgfnoinkajfndaaGreat

def isAddrB (n : Int) : Bool := decide (1 ≤ n) && decide (n ≤ 8)
def isTermB (n : Int) : Bool := decide (0 ≤ n) && decide (n ≤ 8)
/-- The value of a term. -/
def tv (vs : List Int) (t : Int) : Int := if t = 0 then 0 else gi vs (t - 1).toNat
/-- The content of a cell, or -1. -/
def ct (hs : List Int) (n : Int) : Int := if isAddrB n = true then gi hs (n - 1).toNat else -1
def heapB (n : Int) : Bool := (n == -1) || isTermB n
def validB (vs hs : List Int) : Bool := (vs.length == 8) && ((hs.length == 8) && (vs.all isTermB && hs.all heapB))

theorem isAddrB_iff {n : Int} : isAddrB n = true ↔ 1 ≤ n ∧ n ≤ 8 := by simp [isAddrB]
theorem isTermB_iff {n : Int} : isTermB n = true ↔ 0 ≤ n ∧ n ≤ 8 := by simp [isTermB]
theorem heapB_iff {n : Int} : heapB n = true ↔ -1 ≤ n ∧ n ≤ 8 := by
  simp [heapB, isTermB]; omega

end Go.Proofs.YtgfnoinkajfndaaGreat
/- Laws for the walks of this seat: append of one integer to an owned slice; sets of small numbers as 16-bit words; selections of numbers. -/
namespace Go.Proofs.YtgfnoinkajfndaaGreat
open Go.RowKit

theorem info_int : (Tryz.prog.info? 3).map (fun i => (i.zero, i.size, i.bytes)) = some (some (.int .i64 0), 1, 8) := by kernel_rfl

/-- `append(s, n)` where `s` is the call's own. -/
theorem app_int {ops : Array Oper} {rest : List Oper} {o : Oper} {a : Act} {Q : Exit → Act → World → Prop} (w : World) (hgd : o.guard = none) (s x : Operand)
    (ho : o.op = .call { callee := .builtin .append, args := #[s, x], argTypes := #[23, 23] })
    (B : Nat) (v : Value) (l : List Int) (hs : a.eval s = v) (hown : w.ownsRow B 3 1 v l.length (ints l))
    (ad : Addr) (n : Int) (hx : a.eval x = .slice (some ad) 1 1) (hnew : w.cell? ad = some (.int .i64 n)) (hlen : l.length < 1099511627776) (hB : B ≤ w.heap.size)
    (h : ∀ v' w', w'.ownsRow B 3 1 v' (l ++ [n]).length (ints (l ++ [n])) → Fr (fun k => some k = v.ownBlock) w w' → wpList Tryz.prog ops Q rest (a.put o.dst v') w') :
    wpList Tryz.prog ops Q (o :: rest) a w := by
  obtain ⟨i0, hi, hz0, hz1, hz2⟩ := info_parts info_int
  refine wpList_append_own w hgd s x 23 ho B 3 i0 (.int .i64 0) 1 8 Tryz.underlying23 hi hz0 hz1 hz2 rfl (by decide) v l.length (ints l) hs hown ad 1 1 [.int .i64 n] hx rfl ?_ ?_ ?_ ?_ hB ?_
  · intro j u hj
    cases j with
    | zero => simp at hj; subst hj; simpa [Addr.add] using hnew
    | succ j => simp at hj
  · intro u hu; simp at hu; subst hu; rfl
  · unfold maxLen; omega
  · omega
  · intro v' w' h1 h2 _
    refine h v' w' ?_ (grown_fr h2)
    simpa [ints] using h1

/-- The same; and where the new slice lies. -/
theorem app_int2 {ops : Array Oper} {rest : List Oper} {o : Oper} {a : Act} {Q : Exit → Act → World → Prop} (w : World) (hgd : o.guard = none) (s x : Operand)
    (ho : o.op = .call { callee := .builtin .append, args := #[s, x], argTypes := #[23, 23] })
    (B : Nat) (v : Value) (l : List Int) (hs : a.eval s = v) (hown : w.ownsRow B 3 1 v l.length (ints l))
    (ad : Addr) (n : Int) (hx : a.eval x = .slice (some ad) 1 1) (hnew : w.cell? ad = some (.int .i64 n)) (hlen : l.length < 1099511627776) (hB : B ≤ w.heap.size)
    (h : ∀ v' w', w'.ownsRow B 3 1 v' (l ++ [n]).length (ints (l ++ [n])) → Fr (fun k => some k = v.ownBlock) w w' → (∀ k, some k = v'.ownBlock → some k = v.ownBlock ∨ w.heap.size ≤ k) → wpList Tryz.prog ops Q rest (a.put o.dst v') w') :
    wpList Tryz.prog ops Q (o :: rest) a w := by
  obtain ⟨i0, hi, hz0, hz1, hz2⟩ := info_parts info_int
  refine wpList_append_lies w hgd s x 23 ho B 3 i0 (.int .i64 0) 1 8 Tryz.underlying23 hi hz0 hz1 hz2 rfl (by decide) v l.length (ints l) hs hown ad 1 1 [.int .i64 n] hx rfl ?_ ?_ (by decide) ?_ ?_ hB w.heap.size rfl ?_
  · intro j u hj
    cases j with
    | zero => simp at hj; subst hj; simpa [Addr.add] using hnew
    | succ j => simp at hj
  · intro u hu; simp at hu; subst hu; rfl
  · unfold maxLen; omega
  · omega
  · intro g cap w' h1 h2 h3 _
    refine h _ w' ?_ (grown_fr h2) ?_
    · simpa [ints] using h1
    · intro k hk
      simp [Value.ownBlock] at hk
      subst hk
      rcases h3 with h3 | h3
      · exact .inl h3.symm
      · exact .inr (by omega)

theorem own_lt {w : World} {B e sz n : Nat} {v : Value} {xs : List Value} (h : w.ownsRow B e sz v n xs) {k : Nat} (hk : some k = v.ownBlock) : B ≤ k ∧ k < w.heap.size := h.lt k hk.symm

theorem own_kept {w w' : World} {B e sz n : Nat} {v : Value} {xs : List Value} {S : Nat → Prop} (h : w.ownsRow B e sz v n xs) (hf : Fr S w w') (hs : ∀ k, some k = v.ownBlock → ¬ S k) : w'.ownsRow B e sz v n xs := by
  refine ⟨h.1, ?_⟩
  rcases h.2 with hn | ⟨g, cap, cur, rfl, hb, hgg, rest⟩
  · exact .inl hn
  · refine .inr ⟨g, cap, cur, rfl, hb, ?_, rest⟩
    rw [hf.block g (Array.getElem?_eq_some_iff.1 hgg).1 (hs g rfl)]
    exact hgg

theorem own_keep {w w' : World} {B e sz n : Nat} {v : Value} {xs : List Value} (h : w.ownsRow B e sz v n xs) (hf : Below w.heap.size w w') : w'.ownsRow B e sz v n xs :=
  own_kept h (Below.fr hf) fun _ _ h => h

theorem own_mono {w : World} {B B' e sz n : Nat} {v : Value} {xs : List Value} (h : w.ownsRow B e sz v n xs) (hB : B' ≤ B) : w.ownsRow B' e sz v n xs := by
  refine ⟨h.1, ?_⟩
  rcases h.2 with hn | ⟨g, cap, cur, hv, hb, rest⟩
  · exact .inl hn
  · exact .inr ⟨g, cap, cur, hv, by omega, rest⟩

/-- Behind an append to an owned row the blocks below its base are as they were. -/
theorem below_own {w0 w w' : World} {B e sz n : Nat} {v : Value} {xs : List Value} (h : w.ownsRow B e sz v n xs) (hf : Fr (fun k => some k = v.ownBlock) w w') (hb : Below B w0 w) (hB : B ≤ w.heap.size) : Below B w0 w' :=
  hb.trans (hf.below hB fun k hk hS => by have := (own_lt h hS).1; omega)

theorem cell_below {w w' : World} {B : Nat} {p : Addr} {v : Value} (hb : Below B w w') (hp : p.block < B) (hc : w.cell? p = some v) : w'.cell? p = some v := (hb.cell hp).trans hc

/-- A cell that holds something still holds it in a world that extends this one. -/
theorem cell_keep {w w' : World} {p : Addr} {v : Value} (hb : Below w.heap.size w w') (hc : w.cell? p = some v) : w'.cell? p = some v :=
  (hb.cell (World.block_lt_of_cell? w p hc)).trans hc

/-- The block of an owned row lies below the heap's end. -/
theorem own_ub {w : World} {B e sz n : Nat} {v : Value} {xs : List Value} (h : w.ownsRow B e sz v n xs) : ∀ k, some k = v.ownBlock → B ≤ k ∧ k < w.heap.size := fun _ hk => own_lt h hk

theorem cell_new1 (w : World) (v : Value) (e : TypeId) : (w.alloc (.cells #[v] e)).cell? ⟨w.heap.size, 0, none⟩ = some v := by
  simp

/-! ### Sets as words -/

theorem has_bit (m k : Nat) (hm : m < 65536) : (bits .and .u16 ((m : Int) / 2 ^ k) 1 == 1) = m.testBit k := by
  have e : ((m : Int) / 2 ^ k) = ((m / 2 ^ k : Nat) : Int) := by simp
  have h1 : m / 2 ^ k < 65536 := Nat.lt_of_le_of_lt (Nat.div_le_self _ _) hm
  have := u16_and_nat (m / 2 ^ k) 1 h1 (by decide)
  rw [e, show (1 : Int) = ((1 : Nat) : Int) from rfl, this]
  rw [Nat.and_one_is_mod, Nat.testBit_eq_decide_div_mod_eq]
  rw [Bool.eq_iff_iff]
  simp
  omega

theorem wrap_two_pow (k : Nat) (hk : k < 16) : IntKind.u16.wrap (2 ^ k) = ((2 ^ k : Nat) : Int) := by
  rw [IntKind.wrap_u16]
  have h : (2 ^ k : Nat) < 65536 := Nat.pow_lt_pow_right (by decide) hk
  have e : (2 : Int) ^ k = ((2 ^ k : Nat) : Int) := by simp
  rw [e]
  generalize 2 ^ k = x at h ⊢
  omega

theorem or_bit (m k : Nat) (hm : m < 65536) (hk : k < 16) : bits .or .u16 (m : Int) (IntKind.u16.wrap (2 ^ k)) = ((m ||| 2 ^ k : Nat) : Int) := by
  rw [wrap_two_pow k hk]
  exact u16_or_nat m (2 ^ k) hm (Nat.pow_lt_pow_right (by decide) hk)

theorem or_lt (m k : Nat) (hm : m < 65536) (hk : k < 16) : m ||| 2 ^ k < 65536 :=
  Nat.or_lt_two_pow (n := 16) hm (Nat.pow_lt_pow_right (by decide) hk)

theorem testBit_or_pow (m k j : Nat) : (m ||| 2 ^ k).testBit j = (m.testBit j || decide (k = j)) := by
  rw [Nat.testBit_or, Nat.testBit_two_pow]

end Go.Proofs.YtgfnoinkajfndaaGreat
/- Walks: the small functions on terms, addresses and states. -/
namespace Go.Proofs.YtgfnoinkajfndaaGreat
open Go.RowKit

set_option maxHeartbeats 400000 in
theorem isAddr_any (n : Int) (w : World) :
    Calls Tryz.prog 76 #[.int .i64 n] w fun e w' => e = .returned (.bool (isAddrB n)) ∧ w = w' := by
  by_cases h1 : 1 ≤ n
  · by_cases h2 : n ≤ 8
    all_goals
      go_enter Tryz.func76, Tryz.ntmps76
      go_wp2
      go_ret
      simp [isAddrB, h1, h2]
  · go_enter Tryz.func76, Tryz.ntmps76
    go_wp2
    go_ret
    simp [isAddrB]; omega
set_option maxHeartbeats 400000 in
theorem isTerm_any (n : Int) (w : World) :
    Calls Tryz.prog 119 #[.int .i64 n] w fun e w' => e = .returned (.bool (isTermB n)) ∧ w = w' := by
  by_cases h1 : 0 ≤ n
  · by_cases h2 : n ≤ 8
    all_goals
      go_enter Tryz.func119, Tryz.ntmps119
      go_wp2
      go_ret
      simp [isTermB, h1, h2]
  · go_enter Tryz.func119, Tryz.ntmps119
    go_wp2
    go_ret
    simp [isTermB]; omega
set_option maxHeartbeats 400000 in
theorem isValue_any (n : Int) (w : World) :
    Calls Tryz.prog 75 #[.int .i64 n] w fun e w' => e = .returned (.bool (isTermB n)) ∧ w = w' := by
  by_cases h1 : 0 ≤ n
  · by_cases h2 : n ≤ 8
    all_goals
      go_enter Tryz.func75, Tryz.ntmps75
      go_wp2
      go_ret
      simp [isTermB, h1, h2]
  · go_enter Tryz.func75, Tryz.ntmps75
    go_wp2
    go_ret
    simp [isTermB]; omega
set_option maxHeartbeats 400000 in
theorem l1Is_any (n : Int) (w : World) :
    Calls Tryz.prog 96 #[.int .i64 n] w fun e w' => e = .returned (.bool (isTermB n)) ∧ w = w' := by
  by_cases h1 : 0 ≤ n
  · by_cases h2 : n ≤ 8
    all_goals
      go_enter Tryz.func96, Tryz.ntmps96
      go_wp2
      go_ret
      simp [isTermB, h1, h2]
  · go_enter Tryz.func96, Tryz.ntmps96
    go_wp2
    go_ret
    simp [isTermB]; omega
set_option maxHeartbeats 400000 in
theorem l2Addr_any (n : Int) (w : World) :
    Calls Tryz.prog 107 #[.int .i64 n] w fun e w' => e = .returned (.bool (isTermB n)) ∧ w = w' := by
  by_cases h1 : 0 ≤ n
  · by_cases h2 : n ≤ 8
    all_goals
      go_enter Tryz.func107, Tryz.ntmps107
      go_wp2
      go_ret
      simp [isTermB, h1, h2]
  · go_enter Tryz.func107, Tryz.ntmps107
    go_wp2
    go_ret
    simp [isTermB]; omega

/-- A cell of a readable list. -/
theorem RInts.at {w : World} {b o cap : Nat} {l : List Int} {n : Nat} (h : RInts w (.slice (some ⟨b, o, none⟩) n cap) l) (i : Nat) (hi : i < l.length) :
    n = l.length ∧ w.cell? ⟨b, o + i, none⟩ = some (.int .i64 (gi l i)) := by
  rcases h with ⟨_, _, _, h, _⟩ | ⟨b', o', cap', h, h1, h2, h3⟩
  · omega
  · simp only [Value.slice.injEq, Option.some.injEq, Addr.mk.injEq, and_true] at h
    obtain ⟨⟨rfl, rfl⟩, rfl, rfl⟩ := h
    exact ⟨rfl, h3 i (by omega)⟩

/-- A readable list that is not empty lies in memory. -/
theorem RInts.ne {w : World} {v : Value} {l : List Int} (h : RInts w v l) (hl : 0 < l.length) :
    ∃ b o cap, v = .slice (some ⟨b, o, none⟩) l.length cap ∧ l.length ≤ cap ∧ cap ≤ maxLen ∧ ∀ i, i < l.length → w.cell? ⟨b, o + i, none⟩ = some (.int .i64 (gi l i)) := by
  rcases h with ⟨_, _, _, h, _⟩ | ⟨b, o, cap, rfl, h1, h2, h3⟩
  · omega
  · exact ⟨b, o, cap, rfl, h1, h2, fun i hi => h3 i (by omega)⟩

set_option maxHeartbeats 400000 in
theorem termValue_any (v : Value) (l : List Int) (t : Int) (w : World) (h : RInts w v l) (h0 : 0 ≤ t) (h1 : t ≤ l.length) :
    Calls Tryz.prog 160 #[v, .int .i64 t] w fun e w' => e = .returned (.int .i64 (tv l t)) ∧ w = w' := by
  by_cases ht : t = 0
  · subst ht
    go_enter Tryz.func160, Tryz.ntmps160
    go_wp2
    go_ret
    simp [tv]
  · obtain ⟨n, rfl⟩ := Int.eq_ofNat_of_zero_le h0
    obtain ⟨k, rfl⟩ : ∃ k, n = k + 1 := ⟨n - 1, by omega⟩
    have hm := h.len
    unfold maxLen at hm
    obtain ⟨b, o, cap, rfl, hc, hcm, hcell⟩ := h.ne (by omega)
    have hg := hcell k (by omega)
    have hk : (k : Int) < l.length := by omega
    have e1 : (((k + 1 : Nat) : Int)) = (k : Int) + 1 := by omega
    rw [e1]
    clear e1 h0 h1 h ht hcell
    go_enter Tryz.func160, Tryz.ntmps160
    go_wp2
    go_ret
    have e2 : ((k : Int) + 1 - 1).toNat = k := by omega
    have e3 : ¬ (k : Int) + 1 = 0 := by omega
    simp [tv, e3]
end Go.Proofs.YtgfnoinkajfndaaGreat
/- Walks: cells of a state; sets of cells. -/
namespace Go.Proofs.YtgfnoinkajfndaaGreat
open Go.RowKit

set_option maxHeartbeats 400000 in
theorem l1Value_any (v : Value) (l : List Int) (t : Int) (w : World) (h : RInts w v l) (h0 : 0 ≤ t) (h1 : t ≤ l.length) :
    Calls Tryz.prog 110 #[v, .int .i64 t] w fun e w' => e = .returned (.int .i64 (tv l t)) ∧ w = w' := by
  by_cases ht : t = 0
  · subst ht
    go_enter Tryz.func110, Tryz.ntmps110
    go_wp2
    go_ret
    simp [tv]
  · obtain ⟨n, rfl⟩ := Int.eq_ofNat_of_zero_le h0
    obtain ⟨k, rfl⟩ : ∃ k, n = k + 1 := ⟨n - 1, by omega⟩
    have hm := h.len
    unfold maxLen at hm
    obtain ⟨b, o, cap, rfl, hc, hcm, hcell⟩ := h.ne (by omega)
    have hg := hcell k (by omega)
    have hk : (k : Int) < l.length := by omega
    have e1 : (((k + 1 : Nat) : Int)) = (k : Int) + 1 := by omega
    rw [e1]
    clear e1 h0 h1 h ht hcell
    go_enter Tryz.func110, Tryz.ntmps110
    go_wp2
    go_ret
    have e2 : ((k : Int) + 1 - 1).toNat = k := by omega
    have e3 : ¬ (k : Int) + 1 = 0 := by omega
    simp [tv, e3]
set_option maxHeartbeats 400000 in
theorem content_any (vs hv : Value) (hs : List Int) (n : Int) (w : World) (h : RInts w hv hs) (hl : 8 ≤ hs.length) :
    Calls Tryz.prog 162 #[.agg #[vs, hv], .int .i64 n] w fun e w' => e = .returned (.int .i64 (ct hs n)) ∧ Below w.heap.size w w' := by
  have hm := h.len
  unfold maxLen at hm
  by_cases ha : isAddrB n = true
  · have hn := isAddrB_iff.1 ha
    obtain ⟨k, rfl⟩ : ∃ k : Nat, n = (k : Int) + 1 := ⟨(n - 1).toNat, by omega⟩
    obtain ⟨b, o, cap, rfl, hc, hcm, hcell⟩ := h.ne (by omega)
    have hg := hcell k (by omega)
    have hk : (k : Int) < hs.length := by omega
    have hfin : ct hs ((k : Int) + 1) = gi hs k := by
      unfold ct; rw [if_pos ha]; congr 1; omega
    have HF := Lib.hid hfin
    have hbl := World.block_lt_of_cell? w _ hg
    clear hfin h hcell
    go_enter Tryz.func162, Tryz.ntmps162
    go_wp2_with (go_at_call 76; refine (isAddr_any _ _).mono ?_; rintro e w' ⟨rfl, rfl⟩)
    go_ret
    exact ⟨by rw [HF.out]; rfl, below_alloc _ _⟩
  · have ha' : isAddrB n = false := by simpa using ha
    clear ha
    go_enter Tryz.func162, Tryz.ntmps162
    go_wp2_with (go_at_call 76; refine (isAddr_any _ _).mono ?_; rintro e w' ⟨rfl, rfl⟩)
    go_ret
    exact ⟨by simp [ct, ha'], below_alloc _ _⟩
def alB (hs : List Int) (n : Int) : Bool := decide (0 ≤ ct hs n)
set_option maxHeartbeats 400000 in
theorem allocated_any (vs hv : Value) (hs : List Int) (n : Int) (w : World) (h : RInts w hv hs) (hl : 8 ≤ hs.length) :
    Calls Tryz.prog 161 #[.agg #[vs, hv], .int .i64 n] w fun e w' => e = .returned (.bool (alB hs n)) ∧ Below w.heap.size w w' := by
  go_enter Tryz.func161, Tryz.ntmps161
  go_wp2_with fail
  refine (content_any _ _ hs _ _ (h.alloc _) hl).mono ?_
  rintro e w' ⟨rfl, hb⟩
  go_wp2
  go_ret
  exact ⟨by simp [alB], (below_alloc _ _).trans (hb.mono (by simp))⟩
end Go.Proofs.YtgfnoinkajfndaaGreat
/- Regions that draw their order, whose operations only read and whose callees may make memory of their own but change nothing that was there: one walk in the order of the text. -/
namespace Go.Proofs.YtgfnoinkajfndaaGreat
open Go.RowKit

/-- A world that extends `w`. -/
structure Ext (w : World) where
  to : World
  below : Below w.heap.size w to
instance (w : World) : Nonempty (Ext w) := ⟨⟨w, Below.refl _ _⟩⟩
def ext (w : World) (x : Ext w) : World := x.to
@[simp, go_sem] theorem cell?_ext (w : World) (x : Ext w) (p : Addr) (h : p.block < w.heap.size) : (ext w x).cell? p = w.cell? p := x.below.cell h

theorem ext_c {P : Program} {f : FuncId} {args : Array Value} {w : World} {x : Ext w} {v : Value}
    (h : Calls P f args (ext w x) fun e w' => e = .returned v ∧ Below (ext w x).heap.size (ext w x) w') : Calls P f args (ext w x) fun e w'' => e = .returned v ∧ ∃ y, w'' = ext w y :=
  h.mono fun _ w'' ⟨he, hb⟩ => ⟨he, ⟨w'', bt x.below hb⟩, rfl⟩

theorem ext_same {P : Program} {f : FuncId} {args : Array Value} {w : World} {x : Ext w} {v : Value}
    (h : Calls P f args (ext w x) fun e w' => e = .returned v ∧ ext w x = w') : Calls P f args (ext w x) fun e w'' => e = .returned v ∧ ∃ y, w'' = ext w y :=
  h.mono fun _ _ ⟨he, hb⟩ => ⟨he, x, hb.symm⟩

theorem RInts.ext {w : World} {v : Value} {l : List Int} (h : RInts w v l) (x : Ext w) : RInts (ext w x) v l := h.keep x.below

theorem wp_region_ext {P : Program} {id : Nat} {Q : Exit → Act → World → Prop} {a : Act} {w : World} {l : List Oper} (hm : P.follows .mixedOrders = true) (hB : Region.lexB .any l.toArray = true)
    (h : wpQuiet P l.toArray (fun w' => ∃ x, w' = Go.Proofs.YtgfnoinkajfndaaGreat.ext w x) (fun a' => ∀ w', Below w.heap.size w w' → Q .normal a' w') l a) : (Code.region id l.toArray true).wp P Q a w := by
  refine wp_region_quiet (C := fun w' => ∃ x, w' = Go.Proofs.YtgfnoinkajfndaaGreat.ext w x) hm hB ⟨⟨_, below_drew w⟩, rfl⟩ ?_
  have key : ∀ (l' : List Oper) (a : Act), wpQuiet P l.toArray (fun w' => ∃ x, w' = Go.Proofs.YtgfnoinkajfndaaGreat.ext w x) (fun a' => ∀ w', Below w.heap.size w w' → Q .normal a' w') l' a →
      wpQuiet P l.toArray (fun w' => ∃ x, w' = Go.Proofs.YtgfnoinkajfndaaGreat.ext w x) (fun a' => ∀ w', (∃ x, w' = Go.Proofs.YtgfnoinkajfndaaGreat.ext w x) → Q .normal a' w') l' a := by
    intro l'
    induction l' with
    | nil => intro a h w' ⟨x, hx⟩; subst hx; exact h _ x.below
    | cons o l' ih =>
      intro a h
      unfold wpQuiet at h ⊢
      split
      · rename_i hw; rw [if_pos hw] at h; exact Oper.quiet_mono (fun a => ih a) h
      · rename_i hw; rw [if_neg hw] at h; exact ih _ h
  simpa using key l a h

end Go.Proofs.YtgfnoinkajfndaaGreat
/- Walks: sets of addresses; reached cells. -/
namespace Go.Proofs.YtgfnoinkajfndaaGreat
open Go.RowKit

/-- The set holds the address. -/
def hasB (m : Nat) (n : Int) : Bool := isAddrB n && m.testBit n.toNat

set_option maxHeartbeats 400000 in
theorem cellHas_any (m : Nat) (n : Int) (w : World) (hm : m < 65536) :
    Calls Tryz.prog 77 #[.int .u16 m, .int .i64 n] w fun e w' => e = .returned (.bool (hasB m n)) ∧ w = w' := by
  by_cases ha : isAddrB n = true
  · have hn := isAddrB_iff.1 ha
    obtain ⟨k, rfl⟩ := Int.eq_ofNat_of_zero_le (show 0 ≤ n by omega)
    have h8 : k ≤ 8 := by omega
    have hfin := has_bit m k hm
    have HF := Lib.hid hfin
    clear hfin
    go_enter Tryz.func77, Tryz.ntmps77
    go_wp2_with (go_at_call 76; refine (isAddr_any _ _).mono ?_; rintro e w' ⟨rfl, rfl⟩)
    go_ret
    exact ⟨by simp [HF.out, hasB, ha], rfl⟩
  · have ha' : isAddrB n = false := by simpa using ha
    go_enter Tryz.func77, Tryz.ntmps77
    go_wp2_with (go_at_call 76; refine (isAddr_any _ _).mono ?_; rintro e w' ⟨rfl, rfl⟩)
    go_ret
    exact ⟨by simp [ha', hasB], rfl⟩
end Go.Proofs.YtgfnoinkajfndaaGreat
/- Reached cells, in plain Lean. -/
namespace Go.Proofs.YtgfnoinkajfndaaGreat

/-- How many addresses a set has. -/
def cnt (m : Nat) : Nat := ((List.range' 1 8).filter (fun n => m.testBit n)).length
theorem filter_length_lt {α : Type} (p q : α → Bool) (x : α) : ∀ l : List α, (∀ y, p y = true → q y = true) → x ∈ l → p x = false → q x = true →
    (l.filter p).length < (l.filter q).length
  | [], _, h, _, _ => by cases h
  | a :: l, hpq, hx, hp, hq => by
    have hle : (l.filter p).length ≤ (l.filter q).length := by
      have : ∀ l : List α, (l.filter p).length ≤ (l.filter q).length := by
        intro l
        induction l with
        | nil => simp
        | cons b l ih =>
          simp only [List.filter_cons]
          cases hb : p b
          · cases hq' : q b <;> simp <;> omega
          · rw [hpq b hb]; simpa using ih
      exact this l
    simp only [List.filter_cons]
    rcases List.mem_cons.1 hx with rfl | hx
    · rw [hp, hq]; simp; omega
    · have ih := filter_length_lt p q x l hpq hx hp hq
      cases ha : p a
      · cases hq' : q a <;> simp <;> omega
      · rw [hpq a ha]; simpa using ih

theorem cnt_or (m : Nat) (n : Nat) (h1 : 1 ≤ n) (h8 : n ≤ 8) (hn : m.testBit n = false) : cnt m < cnt (m ||| 2 ^ n) := by
  unfold cnt
  refine filter_length_lt _ _ n _ ?_ ?_ hn ?_
  · intro y hy; rw [testBit_or_pow, hy]; rfl
  · rw [List.mem_range'_1]; omega
  · rw [testBit_or_pow]; simp

theorem al_addr {hs : List Int} {v : Int} (h : alB hs v = true) : 1 ≤ v ∧ v ≤ 8 := by
  unfold alB ct at h
  split at h
  · rename_i h1; exact isAddrB_iff.1 h1
  · simp at h

end Go.Proofs.YtgfnoinkajfndaaGreat
/- Walks: used and reached cells; valid states. -/
namespace Go.Proofs.YtgfnoinkajfndaaGreat
open Go.RowKit

end Go.Proofs.YtgfnoinkajfndaaGreat
/- Walks: valid states. -/
namespace Go.Proofs.YtgfnoinkajfndaaGreat
open Go.RowKit

theorem all_take_succ {p : Int → Bool} {l : List Int} {k : Nat} (h : k < l.length) (ht : (l.take k).all p = true) (hp : p (gi l k) = true) : (l.take (k + 1)).all p = true := by
  rw [List.take_succ_eq_append_getElem h, List.all_append, ht]
  simpa [gi_of h] using hp

theorem all_false_at {p : Int → Bool} {l : List Int} {k : Nat} (h : k < l.length) (hp : p (gi l k) = false) : l.all p = false := by
  rw [List.all_eq_false]
  refine ⟨l[k], List.getElem_mem h, ?_⟩
  simpa [gi_of h] using hp

theorem all_take_full {p : Int → Bool} {l : List Int} (ht : (l.take l.length).all p = true) : l.all p = true := by
  rwa [List.take_length] at ht

theorem valid_len {vl hl : List Int} (h : validB vl hl = true) : vl.length = 8 ∧ hl.length = 8 := by
  simp [validB] at h; exact ⟨h.1, h.2.1⟩
theorem valid_all {vl hl : List Int} (h : validB vl hl = true) : vl.all isTermB = true ∧ hl.all heapB = true := by
  simp only [validB, Bool.and_eq_true] at h; exact ⟨h.2.2.1, h.2.2.2⟩
theorem valid_ct {vl hl : List Int} (h : validB vl hl = true) (n : Int) : -1 ≤ ct hl n ∧ ct hl n ≤ 8 := by
  unfold ct
  split
  · rename_i hn
    rw [isAddrB_iff] at hn
    have h1 := (valid_len h).2
    have hk : (n - 1).toNat < hl.length := by omega
    have := List.all_eq_true.1 (valid_all h).2 (hl[(n - 1).toNat]) (List.getElem_mem hk)
    rw [heapB_iff] at this
    rwa [gi_of hk]
  · omega

set_option maxHeartbeats 800000 in
theorem stateValid_any (vs hv : Value) (vl hl : List Int) (w : World) (h1 : RInts w vs vl) (h2 : RInts w hv hl) :
    Calls Tryz.prog 29 #[.agg #[vs, hv]] w fun e w' => e = .returned (.bool (validB vl hl)) ∧ Below w.heap.size w w' := by
  have hm1 := h1.len
  have hm2 := h2.len
  unfold maxLen at hm1 hm2
  obtain ⟨a1, c1, hf1⟩ := h1.form
  obtain ⟨a2, c2, hf2⟩ := h2.form
  by_cases hA : vl.length = 8
  · by_cases hB : hl.length = 8
    · obtain ⟨b1, o1, cap1, rfl, _, _, cell1⟩ := h1.ne (by omega)
      obtain ⟨b2, o2, cap2, rfl, _, _, cell2⟩ := h2.ne (by omega)
      have k1 := World.block_lt_of_cell? w _ (cell1 0 (by omega))
      have k2 := World.block_lt_of_cell? w _ (cell2 0 (by omega))
      clear hf1 hf2 h1 h2
      rw [hA] at cell1 ⊢
      rw [hB] at cell2 ⊢
      have CELL1 := Lib.hid cell1
      have CELL2 := Lib.hid cell2
      have HA := Lib.hid hA
      have HB := Lib.hid hB
      clear cell1 cell2 hA hB
      go_enter Tryz.func29, Tryz.ntmps29
      go_wp2
      go_loop [20] (fun i => ∃ k : Nat, k ≤ 8 ∧ i = .int .i64 k ∧ (vl.take k).all isTermB = true) (fun i => 8 - (intOf i).toNat)
      case atStart => exact ⟨0, by omega, rfl, rfl⟩
      case round =>
        obtain ⟨k, hk, rfl, hall⟩ := hrel
        have HALL := Lib.hid hall
        clear hall
        by_cases hk8 : k < 8
        · have hc := CELL1.out k hk8
          by_cases ht : isTermB (gi vl k) = true
          · go_wp2_with (go_at_call 75; refine (isValue_any _ _).mono ?_; rintro e w' ⟨rfl, rfl⟩)
            go_round
            case rel => exact ⟨k + 1, by omega, by go_num, all_take_succ (by rw [HA.out]; exact hk8) HALL.out ht⟩
            case measure => simp [intOf]; omega
          · have ht' : isTermB (gi vl k) = false := by simpa using ht
            clear ht
            go_wp2_with (go_at_call 75; refine (isValue_any _ _).mono ?_; rintro e w' ⟨rfl, rfl⟩)
            go_ret
            refine ⟨?_, below_alloc _ _⟩
            rw [show validB vl hl = false from by
              have := all_false_at (p := isTermB) (l := vl) (k := k) (by rw [HA.out]; exact hk8) ht'
              simp [validB, this]]
            rfl
        · obtain rfl : k = 8 := by omega
          have hall1 : vl.all isTermB = true := all_take_full (by rw [HA.out]; exact HALL.out)
          have HALL1 := Lib.hid hall1
          clear hall1 HALL CELL1
          go_wp2
          go_loop [31] (fun i => ∃ k : Nat, k ≤ 8 ∧ i = .int .i64 k ∧ (hl.take k).all heapB = true) (fun i => 8 - (intOf i).toNat)
          case atStart => exact ⟨0, by omega, rfl, rfl⟩
          case round =>
            obtain ⟨k, hk, rfl, hall⟩ := hrel
            have HALL := Lib.hid hall
            clear hall
            by_cases hk8 : k < 8
            · have hc := CELL2.out k hk8
              by_cases hn1 : gi hl k = -1
              · have hh : heapB (gi hl k) = true := by rw [hn1]; rfl
                have HH := Lib.hid hh
                have hne : (gi hl k != -1) = false := by rw [hn1]; rfl
                clear hh hn1
                go_wp2_with (go_at_call 75; refine (isValue_any _ _).mono ?_; rintro e w' ⟨rfl, rfl⟩)
                go_round
                case rel => exact ⟨k + 1, by omega, by go_num, all_take_succ (by rw [HB.out]; exact hk8) HALL.out HH.out⟩
                case measure => simp [intOf]; omega
              · have hne : (gi hl k != -1) = true := by simpa using hn1
                have hbe : (gi hl k == -1) = false := by simpa using hn1
                by_cases ht : isTermB (gi hl k) = true
                · have hh : heapB (gi hl k) = true := by rw [heapB, ht]; simp
                  have HH := Lib.hid hh
                  clear hh hn1 hbe
                  go_wp2_with (go_at_call 75; refine (isValue_any _ _).mono ?_; rintro e w' ⟨rfl, rfl⟩)
                  go_round
                  case rel => exact ⟨k + 1, by omega, by go_num, all_take_succ (by rw [HB.out]; exact hk8) HALL.out HH.out⟩
                  case measure => simp [intOf]; omega
                · have ht' : isTermB (gi hl k) = false := by simpa using ht
                  have hh : heapB (gi hl k) = false := by rw [heapB, ht', hbe]; rfl
                  have HH := Lib.hid hh
                  clear hh hn1 hbe ht
                  go_wp2_with (go_at_call 75; refine (isValue_any _ _).mono ?_; rintro e w' ⟨rfl, rfl⟩)
                  go_ret
                  refine ⟨?_, below_alloc _ _⟩
                  rw [show validB vl hl = false from by
                    have := all_false_at (p := heapB) (l := hl) (k := k) (by rw [HB.out]; exact hk8) HH.out
                    simp [validB, this]]
                  rfl
            · obtain rfl : k = 8 := by omega
              have hall2 : hl.all heapB = true := all_take_full (by rw [HB.out]; exact HALL.out)
              have HALL2 := Lib.hid hall2
              clear hall2 HALL
              go_wp2
              go_ret
              refine ⟨?_, below_alloc _ _⟩
              rw [show validB vl hl = true from by simp [validB, HA.out, HB.out]; exact ⟨by simpa using HALL1.out, by simpa using HALL2.out⟩]
              rfl
    · subst hf1 hf2
      have hB' : ((hl.length : Int) != 8) = true := by simp; omega
      have hv : validB vl hl = false := by simp [validB, hB]
      have HV := Lib.hid hv
      rw [hA]
      clear hA hB hv h1 h2
      go_enter Tryz.func29, Tryz.ntmps29
      go_wp2
      go_ret
      exact ⟨by rw [HV.out]; rfl, below_alloc _ _⟩
  · subst hf1 hf2
    have hA' : ((vl.length : Int) != 8) = true := by simp; omega
    have hv : validB vl hl = false := by simp [validB, hA]
    have HV := Lib.hid hv
    clear hA hv h1 h2
    go_enter Tryz.func29, Tryz.ntmps29
    go_wp2
    go_ret
    exact ⟨by rw [HV.out]; rfl, below_alloc _ _⟩
end Go.Proofs.YtgfnoinkajfndaaGreat
/- Walks: the reference's small functions on states. -/
namespace Go.Proofs.YtgfnoinkajfndaaGreat
open Go.RowKit

set_option maxHeartbeats 400000 in
theorem l2Has_any (vs hv : Value) (hs : List Int) (n : Int) (w : World) (h : RInts w hv hs) (hl : 8 ≤ hs.length) :
    Calls Tryz.prog 111 #[.agg #[vs, hv], .int .i64 n] w fun e w' => e = .returned (.bool (alB hs n)) ∧ Below w.heap.size w w' := by
  have hm := h.len
  unfold maxLen at hm
  by_cases hn1 : 1 ≤ n
  · by_cases hn8 : n ≤ 8
    · have ha : isAddrB n = true := isAddrB_iff.2 ⟨hn1, hn8⟩
      obtain ⟨k, rfl⟩ : ∃ k : Nat, n = (k : Int) + 1 := ⟨(n - 1).toNat, by omega⟩
      obtain ⟨b, o, cap, rfl, hc, hcm, hcell⟩ := h.ne (by omega)
      have hg := hcell k (by omega)
      have hk : (k : Int) < hs.length := by omega
      have hfin : ct hs ((k : Int) + 1) = gi hs k := by
        unfold ct; rw [if_pos ha]; congr 1; omega
      have HF := Lib.hid hfin
      have hbl := World.block_lt_of_cell? w _ hg
      clear hfin h hcell ha
      go_enter Tryz.func111, Tryz.ntmps111
      go_wp2
      go_ret
      exact ⟨by rw [alB, HF.out]; rfl, below_alloc _ _⟩
    · have ha : ct hs n = -1 := by unfold ct; rw [if_neg (by rw [isAddrB_iff]; omega)]
      have HF := Lib.hid ha
      clear ha
      obtain ⟨a2, c2, rfl⟩ := h.form
      go_enter Tryz.func111, Tryz.ntmps111
      go_wp2
      go_ret
      exact ⟨by rw [alB, HF.out]; rfl, below_alloc _ _⟩
  · have ha : ct hs n = -1 := by unfold ct; rw [if_neg (by rw [isAddrB_iff]; omega)]
    have HF := Lib.hid ha
    clear ha
    obtain ⟨a2, c2, rfl⟩ := h.form
    go_enter Tryz.func111, Tryz.ntmps111
    go_wp2
    go_ret
    exact ⟨by rw [alB, HF.out]; rfl, below_alloc _ _⟩
theorem RInts.cells {w : World} {v : Value} {l : List Int} (h : RInts w v l) :
    ∃ a cap, v = .slice a l.length cap ∧ ∀ i, i < l.length → ∃ b o, a = some ⟨b, o, none⟩ ∧ b < w.heap.size ∧ w.cell? ⟨b, o + i, none⟩ = some (.int .i64 (gi l i)) := by
  rcases h with ⟨a, cap, rfl, h, _⟩ | ⟨b, o, cap, rfl, h1, h2, h3⟩
  · exact ⟨a, cap, by rw [h], fun i hi => by omega⟩
  · exact ⟨_, cap, rfl, fun i hi => ⟨b, o, rfl, World.block_lt_of_cell? w _ (h3 i (by omega)), h3 i (by omega)⟩⟩

set_option maxHeartbeats 800000 in
theorem specStateValid_any (vs hv : Value) (vl hl : List Int) (w : World) (h1 : RInts w vs vl) (h2 : RInts w hv hl) :
    Calls Tryz.prog 70 #[.agg #[vs, hv]] w fun e w' => e = .returned (.bool (validB vl hl)) ∧ Below w.heap.size w w' := by
  have hm1 := h1.len
  have hm2 := h2.len
  unfold maxLen at hm1 hm2
  obtain ⟨a1, c1, rfl, hf1⟩ := h1.cells
  obtain ⟨a2, c2, rfl, hf2⟩ := h2.cells
  have CELL1 := Lib.hid hf1
  have CELL2 := Lib.hid hf2
  clear hf1 hf2 h1 h2
  go_enter Tryz.func70, Tryz.ntmps70
  go_wp2
  go_loopg [3] vl.length (fun q i wr => ∃ k : Nat, k + q = vl.length ∧ i = .int .i64 k ∧ (vl.take k).all isTermB = true ∧ wr = w.alloc (.cells #[.slice a1 vl.length c1, .slice a2 hl.length c2] 25))
  case atStart => exact ⟨0, by omega, rfl, rfl, rfl⟩
  case round =>
    obtain ⟨k, hk, rfl, hall, rfl⟩ := hrel
    have HALL := Lib.hid hall
    have HK := Lib.hid hk
    clear hall hk
    by_cases hk8 : k < vl.length
    · obtain ⟨b, o, rfl, hbl, hc⟩ := CELL1.out k hk8
      by_cases ht : isTermB (gi vl k) = true
      · go_wp2_with (go_at_call 107; refine (l2Addr_any _ _).mono ?_; rintro e w' ⟨rfl, rfl⟩)
        go_roundg (gk - 1)
        case rel => exact ⟨k + 1, by have := HK.out; omega, by go_num, all_take_succ hk8 HALL.out ht, rfl⟩
        case measure => have := HK.out; omega
      · have ht' : isTermB (gi vl k) = false := by simpa using ht
        clear ht
        go_wp2_with (go_at_call 107; refine (l2Addr_any _ _).mono ?_; rintro e w' ⟨rfl, rfl⟩)
        go_ret
        refine ⟨?_, below_alloc _ _⟩
        rw [show validB vl hl = false from by
          have := all_false_at (p := isTermB) (l := vl) (k := k) hk8 ht'
          simp [validB, this]]
        rfl
    · obtain rfl : k = vl.length := by have := HK.out; omega
      have hall1 : vl.all isTermB = true := all_take_full HALL.out
      have HALL1 := Lib.hid hall1
      clear hall1 HALL CELL1 HK hk8
      go_wp2
      go_loopg [4] hl.length (fun q i wr => ∃ k : Nat, k + q = hl.length ∧ i = .int .i64 k ∧ (hl.take k).all heapB = true ∧ wr = w.alloc (.cells #[.slice a1 vl.length c1, .slice a2 hl.length c2] 25))
      case atStart => exact ⟨0, by omega, rfl, rfl, rfl⟩
      case round =>
        obtain ⟨k, hk, rfl, hall, rfl⟩ := hrel
        have HALL := Lib.hid hall
        have HK := Lib.hid hk
        clear hall hk
        by_cases hk8 : k < hl.length
        · obtain ⟨b, o, rfl, hbl, hc⟩ := CELL2.out k hk8
          by_cases hn1 : gi hl k = -1
          · have hh : heapB (gi hl k) = true := by rw [hn1]; rfl
            have HH := Lib.hid hh
            have hne : (gi hl k != -1) = false := by rw [hn1]; rfl
            clear hh hn1
            go_wp2_with (go_at_call 107; refine (l2Addr_any _ _).mono ?_; rintro e w' ⟨rfl, rfl⟩)
            go_roundg (gk - 1)
            case rel => exact ⟨k + 1, by have := HK.out; omega, by go_num, all_take_succ hk8 HALL.out HH.out, rfl⟩
            case measure => have := HK.out; omega
          · have hne : (gi hl k != -1) = true := by simpa using hn1
            have hbe : (gi hl k == -1) = false := by simpa using hn1
            by_cases ht : isTermB (gi hl k) = true
            · have hh : heapB (gi hl k) = true := by rw [heapB, ht]; simp
              have HH := Lib.hid hh
              clear hh hn1 hbe
              go_wp2_with (go_at_call 107; refine (l2Addr_any _ _).mono ?_; rintro e w' ⟨rfl, rfl⟩)
              go_roundg (gk - 1)
              case rel => exact ⟨k + 1, by have := HK.out; omega, by go_num, all_take_succ hk8 HALL.out HH.out, rfl⟩
              case measure => have := HK.out; omega
            · have ht' : isTermB (gi hl k) = false := by simpa using ht
              have hh : heapB (gi hl k) = false := by rw [heapB, ht', hbe]; rfl
              have HH := Lib.hid hh
              clear hh hn1 hbe ht
              go_wp2_with (go_at_call 107; refine (l2Addr_any _ _).mono ?_; rintro e w' ⟨rfl, rfl⟩)
              go_ret
              refine ⟨?_, below_alloc _ _⟩
              rw [show validB vl hl = false from by
                have := all_false_at (p := heapB) (l := hl) (k := k) hk8 HH.out
                simp [validB, this]]
              rfl
        · obtain rfl : k = hl.length := by have := HK.out; omega
          have hall2 : hl.all heapB = true := all_take_full HALL.out
          have hfin : validB vl hl = (decide ((vl.length : Int) = 8) && decide ((hl.length : Int) = 8)) := by
            have e1 : ∀ n : Nat, (n == 8) = decide ((n : Int) = 8) := by
              intro n; rw [Bool.eq_iff_iff]; simp; omega
            unfold validB
            rw [HALL1.out, hall2, e1, e1]; simp
          have HF := Lib.hid hfin
          clear hall2 HALL hfin
          by_cases hA : (vl.length : Int) = 8
          · go_wp2
            go_ret
            refine ⟨?_, below_alloc _ _⟩
            rw [HF.out]; simp [hA]; rw [Bool.eq_iff_iff]; simp
          · have hA' : ((vl.length : Int) == 8) = false := by simpa using hA
            go_wp2
            go_ret
            refine ⟨?_, below_alloc _ _⟩
            rw [HF.out]; simp [hA]

end Go.Proofs.YtgfnoinkajfndaaGreat
