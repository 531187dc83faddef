/- Base1: texts Voc, Pure, Laws, W1, W2, Quiet, W3, Reach, W4, W5, W6 in one. -/
import Derived.WalkKit
import Derived.Lib.Hide
import Derived.Deep.QuietTactic
import Derived.BigQuiet
import Derived.Test.YtapoillhgimdiaaRows
import Derived.WalkSpells
import Derived.WalkLawsBesides
import Derived.Deep.AppendLies
import Derived.Deep.LoopGhost
/- Vocabulary of the proofs of this seat: slices that can be read in a world, frames between worlds. No program is in sight. -/
namespace Go.Proofs.Ytapoillhgimdiaa
open Go.RowKit

/-- `v` is a slice of `n` elements of `sz` cells each; the cells from its start on hold `c 0, c 1, ..`. -/
def RSl (w : World) (sz : Nat) (v : Value) (n : Nat) (c : Nat → Value) : Prop :=
  (∃ a cap, v = .slice a 0 cap ∧ n = 0 ∧ cap ≤ maxLen ∧ (a = none → cap = 0)) ∨
  ∃ b o cap, v = .slice (some ⟨b, o, none⟩) n cap ∧ n ≤ cap ∧ cap ≤ maxLen ∧ ∀ i, i < n * sz → w.cell? ⟨b, o + i, none⟩ = some (c i)

/-- The i-th integer of a list. -/
def gi (l : List Int) (i : Nat) : Int := l.getD i 0
theorem gi_of {l : List Int} {i : Nat} (h : i < l.length) : gi l i = l[i] := by simp [gi, h]
theorem gi_mem {l : List Int} {i : Nat} (h : i < l.length) : gi l i ∈ l := by rw [gi_of h]; exact List.getElem_mem h

/-- `v` reads as the list `l` of integers. -/
def RInts (w : World) (v : Value) (l : List Int) : Prop := RSl w 1 v l.length (fun i => .int .i64 (gi l i))

/-- The blocks of `w` that are not in `S` are the same in `w'`. -/
structure Fr (S : Nat → Prop) (w w' : World) : Prop where
  os : w'.os = w.os
  tape : w'.tape = w.tape
  output : w'.output = w.output
  size : w.heap.size ≤ w'.heap.size
  block : ∀ k, k < w.heap.size → ¬ S k → w'.heap[k]? = w.heap[k]?

theorem Fr.refl (S : Nat → Prop) (w : World) : Fr S w w := ⟨rfl, rfl, rfl, Nat.le_refl _, fun _ _ _ => rfl⟩

theorem Fr.trans {S : Nat → Prop} {a b c : World} (h : Fr S a b) (k : Fr S b c) : Fr S a c :=
  ⟨k.os.trans h.os, k.tape.trans h.tape, k.output.trans h.output, Nat.le_trans h.size k.size,
    fun i hi hs => (k.block i (Nat.lt_of_lt_of_le hi h.size) hs).trans (h.block i hi hs)⟩

theorem Fr.mono {S S' : Nat → Prop} {a b : World} (h : Fr S a b) (hs : ∀ k, k < a.heap.size → S k → S' k) : Fr S' a b :=
  ⟨h.os, h.tape, h.output, h.size, fun i hi hn => h.block i hi fun hk => hn (hs i hi hk)⟩

theorem Below.fr {w w' : World} (h : Below w.heap.size w w') : Fr (fun _ => False) w w' :=
  ⟨h.os, h.tape, h.output, h.size, fun k hk _ => h.block k hk⟩

theorem Fr.below {w w' : World} {S : Nat → Prop} {B : Nat} (h : Fr S w w') (hB : B ≤ w.heap.size) (hs : ∀ k, k < B → ¬ S k) : Below B w w' :=
  ⟨h.os, h.tape, h.output, h.size, fun k hk => h.block k (Nat.lt_of_lt_of_le hk hB) (hs k hk)⟩

theorem Below.chg {w w' : World} {B : Nat} (h : Below B w w') : Fr (fun k => B ≤ k) w w' :=
  ⟨h.os, h.tape, h.output, h.size, fun k _ hn => h.block k (by omega)⟩

theorem grown_fr {w w' : World} {r : Option Nat} (h : w.grownBy w' r) : Fr (fun k => some k = r) w w' :=
  ⟨h.os, h.tape, h.output, h.size, fun k hk hn => h.block k hk hn⟩

theorem Fr.cell {S : Nat → Prop} {w w' : World} (h : Fr S w w') {p : Addr} {v : Value} (hp : ¬ S p.block) (hc : w.cell? p = some v) : w'.cell? p = some v :=
  (World.cell?_of_block (w := w) (h.block p.block (World.block_lt_of_cell? w p hc) hp)).trans hc

theorem RSl.kept {S : Nat → Prop} {w w' : World} {sz n : Nat} {v : Value} {c : Nat → Value} (h : RSl w sz v n c) (hf : Fr S w w')
    (hs : ∀ k, v.ownBlock = some k → ¬ S k) : RSl w' sz v n c := by
  rcases h with h | ⟨b, o, cap, rfl, h1, h2, h3⟩
  · exact .inl h
  · exact .inr ⟨b, o, cap, rfl, h1, h2, fun i hi => hf.cell (hs b rfl) (h3 i hi)⟩

theorem RInts.kept {S : Nat → Prop} {w w' : World} {v : Value} {l : List Int} (h : RInts w v l) (hf : Fr S w w')
    (hs : ∀ k, v.ownBlock = some k → ¬ S k) : RInts w' v l := RSl.kept h hf hs

theorem RSl.keep {w w' : World} {sz n : Nat} {v : Value} {c : Nat → Value} (h : RSl w sz v n c) (hf : Below w.heap.size w w') : RSl w' sz v n c :=
  h.kept (Below.fr hf) fun _ _ h => h

theorem RInts.keep {w w' : World} {v : Value} {l : List Int} (h : RInts w v l) (hf : Below w.heap.size w w') : RInts w' v l := RSl.keep h hf

theorem below_alloc (w : World) (o : Obj) : Below w.heap.size w (w.alloc o) := (Below.refl _ _).alloc (Nat.le_refl _) o
theorem below_drew (w : World) : Below w.heap.size w w.drew := (Below.refl _ _).drew

/-- Frames, one behind the other. -/
theorem bt {a b c : World} (h : Below a.heap.size a b) (k : Below b.heap.size b c) : Below a.heap.size a c := h.trans (k.mono h.size)

theorem RInts.alloc {w : World} {v : Value} {l : List Int} (h : RInts w v l) (o : Obj) : RInts (w.alloc o) v l := h.keep (below_alloc w o)

/-- An owned row can be read. -/
theorem own_rsl {w : World} {base : Nat} {e : TypeId} {sz n : Nat} {v : Value} {xs : List Value} (h : w.ownsRow base e sz v n xs) :
    RSl w sz v n (fun i => xs.getD i undef) := by
  obtain ⟨hl, h⟩ := h
  rcases h with ⟨rfl, rfl⟩ | ⟨g, cap, cur, rfl, hb, hg, hn, hc, hs, ht⟩
  · exact .inl ⟨none, 0, rfl, rfl, Nat.zero_le _, fun _ => rfl⟩
  · refine .inr ⟨g, 0, cap, rfl, hn, hc, fun i hi => ?_⟩
    rw [Nat.zero_add, cell_of_row w g i cur e (0, 0) hg, ← ht]
    have h1 : cur.toList[i]? = some (cur.toList[i]'(by rw [Array.length_toList, hs]; exact Nat.lt_of_lt_of_le hi (Nat.mul_le_mul_right _ hn))) := List.getElem?_eq_getElem _
    simp only [List.getD_eq_getElem?_getD, List.getElem?_take, hi, if_true]
    rw [h1]
    simp

theorem RSl.congr {w : World} {sz n : Nat} {v : Value} {c c' : Nat → Value} (h : RSl w sz v n c) (hc : ∀ i, i < n * sz → c i = c' i) : RSl w sz v n c' := by
  rcases h with h | ⟨b, o, cap, rfl, h1, h2, h3⟩
  · exact .inl h
  · exact .inr ⟨b, o, cap, rfl, h1, h2, fun i hi => (h3 i hi).trans (by rw [hc i hi])⟩

abbrev ints (l : List Int) : List Value := l.map (Value.int .i64)

theorem own_ints {w : World} {base : Nat} {e : TypeId} {v : Value} {n : Nat} {l : List Int} (h : w.ownsRow base e 1 v n (ints l)) : RInts w v l ∧ n = l.length := by
  have hn : n = l.length := by have := h.1; simpa using this.symm
  subst hn
  refine ⟨(own_rsl h).congr fun i hi => ?_, rfl⟩
  have hi' : i < l.length := by omega
  simp [ints, hi', gi]

theorem RInts.form {w : World} {v : Value} {l : List Int} (h : RInts w v l) : ∃ a cap, v = .slice a l.length cap := by
  rcases h with ⟨a, cap, rfl, h, _⟩ | ⟨b, o, cap, rfl, _⟩
  · exact ⟨a, cap, by rw [h]⟩
  · exact ⟨_, _, rfl⟩

theorem RInts.len {w : World} {v : Value} {l : List Int} (h : RInts w v l) : l.length ≤ maxLen := by
  rcases h with ⟨a, cap, rfl, h, _⟩ | ⟨b, o, cap, rfl, h1, h2, _⟩
  · rw [h]; exact Nat.zero_le _
  · omega

theorem RInts.nil (w : World) : RInts w (.slice none 0 0) [] := .inl ⟨none, 0, rfl, rfl, Nat.zero_le _, fun _ => rfl⟩

end Go.Proofs.Ytapoillhgimdiaa
/- The Lean functions that the small Go functions compute. -/
namespace Go.Proofs.Ytapoillhgimdiaa

def isAddrB (n : Int) : Bool := decide (1 ≤ n) && decide (n ≤ 8)
def isTermB (n : Int) : Bool := decide (0 ≤ n) && decide (n ≤ 8)
/-- The value of a term. -/
def tv (vs : List Int) (t : Int) : Int := if t = 0 then 0 else gi vs (t - 1).toNat
/-- The content of a cell, or -1. -/
def ct (hs : List Int) (n : Int) : Int := if isAddrB n = true then gi hs (n - 1).toNat else -1
def heapB (n : Int) : Bool := (n == -1) || isTermB n
def validB (vs hs : List Int) : Bool := (vs.length == 8) && ((hs.length == 8) && (vs.all isTermB && hs.all heapB))

theorem isAddrB_iff {n : Int} : isAddrB n = true ↔ 1 ≤ n ∧ n ≤ 8 := by simp [isAddrB]
theorem isTermB_iff {n : Int} : isTermB n = true ↔ 0 ≤ n ∧ n ≤ 8 := by simp [isTermB]
theorem heapB_iff {n : Int} : heapB n = true ↔ -1 ≤ n ∧ n ≤ 8 := by
  simp [heapB, isTermB]; omega

end Go.Proofs.Ytapoillhgimdiaa
/- Laws for the walks of this seat: append of one integer to an owned slice; sets of small numbers as 16-bit words; selections of numbers. -/
namespace Go.Proofs.Ytapoillhgimdiaa
open Go.RowKit

theorem info_int : (Try.prog.info? 3).map (fun i => (i.zero, i.size, i.bytes)) = some (some (.int .i64 0), 1, 8) := by kernel_rfl

/-- `append(s, n)` where `s` is the call's own. -/
theorem app_int {ops : Array Oper} {rest : List Oper} {o : Oper} {a : Act} {Q : Exit → Act → World → Prop} (w : World) (hgd : o.guard = none) (s x : Operand)
    (ho : o.op = .call { callee := .builtin .append, args := #[s, x], argTypes := #[41, 41] })
    (B : Nat) (v : Value) (l : List Int) (hs : a.eval s = v) (hown : w.ownsRow B 3 1 v l.length (ints l))
    (ad : Addr) (n : Int) (hx : a.eval x = .slice (some ad) 1 1) (hnew : w.cell? ad = some (.int .i64 n)) (hlen : l.length < 1099511627776) (hB : B ≤ w.heap.size)
    (h : ∀ v' w', w'.ownsRow B 3 1 v' (l ++ [n]).length (ints (l ++ [n])) → Fr (fun k => some k = v.ownBlock) w w' → wpList Try.prog ops Q rest (a.put o.dst v') w') :
    wpList Try.prog ops Q (o :: rest) a w := by
  obtain ⟨i0, hi, hz0, hz1, hz2⟩ := info_parts info_int
  refine wpList_append_own w hgd s x 41 ho B 3 i0 (.int .i64 0) 1 8 Try.underlying41 hi hz0 hz1 hz2 rfl (by decide) v l.length (ints l) hs hown ad 1 1 [.int .i64 n] hx rfl ?_ ?_ ?_ ?_ hB ?_
  · intro j u hj
    cases j with
    | zero => simp at hj; subst hj; simpa [Addr.add] using hnew
    | succ j => simp at hj
  · intro u hu; simp at hu; subst hu; rfl
  · unfold maxLen; omega
  · omega
  · intro v' w' h1 h2 _
    refine h v' w' ?_ (grown_fr h2)
    simpa [ints] using h1

theorem own_lt {w : World} {B e sz n : Nat} {v : Value} {xs : List Value} (h : w.ownsRow B e sz v n xs) {k : Nat} (hk : some k = v.ownBlock) : B ≤ k ∧ k < w.heap.size := h.lt k hk.symm

theorem own_kept {w w' : World} {B e sz n : Nat} {v : Value} {xs : List Value} {S : Nat → Prop} (h : w.ownsRow B e sz v n xs) (hf : Fr S w w') (hs : ∀ k, some k = v.ownBlock → ¬ S k) : w'.ownsRow B e sz v n xs := by
  refine ⟨h.1, ?_⟩
  rcases h.2 with hn | ⟨g, cap, cur, rfl, hb, hgg, rest⟩
  · exact .inl hn
  · refine .inr ⟨g, cap, cur, rfl, hb, ?_, rest⟩
    rw [hf.block g (Array.getElem?_eq_some_iff.1 hgg).1 (hs g rfl)]
    exact hgg

theorem own_keep {w w' : World} {B e sz n : Nat} {v : Value} {xs : List Value} (h : w.ownsRow B e sz v n xs) (hf : Below w.heap.size w w') : w'.ownsRow B e sz v n xs :=
  own_kept h (Below.fr hf) fun _ _ h => h

theorem own_mono {w : World} {B B' e sz n : Nat} {v : Value} {xs : List Value} (h : w.ownsRow B e sz v n xs) (hB : B' ≤ B) : w.ownsRow B' e sz v n xs := by
  refine ⟨h.1, ?_⟩
  rcases h.2 with hn | ⟨g, cap, cur, hv, hb, rest⟩
  · exact .inl hn
  · exact .inr ⟨g, cap, cur, hv, by omega, rest⟩

/-- Behind an append to an owned row the blocks below its base are as they were. -/
theorem below_own {w0 w w' : World} {B e sz n : Nat} {v : Value} {xs : List Value} (h : w.ownsRow B e sz v n xs) (hf : Fr (fun k => some k = v.ownBlock) w w') (hb : Below B w0 w) (hB : B ≤ w.heap.size) : Below B w0 w' :=
  hb.trans (hf.below hB fun k hk hS => by have := (own_lt h hS).1; omega)

theorem cell_below {w w' : World} {B : Nat} {p : Addr} {v : Value} (hb : Below B w w') (hp : p.block < B) (hc : w.cell? p = some v) : w'.cell? p = some v := (hb.cell hp).trans hc

/-- A cell that holds something still holds it in a world that extends this one. -/
theorem cell_keep {w w' : World} {p : Addr} {v : Value} (hb : Below w.heap.size w w') (hc : w.cell? p = some v) : w'.cell? p = some v :=
  (hb.cell (World.block_lt_of_cell? w p hc)).trans hc

theorem cell_new1 (w : World) (v : Value) (e : TypeId) : (w.alloc (.cells #[v] e)).cell? ⟨w.heap.size, 0, none⟩ = some v := by
  simp

/-! ### Sets as words -/

theorem has_bit (m k : Nat) (hm : m < 65536) : (bits .and .u16 ((m : Int) / 2 ^ k) 1 == 1) = m.testBit k := by
  have e : ((m : Int) / 2 ^ k) = ((m / 2 ^ k : Nat) : Int) := by simp
  have h1 : m / 2 ^ k < 65536 := Nat.lt_of_le_of_lt (Nat.div_le_self _ _) hm
  have := u16_and_nat (m / 2 ^ k) 1 h1 (by decide)
  rw [e, show (1 : Int) = ((1 : Nat) : Int) from rfl, this]
  rw [Nat.and_one_is_mod, Nat.testBit_eq_decide_div_mod_eq]
  rw [Bool.eq_iff_iff]
  simp
  omega

theorem wrap_two_pow (k : Nat) (hk : k < 16) : IntKind.u16.wrap (2 ^ k) = ((2 ^ k : Nat) : Int) := by
  rw [IntKind.wrap_u16]
  have h : (2 ^ k : Nat) < 65536 := Nat.pow_lt_pow_right (by decide) hk
  have e : (2 : Int) ^ k = ((2 ^ k : Nat) : Int) := by simp
  rw [e]
  generalize 2 ^ k = x at h ⊢
  omega

theorem or_bit (m k : Nat) (hm : m < 65536) (hk : k < 16) : bits .or .u16 (m : Int) (IntKind.u16.wrap (2 ^ k)) = ((m ||| 2 ^ k : Nat) : Int) := by
  rw [wrap_two_pow k hk]
  exact u16_or_nat m (2 ^ k) hm (Nat.pow_lt_pow_right (by decide) hk)

theorem or_lt (m k : Nat) (hm : m < 65536) (hk : k < 16) : m ||| 2 ^ k < 65536 :=
  Nat.or_lt_two_pow (n := 16) hm (Nat.pow_lt_pow_right (by decide) hk)

theorem testBit_or_pow (m k j : Nat) : (m ||| 2 ^ k).testBit j = (m.testBit j || decide (k = j)) := by
  rw [Nat.testBit_or, Nat.testBit_two_pow]

/-! ### Selections -/

/-- The numbers from `a` on, `k` of them, that satisfy `p`. -/
def sel (p : Nat → Bool) (a k : Nat) : List Int := ((List.range' a k).filter p).map Int.ofNat

theorem sel_succ (p : Nat → Bool) (a k : Nat) : sel p a (k + 1) = sel p a k ++ (if p (a + k) = true then [((a + k : Nat) : Int)] else []) := by
  unfold sel
  rw [List.range'_concat, List.filter_append, List.map_append]
  congr 1
  simp only [Nat.one_mul, List.filter_cons, List.filter_nil]
  split <;> rfl
theorem sel_yes {p : Nat → Bool} {a k : Nat} (h : p (a + k) = true) : sel p a (k + 1) = sel p a k ++ [((a + k : Nat) : Int)] := by rw [sel_succ, if_pos h]
theorem sel_no {p : Nat → Bool} {a k : Nat} (h : p (a + k) = false) : sel p a (k + 1) = sel p a k := by rw [sel_succ, if_neg (by simp [h]), List.append_nil]
theorem sel_len (p : Nat → Bool) (a k : Nat) : (sel p a k).length ≤ k := by
  unfold sel
  rw [List.length_map]
  exact Nat.le_trans (List.length_filter_le _ _) (by simp)
end Go.Proofs.Ytapoillhgimdiaa
/- Walks: the small functions on terms, addresses and states. -/
namespace Go.Proofs.Ytapoillhgimdiaa
open Go.RowKit

set_option maxHeartbeats 400000 in
theorem isAddr_any (n : Int) (w : World) :
    Calls Try.prog 244 #[.int .i64 n] w fun e w' => e = .returned (.bool (isAddrB n)) ∧ w = w' := by
  by_cases h1 : 1 ≤ n
  · by_cases h2 : n ≤ 8
    all_goals
      go_enter Try.func244, Try.ntmps244
      go_wp2
      go_ret
      simp [isAddrB, h1, h2]
  · go_enter Try.func244, Try.ntmps244
    go_wp2
    go_ret
    simp [isAddrB]; omega
set_option maxHeartbeats 400000 in
theorem isTerm_any (n : Int) (w : World) :
    Calls Try.prog 216 #[.int .i64 n] w fun e w' => e = .returned (.bool (isTermB n)) ∧ w = w' := by
  by_cases h1 : 0 ≤ n
  · by_cases h2 : n ≤ 8
    all_goals
      go_enter Try.func216, Try.ntmps216
      go_wp2
      go_ret
      simp [isTermB, h1, h2]
  · go_enter Try.func216, Try.ntmps216
    go_wp2
    go_ret
    simp [isTermB]; omega
set_option maxHeartbeats 400000 in
theorem isValue_any (n : Int) (w : World) :
    Calls Try.prog 207 #[.int .i64 n] w fun e w' => e = .returned (.bool (isTermB n)) ∧ w = w' := by
  by_cases h1 : 0 ≤ n
  · by_cases h2 : n ≤ 8
    all_goals
      go_enter Try.func207, Try.ntmps207
      go_wp2
      go_ret
      simp [isTermB, h1, h2]
  · go_enter Try.func207, Try.ntmps207
    go_wp2
    go_ret
    simp [isTermB]; omega
set_option maxHeartbeats 400000 in
theorem l1Is_any (n : Int) (w : World) :
    Calls Try.prog 217 #[.int .i64 n] w fun e w' => e = .returned (.bool (isTermB n)) ∧ w = w' := by
  by_cases h1 : 0 ≤ n
  · by_cases h2 : n ≤ 8
    all_goals
      go_enter Try.func217, Try.ntmps217
      go_wp2
      go_ret
      simp [isTermB, h1, h2]
  · go_enter Try.func217, Try.ntmps217
    go_wp2
    go_ret
    simp [isTermB]; omega
/-- A cell of a readable list. -/
theorem RInts.at {w : World} {b o cap : Nat} {l : List Int} {n : Nat} (h : RInts w (.slice (some ⟨b, o, none⟩) n cap) l) (i : Nat) (hi : i < l.length) :
    n = l.length ∧ w.cell? ⟨b, o + i, none⟩ = some (.int .i64 (gi l i)) := by
  rcases h with ⟨_, _, _, h, _⟩ | ⟨b', o', cap', h, h1, h2, h3⟩
  · omega
  · simp only [Value.slice.injEq, Option.some.injEq, Addr.mk.injEq, and_true] at h
    obtain ⟨⟨rfl, rfl⟩, rfl, rfl⟩ := h
    exact ⟨rfl, h3 i (by omega)⟩

/-- A readable list that is not empty lies in memory. -/
theorem RInts.ne {w : World} {v : Value} {l : List Int} (h : RInts w v l) (hl : 0 < l.length) :
    ∃ b o cap, v = .slice (some ⟨b, o, none⟩) l.length cap ∧ l.length ≤ cap ∧ cap ≤ maxLen ∧ ∀ i, i < l.length → w.cell? ⟨b, o + i, none⟩ = some (.int .i64 (gi l i)) := by
  rcases h with ⟨_, _, _, h, _⟩ | ⟨b, o, cap, rfl, h1, h2, h3⟩
  · omega
  · exact ⟨b, o, cap, rfl, h1, h2, fun i hi => h3 i (by omega)⟩

set_option maxHeartbeats 400000 in
theorem termValue_any (v : Value) (l : List Int) (t : Int) (w : World) (h : RInts w v l) (h0 : 0 ≤ t) (h1 : t ≤ l.length) :
    Calls Try.prog 218 #[v, .int .i64 t] w fun e w' => e = .returned (.int .i64 (tv l t)) ∧ w = w' := by
  by_cases ht : t = 0
  · subst ht
    go_enter Try.func218, Try.ntmps218
    go_wp2
    go_ret
    simp [tv]
  · obtain ⟨n, rfl⟩ := Int.eq_ofNat_of_zero_le h0
    obtain ⟨k, rfl⟩ : ∃ k, n = k + 1 := ⟨n - 1, by omega⟩
    have hm := h.len
    unfold maxLen at hm
    obtain ⟨b, o, cap, rfl, hc, hcm, hcell⟩ := h.ne (by omega)
    have hg := hcell k (by omega)
    have hk : (k : Int) < l.length := by omega
    have e1 : (((k + 1 : Nat) : Int)) = (k : Int) + 1 := by omega
    rw [e1]
    clear e1 h0 h1 h ht hcell
    go_enter Try.func218, Try.ntmps218
    go_wp2
    go_ret
    have e2 : ((k : Int) + 1 - 1).toNat = k := by omega
    have e3 : ¬ (k : Int) + 1 = 0 := by omega
    simp [tv, e3]
end Go.Proofs.Ytapoillhgimdiaa
/- Walks: cells of a state; sets of cells. -/
namespace Go.Proofs.Ytapoillhgimdiaa
open Go.RowKit

set_option maxHeartbeats 400000 in
theorem content_any (vs hv : Value) (hs : List Int) (n : Int) (w : World) (h : RInts w hv hs) (hl : 8 ≤ hs.length) :
    Calls Try.prog 243 #[.agg #[vs, hv], .int .i64 n] w fun e w' => e = .returned (.int .i64 (ct hs n)) ∧ Below w.heap.size w w' := by
  have hm := h.len
  unfold maxLen at hm
  by_cases ha : isAddrB n = true
  · have hn := isAddrB_iff.1 ha
    obtain ⟨k, rfl⟩ : ∃ k : Nat, n = (k : Int) + 1 := ⟨(n - 1).toNat, by omega⟩
    obtain ⟨b, o, cap, rfl, hc, hcm, hcell⟩ := h.ne (by omega)
    have hg := hcell k (by omega)
    have hk : (k : Int) < hs.length := by omega
    have hfin : ct hs ((k : Int) + 1) = gi hs k := by
      unfold ct; rw [if_pos ha]; congr 1; omega
    have HF := Lib.hid hfin
    have hbl := World.block_lt_of_cell? w _ hg
    clear hfin h hcell
    go_enter Try.func243, Try.ntmps243
    go_wp2_with (go_at_call 244; refine (isAddr_any _ _).mono ?_; rintro e w' ⟨rfl, rfl⟩)
    go_ret
    exact ⟨by rw [HF.out]; rfl, below_alloc _ _⟩
  · have ha' : isAddrB n = false := by simpa using ha
    clear ha
    go_enter Try.func243, Try.ntmps243
    go_wp2_with (go_at_call 244; refine (isAddr_any _ _).mono ?_; rintro e w' ⟨rfl, rfl⟩)
    go_ret
    exact ⟨by simp [ct, ha'], below_alloc _ _⟩
def alB (hs : List Int) (n : Int) : Bool := decide (0 ≤ ct hs n)
set_option maxHeartbeats 400000 in
theorem allocated_any (vs hv : Value) (hs : List Int) (n : Int) (w : World) (h : RInts w hv hs) (hl : 8 ≤ hs.length) :
    Calls Try.prog 215 #[.agg #[vs, hv], .int .i64 n] w fun e w' => e = .returned (.bool (alB hs n)) ∧ Below w.heap.size w w' := by
  go_enter Try.func215, Try.ntmps215
  go_wp2_with fail
  refine (content_any _ _ hs _ _ (h.alloc _) hl).mono ?_
  rintro e w' ⟨rfl, hb⟩
  go_wp2
  go_ret
  exact ⟨by simp [alB], (below_alloc _ _).trans (hb.mono (by simp))⟩
end Go.Proofs.Ytapoillhgimdiaa
/- Regions that draw their order, whose operations only read and whose callees may make memory of their own but change nothing that was there: one walk in the order of the text. -/
namespace Go.Proofs.Ytapoillhgimdiaa
open Go.RowKit

/-- A world that extends `w`. -/
structure Ext (w : World) where
  to : World
  below : Below w.heap.size w to
instance (w : World) : Nonempty (Ext w) := ⟨⟨w, Below.refl _ _⟩⟩
def ext (w : World) (x : Ext w) : World := x.to
@[simp, go_sem] theorem cell?_ext (w : World) (x : Ext w) (p : Addr) (h : p.block < w.heap.size) : (ext w x).cell? p = w.cell? p := x.below.cell h

theorem ext_c {P : Program} {f : FuncId} {args : Array Value} {w : World} {x : Ext w} {v : Value}
    (h : Calls P f args (ext w x) fun e w' => e = .returned v ∧ Below (ext w x).heap.size (ext w x) w') : Calls P f args (ext w x) fun e w'' => e = .returned v ∧ ∃ y, w'' = ext w y :=
  h.mono fun _ w'' ⟨he, hb⟩ => ⟨he, ⟨w'', bt x.below hb⟩, rfl⟩

theorem ext_same {P : Program} {f : FuncId} {args : Array Value} {w : World} {x : Ext w} {v : Value}
    (h : Calls P f args (ext w x) fun e w' => e = .returned v ∧ ext w x = w') : Calls P f args (ext w x) fun e w'' => e = .returned v ∧ ∃ y, w'' = ext w y :=
  h.mono fun _ _ ⟨he, hb⟩ => ⟨he, x, hb.symm⟩

theorem RInts.ext {w : World} {v : Value} {l : List Int} (h : RInts w v l) (x : Ext w) : RInts (ext w x) v l := h.keep x.below

theorem wp_region_ext {P : Program} {id : Nat} {Q : Exit → Act → World → Prop} {a : Act} {w : World} {l : List Oper} (hm : P.follows .mixedOrders = true) (hB : Region.lexB .any l.toArray = true)
    (h : wpQuiet P l.toArray (fun w' => ∃ x, w' = Go.Proofs.Ytapoillhgimdiaa.ext w x) (fun a' => ∀ w', Below w.heap.size w w' → Q .normal a' w') l a) : (Code.region id l.toArray true).wp P Q a w := by
  refine wp_region_quiet (C := fun w' => ∃ x, w' = Go.Proofs.Ytapoillhgimdiaa.ext w x) hm hB ⟨⟨_, below_drew w⟩, rfl⟩ ?_
  have key : ∀ (l' : List Oper) (a : Act), wpQuiet P l.toArray (fun w' => ∃ x, w' = Go.Proofs.Ytapoillhgimdiaa.ext w x) (fun a' => ∀ w', Below w.heap.size w w' → Q .normal a' w') l' a →
      wpQuiet P l.toArray (fun w' => ∃ x, w' = Go.Proofs.Ytapoillhgimdiaa.ext w x) (fun a' => ∀ w', (∃ x, w' = Go.Proofs.Ytapoillhgimdiaa.ext w x) → Q .normal a' w') l' a := by
    intro l'
    induction l' with
    | nil => intro a h w' ⟨x, hx⟩; subst hx; exact h _ x.below
    | cons o l' ih =>
      intro a h
      unfold wpQuiet at h ⊢
      split
      · rename_i hw; rw [if_pos hw] at h; exact Oper.quiet_mono (fun a => ih a) h
      · rename_i hw; rw [if_neg hw] at h; exact ih _ h
  simpa using key l a h

end Go.Proofs.Ytapoillhgimdiaa
/- Walks: sets of addresses; reached cells. -/
namespace Go.Proofs.Ytapoillhgimdiaa
open Go.RowKit

/-- The set holds the address. -/
def hasB (m : Nat) (n : Int) : Bool := isAddrB n && m.testBit n.toNat

set_option maxHeartbeats 400000 in
theorem cellHas_any (m : Nat) (n : Int) (w : World) (hm : m < 65536) :
    Calls Try.prog 214 #[.int .u16 m, .int .i64 n] w fun e w' => e = .returned (.bool (hasB m n)) ∧ w = w' := by
  by_cases ha : isAddrB n = true
  · have hn := isAddrB_iff.1 ha
    obtain ⟨k, rfl⟩ := Int.eq_ofNat_of_zero_le (show 0 ≤ n by omega)
    have h8 : k ≤ 8 := by omega
    have hfin := has_bit m k hm
    have HF := Lib.hid hfin
    clear hfin
    go_enter Try.func214, Try.ntmps214
    go_wp2_with (go_at_call 244; refine (isAddr_any _ _).mono ?_; rintro e w' ⟨rfl, rfl⟩)
    go_ret
    exact ⟨by simp [HF.out, hasB, ha], rfl⟩
  · have ha' : isAddrB n = false := by simpa using ha
    go_enter Try.func214, Try.ntmps214
    go_wp2_with (go_at_call 244; refine (isAddr_any _ _).mono ?_; rintro e w' ⟨rfl, rfl⟩)
    go_ret
    exact ⟨by simp [ha', hasB], rfl⟩
theorem cellHas_val (m : Nat) (n : Int) (w : World) (b : Bool) (hm : m < 65536) (h : hasB m n = b) :
    Calls Try.prog 214 #[.int .u16 m, .int .i64 n] w fun e w' => e = .returned (.bool b) ∧ w = w' := by
  have := cellHas_any m n w hm
  rwa [h] at this
set_option maxHeartbeats 400000 in
theorem cellList_any (m : Nat) (w : World) (hm : m < 65536) :
    Calls Try.prog 156 #[.int .u16 m] w fun e w' => ∃ v, e = .returned v ∧ w'.ownsRow w.heap.size 3 1 v (sel (fun n => m.testBit n) 1 8).length (ints (sel (fun n => m.testBit n) 1 8)) ∧ Below w.heap.size w w' := by
  go_enter Try.func156, Try.ntmps156
  go_wp2
  go_loopw [3, 4] (fun v i wr => ∃ k : Nat, k ≤ 8 ∧ i = .int .i64 (k + 1 : Nat) ∧ wr.ownsRow w.heap.size 3 1 v (sel (fun n => m.testBit n) 1 k).length (ints (sel (fun n => m.testBit n) 1 k)) ∧ Below w.heap.size w wr) (fun _ i _ => 9 - (intOf i).toNat)
  case atStart => exact ⟨0, by omega, rfl, World.ownsRow_nil _ _ _ _, Below.refl _ _⟩
  case round =>
    obtain ⟨k, hk, rfl, hown, hb⟩ := hrel
    have hs := hb.size
    by_cases hk8 : k < 8
    · have e1 : (((k + 1 : Nat) : Int)) = (k : Int) + 1 := by omega
      have hh : hasB m ((k : Int) + 1) = m.testBit (1 + k) := by
        have : isAddrB ((k : Int) + 1) = true := isAddrB_iff.2 (by omega)
        simp only [hasB, this, Bool.true_and]; congr 1; omega
      rw [e1]
      clear e1
      by_cases hbit : m.testBit (1 + k) = true
      · rw [hbit] at hh
        have hl := sel_len (fun n => m.testBit n) 1 k
        have hy := sel_yes (p := fun n => m.testBit n) (a := 1) (k := k) hbit
        have e2 : (((1 + k : Nat) : Int)) = (k : Int) + 1 := by omega
        rw [e2] at hy
        have HY := Lib.hid hy
        clear hy e2 hbit
        go_wp2_with (first | (go_at_call 214; refine (cellHas_any _ _ _ hm).mono ?_; rintro e w' ⟨rfl, rfl⟩) | (at_builtin; refine app_int _ rfl _ _ rfl w.heap.size _ _ rfl (own_keep hown (below_alloc _ _)) ⟨wr.heap.size, 0, none⟩ _ rfl (cell_new1 _ _ _) (by omega) (by simp; omega) ?_; intro v' w1 hown1 hf1))
        go_roundw
        case rel => exact ⟨k + 1, by omega, by go_num, by rw [HY.out]; exact hown1, below_own (own_keep hown (below_alloc _ _)) hf1 (hb.trans ((below_alloc _ _).mono hs)) (by simp; omega)⟩
        case measure => simp [intOf]; omega
      · have hbit' : m.testBit (1 + k) = false := by simpa using hbit
        rw [hbit'] at hh
        have hy := sel_no (p := fun n => m.testBit n) (a := 1) (k := k) hbit'
        have HY := Lib.hid hy
        clear hy hbit hbit'
        go_wp2_with (first | (go_at_call 214; refine (cellHas_any _ _ _ hm).mono ?_; rintro e w' ⟨rfl, rfl⟩))
        go_roundw
        case rel => exact ⟨k + 1, by omega, by go_num, by rw [HY.out]; exact hown, hb⟩
        case measure => simp [intOf]; omega
    · obtain rfl : k = 8 := by omega
      go_wp2
      go_ret
      exact ⟨_, rfl, hown, hb⟩
end Go.Proofs.Ytapoillhgimdiaa
/- Reached cells, in plain Lean. -/
namespace Go.Proofs.Ytapoillhgimdiaa

/-- How many addresses a set has. -/
def cnt (m : Nat) : Nat := ((List.range' 1 8).filter (fun n => m.testBit n)).length
theorem al_addr {hs : List Int} {v : Int} (h : alB hs v = true) : 1 ≤ v ∧ v ≤ 8 := by
  unfold alB ct at h
  split at h
  · rename_i h1; exact isAddrB_iff.1 h1
  · simp at h

/-- Used addresses as a set. -/
def usedN (hs : List Int) : Nat → Nat
  | 0 => 0
  | k + 1 => if alB hs ((k : Int) + 1) = true then usedN hs k ||| 2 ^ (k + 1) else usedN hs k
theorem usedN_lt (hs : List Int) : ∀ k, k ≤ 8 → usedN hs k < 65536
  | 0, _ => by simp [usedN]
  | k + 1, h => by
    unfold usedN
    split
    · exact or_lt _ _ (usedN_lt hs k (by omega)) (by omega)
    · exact usedN_lt hs k (by omega)
theorem usedN_bit (hs : List Int) : ∀ k j, (usedN hs k).testBit j = (decide (1 ≤ j ∧ j ≤ k) && alB hs (j : Int))
  | 0, j => by simp [usedN]; omega
  | k + 1, j => by
    have ih := usedN_bit hs k j
    unfold usedN
    by_cases hj : j = k + 1
    · subst hj
      have : ((k + 1 : Nat) : Int) = (k : Int) + 1 := by omega
      rw [this]
      have e0 : decide (1 ≤ k + 1 ∧ k + 1 ≤ k) = false := by simp
      rw [e0, Bool.false_and] at ih
      split
      · rename_i h; rw [testBit_or_pow, ih, h]; simp
      · rename_i h; rw [ih]; simp at h; simp [h]
    · have e1 : decide (1 ≤ j ∧ j ≤ k + 1) = decide (1 ≤ j ∧ j ≤ k) := by
        rw [decide_eq_decide]; omega
      rw [e1]
      split
      · rw [testBit_or_pow, ih]; simp; intro h; omega
      · exact ih
end Go.Proofs.Ytapoillhgimdiaa
/- Walks: used and reached cells; valid states. -/
namespace Go.Proofs.Ytapoillhgimdiaa
open Go.RowKit

set_option maxHeartbeats 400000 in
theorem usedIn_any (vs hv : Value) (hs : List Int) (w : World) (h : RInts w hv hs) (hl : hs.length = 8) :
    Calls Try.prog 146 #[.agg #[vs, hv]] w fun e w' => e = .returned (.int .u16 (usedN hs 8)) ∧ Below w.heap.size w w' := by
  go_enter Try.func146, Try.ntmps146
  go_wp2
  go_loopw [3, 4] (fun x i wr => ∃ k : Nat, k ≤ 8 ∧ x = .int .u16 (usedN hs k) ∧ i = .int .i64 (k + 1 : Nat) ∧ Below w.heap.size w wr ∧ wr.cell? ⟨w.heap.size, 0, none⟩ = some vs ∧ wr.cell? ⟨w.heap.size, 1, none⟩ = some hv ∧ w.heap.size < wr.heap.size) (fun _ i _ => 9 - (intOf i).toNat)
  case atStart => exact ⟨0, by omega, rfl, rfl, below_alloc _ _, by simp, by simp, by simp⟩
  case round =>
    obtain ⟨k, hk, rfl, rfl, hb, hc0, hc1, hsz⟩ := hrel
    by_cases hk8 : k < 8
    · have e1 : (((k + 1 : Nat) : Int)) = (k : Int) + 1 := by omega
      rw [e1]
      clear e1
      have hlt := usedN_lt hs k (by omega)
      by_cases hal : alB hs ((k : Int) + 1) = true
      · have hy : usedN hs (k + 1) = usedN hs k ||| 2 ^ (k + 1) := by rw [usedN, if_pos hal]
        have ho := or_bit (usedN hs k) (k + 1) hlt (by omega)
        have HY := Lib.hid hy
        have HO := Lib.hid ho
        clear hy ho
        go_wp2_with fail
        refine (allocated_any _ _ hs _ _ (h.keep hb) (by omega)).mono ?_
        rintro e w' ⟨rfl, hb'⟩
        go_wp2
        go_roundw
        case rel => exact ⟨k + 1, by omega, by rw [HY.out, ← HO.out], by go_num, hb.trans (hb'.mono hb.size), cell_below hb' (by simp; omega) hc0, cell_below hb' (by simp; omega) hc1, by have := hb'.size; omega⟩
        case measure => simp [intOf]; omega
      · have hal' : alB hs ((k : Int) + 1) = false := by simpa using hal
        have hy : usedN hs (k + 1) = usedN hs k := by rw [usedN, if_neg hal]
        have HY := Lib.hid hy
        clear hy hal
        go_wp2_with fail
        refine (allocated_any _ _ hs _ _ (h.keep hb) (by omega)).mono ?_
        rintro e w' ⟨rfl, hb'⟩
        go_wp2
        go_roundw
        case rel => exact ⟨k + 1, by omega, by rw [HY.out], by go_num, hb.trans (hb'.mono hb.size), cell_below hb' (by simp; omega) hc0, cell_below hb' (by simp; omega) hc1, by have := hb'.size; omega⟩
        case measure => simp [intOf]; omega
    · obtain rfl : k = 8 := by omega
      go_wp2
      go_ret
      exact ⟨rfl, hb⟩
end Go.Proofs.Ytapoillhgimdiaa
/- Walks: valid states. -/
namespace Go.Proofs.Ytapoillhgimdiaa
open Go.RowKit

theorem all_take_succ {p : Int → Bool} {l : List Int} {k : Nat} (h : k < l.length) (ht : (l.take k).all p = true) (hp : p (gi l k) = true) : (l.take (k + 1)).all p = true := by
  rw [List.take_succ_eq_append_getElem h, List.all_append, ht]
  simpa [gi_of h] using hp

theorem all_false_at {p : Int → Bool} {l : List Int} {k : Nat} (h : k < l.length) (hp : p (gi l k) = false) : l.all p = false := by
  rw [List.all_eq_false]
  refine ⟨l[k], List.getElem_mem h, ?_⟩
  simpa [gi_of h] using hp

theorem all_take_full {p : Int → Bool} {l : List Int} (ht : (l.take l.length).all p = true) : l.all p = true := by
  rwa [List.take_length] at ht

theorem valid_len {vl hl : List Int} (h : validB vl hl = true) : vl.length = 8 ∧ hl.length = 8 := by
  simp [validB] at h; exact ⟨h.1, h.2.1⟩
set_option maxHeartbeats 800000 in
theorem stateValid_any (vs hv : Value) (vl hl : List Int) (w : World) (h1 : RInts w vs vl) (h2 : RInts w hv hl) :
    Calls Try.prog 142 #[.agg #[vs, hv]] w fun e w' => e = .returned (.bool (validB vl hl)) ∧ Below w.heap.size w w' := by
  have hm1 := h1.len
  have hm2 := h2.len
  unfold maxLen at hm1 hm2
  obtain ⟨a1, c1, hf1⟩ := h1.form
  obtain ⟨a2, c2, hf2⟩ := h2.form
  by_cases hA : vl.length = 8
  · by_cases hB : hl.length = 8
    · obtain ⟨b1, o1, cap1, rfl, _, _, cell1⟩ := h1.ne (by omega)
      obtain ⟨b2, o2, cap2, rfl, _, _, cell2⟩ := h2.ne (by omega)
      have k1 := World.block_lt_of_cell? w _ (cell1 0 (by omega))
      have k2 := World.block_lt_of_cell? w _ (cell2 0 (by omega))
      clear hf1 hf2 h1 h2
      rw [hA] at cell1 ⊢
      rw [hB] at cell2 ⊢
      have CELL1 := Lib.hid cell1
      have CELL2 := Lib.hid cell2
      have HA := Lib.hid hA
      have HB := Lib.hid hB
      clear cell1 cell2 hA hB
      go_enter Try.func142, Try.ntmps142
      go_wp2
      go_loop [20] (fun i => ∃ k : Nat, k ≤ 8 ∧ i = .int .i64 k ∧ (vl.take k).all isTermB = true) (fun i => 8 - (intOf i).toNat)
      case atStart => exact ⟨0, by omega, rfl, rfl⟩
      case round =>
        obtain ⟨k, hk, rfl, hall⟩ := hrel
        have HALL := Lib.hid hall
        clear hall
        by_cases hk8 : k < 8
        · have hc := CELL1.out k hk8
          by_cases ht : isTermB (gi vl k) = true
          · go_wp2_with (go_at_call 207; refine (isValue_any _ _).mono ?_; rintro e w' ⟨rfl, rfl⟩)
            go_round
            case rel => exact ⟨k + 1, by omega, by go_num, all_take_succ (by rw [HA.out]; exact hk8) HALL.out ht⟩
            case measure => simp [intOf]; omega
          · have ht' : isTermB (gi vl k) = false := by simpa using ht
            clear ht
            go_wp2_with (go_at_call 207; refine (isValue_any _ _).mono ?_; rintro e w' ⟨rfl, rfl⟩)
            go_ret
            refine ⟨?_, below_alloc _ _⟩
            rw [show validB vl hl = false from by
              have := all_false_at (p := isTermB) (l := vl) (k := k) (by rw [HA.out]; exact hk8) ht'
              simp [validB, this]]
            rfl
        · obtain rfl : k = 8 := by omega
          have hall1 : vl.all isTermB = true := all_take_full (by rw [HA.out]; exact HALL.out)
          have HALL1 := Lib.hid hall1
          clear hall1 HALL CELL1
          go_wp2
          go_loop [31] (fun i => ∃ k : Nat, k ≤ 8 ∧ i = .int .i64 k ∧ (hl.take k).all heapB = true) (fun i => 8 - (intOf i).toNat)
          case atStart => exact ⟨0, by omega, rfl, rfl⟩
          case round =>
            obtain ⟨k, hk, rfl, hall⟩ := hrel
            have HALL := Lib.hid hall
            clear hall
            by_cases hk8 : k < 8
            · have hc := CELL2.out k hk8
              by_cases hn1 : gi hl k = -1
              · have hh : heapB (gi hl k) = true := by rw [hn1]; rfl
                have HH := Lib.hid hh
                have hne : (gi hl k != -1) = false := by rw [hn1]; rfl
                clear hh hn1
                go_wp2_with (go_at_call 207; refine (isValue_any _ _).mono ?_; rintro e w' ⟨rfl, rfl⟩)
                go_round
                case rel => exact ⟨k + 1, by omega, by go_num, all_take_succ (by rw [HB.out]; exact hk8) HALL.out HH.out⟩
                case measure => simp [intOf]; omega
              · have hne : (gi hl k != -1) = true := by simpa using hn1
                have hbe : (gi hl k == -1) = false := by simpa using hn1
                by_cases ht : isTermB (gi hl k) = true
                · have hh : heapB (gi hl k) = true := by rw [heapB, ht]; simp
                  have HH := Lib.hid hh
                  clear hh hn1 hbe
                  go_wp2_with (go_at_call 207; refine (isValue_any _ _).mono ?_; rintro e w' ⟨rfl, rfl⟩)
                  go_round
                  case rel => exact ⟨k + 1, by omega, by go_num, all_take_succ (by rw [HB.out]; exact hk8) HALL.out HH.out⟩
                  case measure => simp [intOf]; omega
                · have ht' : isTermB (gi hl k) = false := by simpa using ht
                  have hh : heapB (gi hl k) = false := by rw [heapB, ht', hbe]; rfl
                  have HH := Lib.hid hh
                  clear hh hn1 hbe ht
                  go_wp2_with (go_at_call 207; refine (isValue_any _ _).mono ?_; rintro e w' ⟨rfl, rfl⟩)
                  go_ret
                  refine ⟨?_, below_alloc _ _⟩
                  rw [show validB vl hl = false from by
                    have := all_false_at (p := heapB) (l := hl) (k := k) (by rw [HB.out]; exact hk8) HH.out
                    simp [validB, this]]
                  rfl
            · obtain rfl : k = 8 := by omega
              have hall2 : hl.all heapB = true := all_take_full (by rw [HB.out]; exact HALL.out)
              have HALL2 := Lib.hid hall2
              clear hall2 HALL
              go_wp2
              go_ret
              refine ⟨?_, below_alloc _ _⟩
              rw [show validB vl hl = true from by simp [validB, HA.out, HB.out]; exact ⟨by simpa using HALL1.out, by simpa using HALL2.out⟩]
              rfl
    · subst hf1 hf2
      have hB' : ((hl.length : Int) != 8) = true := by simp; omega
      have hv : validB vl hl = false := by simp [validB, hB]
      have HV := Lib.hid hv
      rw [hA]
      clear hA hB hv h1 h2
      go_enter Try.func142, Try.ntmps142
      go_wp2
      go_ret
      exact ⟨by rw [HV.out]; rfl, below_alloc _ _⟩
  · subst hf1 hf2
    have hA' : ((vl.length : Int) != 8) = true := by simp; omega
    have hv : validB vl hl = false := by simp [validB, hA]
    have HV := Lib.hid hv
    clear hA hv h1 h2
    go_enter Try.func142, Try.ntmps142
    go_wp2
    go_ret
    exact ⟨by rw [HV.out]; rfl, below_alloc _ _⟩
end Go.Proofs.Ytapoillhgimdiaa
/- Walks: the reference's small functions on states. -/
namespace Go.Proofs.Ytapoillhgimdiaa
open Go.RowKit

theorem RInts.cells {w : World} {v : Value} {l : List Int} (h : RInts w v l) :
    ∃ a cap, v = .slice a l.length cap ∧ ∀ i, i < l.length → ∃ b o, a = some ⟨b, o, none⟩ ∧ b < w.heap.size ∧ w.cell? ⟨b, o + i, none⟩ = some (.int .i64 (gi l i)) := by
  rcases h with ⟨a, cap, rfl, h, _⟩ | ⟨b, o, cap, rfl, h1, h2, h3⟩
  · exact ⟨a, cap, by rw [h], fun i hi => by omega⟩
  · exact ⟨_, cap, rfl, fun i hi => ⟨b, o, rfl, World.block_lt_of_cell? w _ (h3 i (by omega)), h3 i (by omega)⟩⟩

/-! ### Flags -/
/-- The bools that stand for a set of numbers up to 8. -/
def flagsOf (m : Nat) : List Value := (List.range 9).map fun n => .bool (m.testBit n)
theorem flags_at (m k : Nat) (h : k < 9) : (flagsOf m)[k]? = some (.bool (m.testBit k)) := by simp [flagsOf, h]
theorem flags_set (m k : Nat) (_h : k < 9) : (flagsOf m).set k (.bool true) = flagsOf (m ||| 2 ^ k) := by
  apply List.ext_getElem?
  intro i
  rw [List.getElem?_set]
  by_cases hi : i < 9
  · rw [flags_at _ _ hi, flags_at _ _ hi, testBit_or_pow]
    by_cases hk : k = i
    · subst hk; simp [flagsOf, hi]
    · simp [hk]
  · have h1 : (flagsOf m)[i]? = none := by simp [flagsOf]; omega
    have h2 : (flagsOf (m ||| 2 ^ k))[i]? = none := by simp [flagsOf]; omega
    rw [h1, h2]
    by_cases hk : k = i
    · subst hk; omega
    · simp [hk]

end Go.Proofs.Ytapoillhgimdiaa
