/- Laws for the walks of this seat: append of one integer to an owned slice; sets of small numbers as 16-bit words; selections of numbers. -/
import Derived.Test.YtnhhfbhhglhocaaRows
import Derived.Test.YtnhhfbhhglhocaaPure
import Derived.WalkSpells
import Derived.WalkLawsBesides
import Derived.Deep.AppendLies
namespace Go.Proofs.Ytnhhfbhhglhocaa
open Go.RowKit

theorem info_int : (Try.prog.info? 3).map (fun i => (i.zero, i.size, i.bytes)) = some (some (.int .i64 0), 1, 8) := by kernel_rfl

/-- `append(s, n)` where `s` is the call's own. -/
theorem app_int {ops : Array Oper} {rest : List Oper} {o : Oper} {a : Act} {Q : Exit → Act → World → Prop} (w : World) (hgd : o.guard = none) (s x : Operand)
    (ho : o.op = .call { callee := .builtin .append, args := #[s, x], argTypes := #[29, 29] })
    (B : Nat) (v : Value) (l : List Int) (hs : a.eval s = v) (hown : w.ownsRow B 3 1 v l.length (ints l))
    (ad : Addr) (n : Int) (hx : a.eval x = .slice (some ad) 1 1) (hnew : w.cell? ad = some (.int .i64 n)) (hlen : l.length < 1099511627776) (hB : B ≤ w.heap.size)
    (h : ∀ v' w', w'.ownsRow B 3 1 v' (l ++ [n]).length (ints (l ++ [n])) → Fr (fun k => some k = v.ownBlock) w w' → wpList Try.prog ops Q rest (a.put o.dst v') w') :
    wpList Try.prog ops Q (o :: rest) a w := by
  obtain ⟨i0, hi, hz0, hz1, hz2⟩ := info_parts info_int
  refine wpList_append_own w hgd s x 29 ho B 3 i0 (.int .i64 0) 1 8 Try.underlying29 hi hz0 hz1 hz2 rfl (by decide) v l.length (ints l) hs hown ad 1 1 [.int .i64 n] hx rfl ?_ ?_ ?_ ?_ hB ?_
  · intro j u hj
    cases j with
    | zero => simp at hj; subst hj; simpa [Addr.add] using hnew
    | succ j => simp at hj
  · intro u hu; simp at hu; subst hu; rfl
  · unfold maxLen; omega
  · omega
  · intro v' w' h1 h2 _
    refine h v' w' ?_ (grown_fr h2)
    simpa [ints] using h1

/-- The same; and where the new slice lies. -/
theorem app_int2 {ops : Array Oper} {rest : List Oper} {o : Oper} {a : Act} {Q : Exit → Act → World → Prop} (w : World) (hgd : o.guard = none) (s x : Operand)
    (ho : o.op = .call { callee := .builtin .append, args := #[s, x], argTypes := #[29, 29] })
    (B : Nat) (v : Value) (l : List Int) (hs : a.eval s = v) (hown : w.ownsRow B 3 1 v l.length (ints l))
    (ad : Addr) (n : Int) (hx : a.eval x = .slice (some ad) 1 1) (hnew : w.cell? ad = some (.int .i64 n)) (hlen : l.length < 1099511627776) (hB : B ≤ w.heap.size)
    (h : ∀ v' w', w'.ownsRow B 3 1 v' (l ++ [n]).length (ints (l ++ [n])) → Fr (fun k => some k = v.ownBlock) w w' → (∀ k, some k = v'.ownBlock → some k = v.ownBlock ∨ w.heap.size ≤ k) → wpList Try.prog ops Q rest (a.put o.dst v') w') :
    wpList Try.prog ops Q (o :: rest) a w := by
  obtain ⟨i0, hi, hz0, hz1, hz2⟩ := info_parts info_int
  refine wpList_append_lies w hgd s x 29 ho B 3 i0 (.int .i64 0) 1 8 Try.underlying29 hi hz0 hz1 hz2 rfl (by decide) v l.length (ints l) hs hown ad 1 1 [.int .i64 n] hx rfl ?_ ?_ (by decide) ?_ ?_ hB w.heap.size rfl ?_
  · intro j u hj
    cases j with
    | zero => simp at hj; subst hj; simpa [Addr.add] using hnew
    | succ j => simp at hj
  · intro u hu; simp at hu; subst hu; rfl
  · unfold maxLen; omega
  · omega
  · intro g cap w' h1 h2 h3 _
    refine h _ w' ?_ (grown_fr h2) ?_
    · simpa [ints] using h1
    · intro k hk
      simp [Value.ownBlock] at hk
      subst hk
      rcases h3 with h3 | h3
      · exact .inl h3.symm
      · exact .inr (by omega)

theorem own_lt {w : World} {B e sz n : Nat} {v : Value} {xs : List Value} (h : w.ownsRow B e sz v n xs) {k : Nat} (hk : some k = v.ownBlock) : B ≤ k ∧ k < w.heap.size := h.lt k hk.symm

theorem own_kept {w w' : World} {B e sz n : Nat} {v : Value} {xs : List Value} {S : Nat → Prop} (h : w.ownsRow B e sz v n xs) (hf : Fr S w w') (hs : ∀ k, some k = v.ownBlock → ¬ S k) : w'.ownsRow B e sz v n xs := by
  refine ⟨h.1, ?_⟩
  rcases h.2 with hn | ⟨g, cap, cur, rfl, hb, hgg, rest⟩
  · exact .inl hn
  · refine .inr ⟨g, cap, cur, rfl, hb, ?_, rest⟩
    rw [hf.block g (Array.getElem?_eq_some_iff.1 hgg).1 (hs g rfl)]
    exact hgg

theorem own_keep {w w' : World} {B e sz n : Nat} {v : Value} {xs : List Value} (h : w.ownsRow B e sz v n xs) (hf : Below w.heap.size w w') : w'.ownsRow B e sz v n xs :=
  own_kept h (Below.fr hf) fun _ _ h => h

theorem own_mono {w : World} {B B' e sz n : Nat} {v : Value} {xs : List Value} (h : w.ownsRow B e sz v n xs) (hB : B' ≤ B) : w.ownsRow B' e sz v n xs := by
  refine ⟨h.1, ?_⟩
  rcases h.2 with hn | ⟨g, cap, cur, hv, hb, rest⟩
  · exact .inl hn
  · exact .inr ⟨g, cap, cur, hv, by omega, rest⟩

/-- Behind an append to an owned row the blocks below its base are as they were. -/
theorem below_own {w0 w w' : World} {B e sz n : Nat} {v : Value} {xs : List Value} (h : w.ownsRow B e sz v n xs) (hf : Fr (fun k => some k = v.ownBlock) w w') (hb : Below B w0 w) (hB : B ≤ w.heap.size) : Below B w0 w' :=
  hb.trans (hf.below hB fun k hk hS => by have := (own_lt h hS).1; omega)

theorem cell_below {w w' : World} {B : Nat} {p : Addr} {v : Value} (hb : Below B w w') (hp : p.block < B) (hc : w.cell? p = some v) : w'.cell? p = some v := (hb.cell hp).trans hc

/-- A cell that holds something still holds it in a world that extends this one. -/
theorem cell_keep {w w' : World} {p : Addr} {v : Value} (hb : Below w.heap.size w w') (hc : w.cell? p = some v) : w'.cell? p = some v :=
  (hb.cell (World.block_lt_of_cell? w p hc)).trans hc

/-- The block of an owned row lies below the heap's end. -/
theorem own_ub {w : World} {B e sz n : Nat} {v : Value} {xs : List Value} (h : w.ownsRow B e sz v n xs) : ∀ k, some k = v.ownBlock → B ≤ k ∧ k < w.heap.size := fun _ hk => own_lt h hk

theorem cell_new1 (w : World) (v : Value) (e : TypeId) : (w.alloc (.cells #[v] e)).cell? ⟨w.heap.size, 0, none⟩ = some v := by
  simp

/-! ### Sets as words -/

theorem has_bit (m k : Nat) (hm : m < 65536) : (bits .and .u16 ((m : Int) / 2 ^ k) 1 == 1) = m.testBit k := by
  have e : ((m : Int) / 2 ^ k) = ((m / 2 ^ k : Nat) : Int) := by simp
  have h1 : m / 2 ^ k < 65536 := Nat.lt_of_le_of_lt (Nat.div_le_self _ _) hm
  have := u16_and_nat (m / 2 ^ k) 1 h1 (by decide)
  rw [e, show (1 : Int) = ((1 : Nat) : Int) from rfl, this]
  rw [Nat.and_one_is_mod, Nat.testBit_eq_decide_div_mod_eq]
  rw [Bool.eq_iff_iff]
  simp
  omega

theorem wrap_two_pow (k : Nat) (hk : k < 16) : IntKind.u16.wrap (2 ^ k) = ((2 ^ k : Nat) : Int) := by
  rw [IntKind.wrap_u16]
  have h : (2 ^ k : Nat) < 65536 := Nat.pow_lt_pow_right (by decide) hk
  have e : (2 : Int) ^ k = ((2 ^ k : Nat) : Int) := by simp
  rw [e]
  generalize 2 ^ k = x at h ⊢
  omega

theorem or_bit (m k : Nat) (hm : m < 65536) (hk : k < 16) : bits .or .u16 (m : Int) (IntKind.u16.wrap (2 ^ k)) = ((m ||| 2 ^ k : Nat) : Int) := by
  rw [wrap_two_pow k hk]
  exact u16_or_nat m (2 ^ k) hm (Nat.pow_lt_pow_right (by decide) hk)

theorem or_lt (m k : Nat) (hm : m < 65536) (hk : k < 16) : m ||| 2 ^ k < 65536 :=
  Nat.or_lt_two_pow (n := 16) hm (Nat.pow_lt_pow_right (by decide) hk)

theorem testBit_or_pow (m k j : Nat) : (m ||| 2 ^ k).testBit j = (m.testBit j || decide (k = j)) := by
  rw [Nat.testBit_or, Nat.testBit_two_pow]

/-! ### Selections -/

/-- The numbers from `a` on, `k` of them, that satisfy `p`. -/
def sel (p : Nat → Bool) (a k : Nat) : List Int := ((List.range' a k).filter p).map Int.ofNat

theorem sel_zero (p : Nat → Bool) (a : Nat) : sel p a 0 = [] := rfl
theorem sel_succ (p : Nat → Bool) (a k : Nat) : sel p a (k + 1) = sel p a k ++ (if p (a + k) = true then [((a + k : Nat) : Int)] else []) := by
  unfold sel
  rw [List.range'_concat, List.filter_append, List.map_append]
  congr 1
  simp only [Nat.one_mul, List.filter_cons, List.filter_nil]
  split <;> rfl
theorem sel_yes {p : Nat → Bool} {a k : Nat} (h : p (a + k) = true) : sel p a (k + 1) = sel p a k ++ [((a + k : Nat) : Int)] := by rw [sel_succ, if_pos h]
theorem sel_no {p : Nat → Bool} {a k : Nat} (h : p (a + k) = false) : sel p a (k + 1) = sel p a k := by rw [sel_succ, if_neg (by simp [h]), List.append_nil]
theorem sel_len (p : Nat → Bool) (a k : Nat) : (sel p a k).length ≤ k := by
  unfold sel
  rw [List.length_map]
  exact Nat.le_trans (List.length_filter_le _ _) (by simp)
theorem sel_congr {p q : Nat → Bool} {a k : Nat} (h : ∀ i, a ≤ i → i < a + k → p i = q i) : sel p a k = sel q a k := by
  unfold sel
  congr 1
  apply List.filter_congr
  intro x hx
  rw [List.mem_range'_1] at hx
  exact h x hx.1 hx.2
theorem mem_sel {p : Nat → Bool} {a k : Nat} {n : Int} : n ∈ sel p a k ↔ ∃ i : Nat, n = (i : Int) ∧ a ≤ i ∧ i < a + k ∧ p i = true := by
  unfold sel
  simp only [List.mem_map, List.mem_filter, List.mem_range'_1]
  constructor
  · rintro ⟨i, ⟨⟨h1, h2⟩, h3⟩, rfl⟩; exact ⟨i, rfl, h1, h2, h3⟩
  · rintro ⟨i, rfl, h1, h2, h3⟩; exact ⟨i, ⟨⟨h1, h2⟩, h3⟩, rfl⟩

end Go.Proofs.Ytnhhfbhhglhocaa
