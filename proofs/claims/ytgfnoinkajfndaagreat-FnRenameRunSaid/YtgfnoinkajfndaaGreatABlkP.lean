/- Plain: the texts of programs, and how they are read. -/
import Derived.Test.YtgfnoinkajfndaaGreatACmd8
import Derived.Test.YtgfnoinkajfndaaGreatAHed
import Derived.Test.YtgfnoinkajfndaaGreatARunP
set_option linter.unusedVariables false
namespace Go.Proofs.YtgfnoinkajfndaaGreat
open Go.RowKit

/-- The first line of a command. -/
def lineT {d : Nat} (c : Cm (d + 1)) : List UInt8 :=
  if c.kind = 1 then termT c.a ++ [58, 61] ++ termT c.b
  else if c.kind = 2 then termT c.a ++ [58, 61, 91] ++ termT c.b ++ [93]
  else if c.kind = 3 then [91] ++ termT c.a ++ [93, 58, 61] ++ termT c.b
  else if c.kind = 4 then [110, 101, 119, 32] ++ termT c.a
  else if c.kind = 5 then [102, 114, 101, 101, 32] ++ termT c.a
  else if c.kind = 6 then [105, 102, 32] ++ factX c.test
  else [119, 104, 105, 108, 101, 32] ++ factX c.test ++ [32, 119, 105, 116, 104, 32] ++ asnT c.inv
/-- The text of a command with its blocks, these by a function. -/
def cmdT {d : Nat} (F : List (Cm d) → List UInt8) (c : Cm (d + 1)) : List UInt8 :=
  lineT c ++ [10] ++ F c.body ++ (if c.els = [] then [] else [101, 108, 115, 101, 10] ++ F c.els) ++ (if c.kind = 6 ∨ c.kind = 7 then [101, 110, 100, 10] else [])
def progT : (d : Nat) → List (Cm d) → List UInt8
  | 0, _ => []
  | d + 1, l => l.flatMap (cmdT (progT d))
theorem asnT_len (a : Asn) : (asnT a).length ≤ 20 + 11 * a.1.length + 11 * a.2.length := by
  have h1 := factsT_len a.1
  have h2 := atomsT_len a.2
  rw [asnT, List.length_append]
  split
  · split
    · simp; omega
    · simp; omega
  · split
    · simp; omega
    · simp; omega
theorem lineT_len {d : Nat} {c : Cm (d + 1)} (h : headOk c = true) : (lineT c).length ≤ 22100 := by
  have h1 := termT_len c.a
  have h2 := termT_len c.b
  have h3 := factT_len c.test
  rw [lineT]
  split
  · simp; omega
  split
  · simp; omega
  split
  · simp; omega
  split
  · simp; omega
  split
  · simp; omega
  split
  · simp; omega
  · rename_i k1 k2 k3 k4 k5 k6
    have ha : asnB c.inv = true := by
      rw [headOk, if_neg k6] at h
      split at h
      · simp only [Bool.and_eq_true] at h; exact h.2.2.2.1
      · have := basic_kind h; omega
    have h4 := asnT_len c.inv
    have h5 := asnB_len ha
    simp; omega
theorem shape_count : ∀ (d : Nat) (l : List (Cm d)) (D : Int), shpB d l D = true → countC d l D = szC d l
  | 0, _, _, _ => rfl
  | d + 1, l, D, h => by
    have hs := shape_succ h
    rw [shpB, Bool.and_eq_true, Bool.or_eq_true, decide_eq_true_eq, decide_eq_true_eq] at h
    rw [countC, szC]
    split
    · have : ∀ c ∈ l, 1 + countC d (Cm.body c) (D - 1) + countC d (Cm.els c) (D - 1) = 1 + szC d (Cm.body c) + szC d (Cm.els c) := fun c hc => by
        rw [shape_count d _ _ (hs c hc).2.1, shape_count d _ _ (hs c hc).2.2]
      rw [List.map_congr_left this]
    · rcases h.1 with h1 | h1
      · omega
      · rw [List.eq_nil_of_length_eq_zero h1]; rfl
theorem progT_len : ∀ (d : Nat) (l : List (Cm d)) (D : Int), shpB d l D = true → (progT d l).length ≤ 22200 * szC d l
  | 0, _, _, _ => Nat.zero_le _
  | d + 1, l, D, h => by
    have hs := shape_succ h
    have key : ∀ m : List (Cm (d + 1)), (∀ c ∈ m, c ∈ l) → (m.flatMap (cmdT (progT d))).length ≤ 22200 * (m.map fun c => 1 + szC d (Cm.body c) + szC d (Cm.els c)).sum := by
      intro m
      induction m with
      | nil => intro _; simp
      | cons c r ih =>
        intro hm
        have h1 := ih fun x hx => hm x (List.mem_cons_of_mem _ hx)
        obtain ⟨k1, k2, k3⟩ := hs c (hm c (by simp))
        have h2 := lineT_len k1
        have h3 := progT_len d _ _ k2
        have h4 := progT_len d _ _ k3
        have h5 : (cmdT (progT d) c).length ≤ 22200 * (1 + szC d (Cm.body c) + szC d (Cm.els c)) := by
          rw [cmdT]
          split <;> split <;> simp <;> omega
        simp only [List.flatMap_cons, List.length_append, List.map_cons, List.sum_cons]
        omega
    exact key l fun c hc => hc
end Go.Proofs.YtgfnoinkajfndaaGreat
/- Plain: how the lines of a program are read (reference: l8Block). -/
set_option linter.unusedVariables false
namespace Go.Proofs.YtgfnoinkajfndaaGreat
open Go.RowKit

def endW : List UInt8 := [101, 110, 100]
def elseW : List UInt8 := [101, 108, 115, 101]
def goesOn (L : List (List UInt8)) (p : Int) : Bool := decide (0 ≤ p) && (decide (p + 1 < L.length) && (!decide (gd L p.toNat = endW) && !decide (gd L p.toNat = elseW)))
def elseAt (L : List (List UInt8)) (p : Int) : Bool := decide (0 ≤ p) && (decide (p < L.length) && decide (gd L p.toNat = elseW))
def upB (p : Int) : Int := if 0 ≤ p then p + 1 else p
abbrev Blk (d : Nat) : Type := List (Cm d) × Int
/-- A command that was read: its head, its blocks. -/
def mkH {d : Nat} (h : Int × Int × Int × Fact × Asn) (x y : List (Cm d)) : Cm (d + 1) := Cm.mk h.1 h.2.1 h.2.2.1 h.2.2.2.1 h.2.2.2.2 x y
def isBlk (h : Int × Int × Int × Fact × Asn) : Bool := decide (h.1 = 6) || decide (h.1 = 7)
def cmdF {d : Nat} (L : List (List UInt8)) (sub : Int → Option (Blk d)) (p : Int) : Option (Cm (d + 1) × Int) :=
  let h := headR (gd L p.toNat)
  if isBlk h = true then
    match sub (p + 1) with
    | none => none
    | some r => if elseAt L r.2 = true then
        match sub (r.2 + 1) with
        | none => none
        | some e => some (mkH h r.1 e.1, upB e.2)
      else some (mkH h r.1 [], upB r.2)
  else some (mkH h [] [], p + 1)
def seqF {d : Nat} (L : List (List UInt8)) (sub : Int → Option (Blk d)) : Nat → Int → Blk (d + 1)
  | 0, p => ([], p)
  | n + 1, p => if goesOn L p = true then
      match cmdF L sub p with
      | none => ([], -1)
      | some x => (x.1 :: (seqF L sub n x.2).1, (seqF L sub n x.2).2)
    else ([], p)
def blockF (L : List (List UInt8)) : (d : Nat) → Int → Blk (d + 1)
  | 0, p => seqF L (fun _ => none) (L.length + 1) p
  | d + 1, p => seqF L (fun q => some (blockF L d q)) (L.length + 1) p
/-- Where reading ends. -/
def subOk (L : List (List UInt8)) (d : Nat) {e : Nat} (sub : Int → Option (Blk e)) : Prop := ∀ (p : Int) (r : Blk e), p ≤ (L.length : Int) → sub p = some r → (-1 ≤ p → -1 ≤ r.2) ∧ (r.2 < 0 ∨ p ≤ r.2) ∧ r.2 ≤ L.length + d
theorem goesOn_iff {L : List (List UInt8)} {p : Int} (h : goesOn L p = true) : 0 ≤ p ∧ p + 1 < L.length := by
  simp only [goesOn, Bool.and_eq_true, decide_eq_true_eq] at h; exact ⟨h.1, h.2.1⟩
theorem elseAt_iff {L : List (List UInt8)} {p : Int} (h : elseAt L p = true) : 0 ≤ p ∧ p < L.length := by
  simp only [elseAt, Bool.and_eq_true, decide_eq_true_eq] at h; exact ⟨h.1, h.2.1⟩
theorem upB_le {p : Int} : upB p ≤ p + 1 ∧ (p < 0 → upB p = p) ∧ (0 ≤ p → upB p = p + 1) := by
  rw [upB]; split <;> omega
theorem cmdF_ok {d e : Nat} {L : List (List UInt8)} {sub : Int → Option (Blk e)} (hs : subOk L d sub) {p : Int} (hp : goesOn L p = true) {x : Cm (e + 1) × Int} (h : cmdF L sub p = some x) :
    -1 ≤ x.2 ∧ (x.2 < 0 ∨ p + 1 ≤ x.2) ∧ x.2 ≤ L.length + d + 1 := by
  have hp1 := goesOn_iff hp
  rw [cmdF] at h
  split at h
  · cases h1 : sub (p + 1) with
    | none => rw [h1] at h; cases h
    | some r =>
      obtain ⟨a1, a2, a3⟩ := hs _ _ (by omega) h1
      rw [h1] at h
      simp only at h
      split at h
      · rename_i he
        have he1 := elseAt_iff he
        cases h2 : sub (r.2 + 1) with
        | none => rw [h2] at h; cases h
        | some s =>
          obtain ⟨b1, b2, b3⟩ := hs _ _ (by omega) h2
          rw [h2] at h
          obtain rfl := Option.some.inj h
          have hu := upB_le (p := s.2)
          show -1 ≤ upB s.2 ∧ _ ∧ upB s.2 ≤ _
          refine ⟨?_, ?_, ?_⟩
          · by_cases h0 : 0 ≤ s.2
            · have := hu.2.2 h0; omega
            · have := hu.2.1 (by omega); omega
          · by_cases h0 : 0 ≤ s.2
            · have := hu.2.2 h0; right; show p + 1 ≤ upB s.2; omega
            · left; show upB s.2 < 0; have := hu.2.1 (by omega); omega
          · omega
      · obtain rfl := Option.some.inj h
        have hu := upB_le (p := r.2)
        show -1 ≤ upB r.2 ∧ _ ∧ upB r.2 ≤ _
        refine ⟨?_, ?_, ?_⟩
        · by_cases h0 : 0 ≤ r.2
          · have := hu.2.2 h0; omega
          · have := hu.2.1 (by omega); omega
        · by_cases h0 : 0 ≤ r.2
          · have := hu.2.2 h0; right; show p + 1 ≤ upB r.2; omega
          · left; show upB r.2 < 0; have := hu.2.1 (by omega); omega
        · omega
  · obtain rfl := Option.some.inj h
    exact ⟨by show -1 ≤ p + 1; omega, .inr (Int.le_refl _), by show p + 1 ≤ _; omega⟩
theorem seqF_ok {d e : Nat} {L : List (List UInt8)} {sub : Int → Option (Blk e)} (hs : subOk L d sub) : ∀ (n : Nat) (p : Int), p ≤ L.length + d + 1 →
    (-1 ≤ p → -1 ≤ (seqF L sub n p).2) ∧ ((seqF L sub n p).2 < 0 ∨ p ≤ (seqF L sub n p).2) ∧ (seqF L sub n p).2 ≤ L.length + d + 1 ∧ (seqF L sub n p).1.length ≤ n
  | 0, p, hp => ⟨fun h => h, .inr (Int.le_refl _), hp, Nat.le_refl _⟩
  | n + 1, p, hp => by
    rw [seqF]
    split
    · rename_i hg
      cases h : cmdF L sub p with
      | none => exact ⟨fun _ => Int.le_refl _, .inl (show (-1 : Int) < 0 by decide), by show (-1 : Int) ≤ _; omega, Nat.zero_le _⟩
      | some x =>
        obtain ⟨a1, a2, a3⟩ := cmdF_ok hs hg h
        obtain ⟨b1, b2, b3, b4⟩ := seqF_ok hs n x.2 a3
        have hg1 := goesOn_iff hg
        refine ⟨fun _ => b1 a1, ?_, b3, by simp; omega⟩
        show (seqF L sub n x.2).2 < 0 ∨ p ≤ (seqF L sub n x.2).2
        rcases a2 with a2 | a2
        · by_cases hx : (seqF L sub n x.2).2 < 0
          · exact .inl hx
          · -- a position before the start is kept
            have : (seqF L sub n x.2).2 = x.2 := by
              cases n with
              | zero => rfl
              | succ n =>
                rw [seqF, if_neg (fun h => by have := goesOn_iff h; omega)]
            omega
        · omega
    · exact ⟨fun h => h, .inr (Int.le_refl _), hp, Nat.zero_le _⟩
theorem block_ok (L : List (List UInt8)) : ∀ (d : Nat) (p : Int), p ≤ L.length → (-1 ≤ p → -1 ≤ (blockF L d p).2) ∧ ((blockF L d p).2 < 0 ∨ p ≤ (blockF L d p).2) ∧ (blockF L d p).2 ≤ L.length + (d + 1) ∧ (blockF L d p).1.length ≤ L.length + 1
  | 0, p, hp => by
    have h := seqF_ok (d := 0) (L := L) (sub := fun _ => (none : Option (Blk 0))) (fun p r _ h => by cases h) (L.length + 1) p (by omega)
    rw [blockF]
    exact ⟨h.1, h.2.1, by have := h.2.2.1; omega, h.2.2.2⟩
  | d + 1, p, hp => by
    have h := seqF_ok (d := d + 1) (L := L) (sub := fun q => some (blockF L d q)) (fun p r hp h => by
      obtain rfl := Option.some.inj h
      have := block_ok L d p hp
      exact ⟨this.1, this.2.1, by have := this.2.2.1; omega⟩) (L.length + 1) p (by omega)
    rw [blockF]
    exact ⟨h.1, h.2.1, by have := h.2.2.1; omega, h.2.2.2⟩
end Go.Proofs.YtgfnoinkajfndaaGreat
