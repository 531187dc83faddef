/- The plain law of matching: what is found is what a check accepts, and only that. -/
import Derived.Test.YthoingdcmdhllaaCs2
namespace Go.Proofs.Ythoingdcmdhllaa
open Go.RowKit

/-- Atoms that begin at different classes other than that of nil. -/
def Apart (l : List Atom) : Prop := (∀ y ∈ l, y.2.1 ≠ 0) ∧ l.Pairwise fun y z => y.2.1 ≠ z.2.1
theorem apart_inj {l : List Atom} (h : Apart l) {i j : Nat} (hi : i < l.length) (hj : j < l.length) (e : (gd l i).2.1 = (gd l j).2.1) : i = j := by
  have h2 := List.pairwise_iff_getElem.1 h.2
  rw [gd_of hi, gd_of hj] at e
  rcases Nat.lt_trichotomy i j with hlt | he | hlt
  · exact absurd e (h2 i j hi hj hlt)
  · exact he
  · exact absurd e.symm (h2 j i hj hi hlt)
theorem apart_ne {l : List Atom} (h : Apart l) {i : Nat} (hi : i < l.length) : (gd l i).2.1 ≠ 0 := h.1 _ (gd_mem hi)
theorem markM_some {n : Nat} : ∀ {us : List Int} {m m' : Nat}, markM n us m = some m' → (∀ k ∈ us, 0 ≤ k ∧ k < (n : Int)) ∧ us.Nodup ∧ (∀ k ∈ us, m.testBit k.toNat = false) ∧ ∀ j : Nat, m'.testBit j = (m.testBit j || decide ((j : Int) ∈ us))
  | [], m, m', h => by
    simp only [markM, Option.some.injEq] at h
    subst h
    simp
  | k :: r, m, m', h => by
    rw [markM] at h
    by_cases h1 : k < 0 ∨ (n : Int) ≤ k
    · rw [if_pos h1] at h; cases h
    rw [if_neg h1] at h
    by_cases h2 : m.testBit k.toNat = true
    · rw [if_pos h2] at h; cases h
    rw [if_neg h2] at h
    obtain ⟨a1, a2, a3, a4⟩ := markM_some h
    rw [Bool.not_eq_true] at h2
    have hk : ((k.toNat : Nat) : Int) = k := by omega
    have hnr : k ∉ r := fun hr => by
      have := a3 k hr
      rw [testBit_or_pow, Bool.or_eq_false_iff] at this
      simp at this
    refine ⟨fun x hx => ?_, List.nodup_cons.2 ⟨hnr, a2⟩, fun x hx => ?_, fun j => ?_⟩
    · rcases List.mem_cons.1 hx with rfl | hx
      · omega
      · exact a1 x hx
    · rcases List.mem_cons.1 hx with rfl | hx
      · exact h2
      · have := a3 x hx
        rw [testBit_or_pow, Bool.or_eq_false_iff] at this
        exact this.1
    · rw [a4, testBit_or_pow, Bool.or_assoc]
      congr 1
      rw [Bool.eq_iff_iff, Bool.or_eq_true, decide_eq_true_eq, decide_eq_true_eq, decide_eq_true_eq, List.mem_cons]
      constructor
      · rintro (h | h)
        · left; omega
        · exact .inr h
      · rintro (h | h)
        · left; omega
        · exact .inr h
theorem markM_mk {n : Nat} : ∀ {us : List Int} {m : Nat}, (∀ k ∈ us, 0 ≤ k ∧ k < (n : Int)) → us.Nodup → (∀ k ∈ us, m.testBit k.toNat = false) → ∃ m', markM n us m = some m'
  | [], m, _, _, _ => ⟨m, rfl⟩
  | k :: r, m, h1, h2, h3 => by
    have hk := h1 k List.mem_cons_self
    rw [markM, if_neg (by omega), if_neg (by rw [h3 k List.mem_cons_self]; decide)]
    rw [List.nodup_cons] at h2
    refine markM_mk (fun x hx => h1 x (List.mem_cons_of_mem _ hx)) h2.2 fun x hx => ?_
    have hx1 := h1 x (List.mem_cons_of_mem _ hx)
    rw [testBit_or_pow, h3 x (List.mem_cons_of_mem _ hx), Bool.false_or, decide_eq_false_iff_not]
    intro e
    have : k = x := by omega
    subst this
    exact h2.1 hx
theorem markM_cnt {n : Nat} : ∀ {us : List Int} {m m' : Nat}, markM n us m = some m' → cntM n m' = cntM n m + us.length
  | [], m, m', h => by simp only [markM, Option.some.injEq] at h; subst h; simp
  | k :: r, m, m', h => by
    rw [markM] at h
    by_cases h1 : k < 0 ∨ (n : Int) ≤ k
    · rw [if_pos h1] at h; cases h
    rw [if_neg h1] at h
    by_cases h2 : m.testBit k.toNat = true
    · rw [if_pos h2] at h; cases h
    rw [if_neg h2] at h
    rw [markM_cnt h, cntM_set (by omega) (by simpa using h2), List.length_cons]; omega
theorem markM_append {n : Nat} : ∀ {us vs : List Int} {m : Nat}, markM n (us ++ vs) m = (markM n us m).bind (markM n vs)
  | [], vs, m => rfl
  | k :: r, vs, m => by
    simp only [List.cons_append, markM]
    split
    · rfl
    · split
      · rfl
      · exact markM_append
theorem bit_of_mark {left : List Atom} {m i : Nat} {us : List Int} {m' : Nat} (hi : i < left.length) (hb : m.testBit i = false) (h : markM left.length us (m ||| 2 ^ i) = some m') : markM left.length ((i : Int) :: us) m = some m' := by
  rw [markM, if_neg (by omega), Int.toNat_natCast, if_neg (by rw [hb]; decide)]; exact h
/-- What is found is a chain. -/
theorem chain_allow {left : List Atom} {B : Int} {cl : Bool} : ∀ {f m : Nat} {A : Int} {m' : Nat} {us : List Int}, chainU left B cl f m A = some (m', us) → useList left B cl A us = true ∧ markM left.length us m = some m'
  | 0, _, _, _, _, h => by rw [chainU] at h; cases h
  | f + 1, m, A, m', us, h => by
    rw [chainU] at h
    cases hf : findU left m A with
    | none => rw [hf] at h; cases h
    | some i =>
      rw [hf] at h
      simp only at h
      obtain ⟨h1, h2, h3⟩ := findU_some hf
      by_cases hB : (gd left i).2.2 = B
      · rw [if_pos hB] at h
        simp only [Option.some.injEq, Prod.mk.injEq] at h
        obtain ⟨rfl, rfl⟩ := h
        refine ⟨?_, bit_of_mark h1 h3 rfl⟩
        simp [useList, h2, hB]
      · rw [if_neg hB] at h
        by_cases hc : (gd left i).1 = 2 ∧ cl = false
        · rw [if_pos hc] at h; cases h
        rw [if_neg hc] at h
        cases hr : chainU left B cl f (m ||| 2 ^ i) (gd left i).2.2 with
        | none => rw [hr] at h; cases h
        | some r =>
          rw [hr] at h
          simp only [Option.map_some, Option.some.injEq, Prod.mk.injEq] at h
          obtain ⟨rfl, rfl⟩ := h
          obtain ⟨p1, p2⟩ := chain_allow hr
          refine ⟨?_, bit_of_mark h1 h3 p2⟩
          have hc' : ((gd left i).1 == 2 && !cl) = false := by
            cases cl <;> simp_all
          simp [useList, h2, hB, hc', p1]
theorem find_one {left : List Atom} (ha : Apart left) {m i : Nat} (hi : i < left.length) (hb : m.testBit i = false) : findU left m (gd left i).2.1 = some i := by
  refine find_step hi (fun j hj => ?_) (by simp [hb])
  have : ¬ (gd left j).2.1 = (gd left i).2.1 := fun e => by have := apart_inj ha (by omega) hi e; omega
  simp [this]
/-- A chain is found. -/
theorem allow_chain {left : List Atom} (ha : Apart left) {B : Int} {cl : Bool} : ∀ {us : List Int} {f m : Nat} {A : Int} {m' : Nat}, us.length ≤ f → useList left B cl A us = true → markM left.length us m = some m' → chainU left B cl f m A = some (m', us)
  | [], _, _, _, _, _, h, _ => by rw [useList] at h; cases h
  | k :: r, 0, _, _, _, hl, _, _ => by simp at hl
  | k :: r, f + 1, m, A, m', hl, h, hm => by
    rw [List.length_cons] at hl
    rw [markM] at hm
    by_cases h1 : k < 0 ∨ (left.length : Int) ≤ k
    · rw [if_pos h1] at hm; cases hm
    rw [if_neg h1] at hm
    by_cases h2 : m.testBit k.toNat = true
    · rw [if_pos h2] at hm; cases hm
    rw [if_neg h2] at hm
    obtain ⟨i, rfl⟩ := Int.eq_ofNat_of_zero_le (show 0 ≤ k by omega)
    rw [Int.toNat_natCast] at hm h2
    rw [useList, Int.toNat_natCast] at h
    by_cases hA : (gd left i).2.1 = A
    rotate_left
    · rw [if_neg hA] at h; cases h
    rw [if_pos hA] at h
    rw [chainU, ← hA, find_one ha (by omega) (by simpa using h2)]
    simp only
    by_cases hB : (gd left i).2.2 = B
    · rw [if_pos hB] at h ⊢
      rw [List.isEmpty_iff] at h
      subst h
      simp only [markM, Option.some.injEq] at hm
      rw [hm]
    · rw [if_neg hB] at h ⊢
      by_cases hc : ((gd left i).1 == 2 && !cl) = true
      · rw [if_pos hc] at h; cases h
      rw [if_neg hc] at h
      rw [if_neg (by rintro ⟨e1, e2⟩; apply hc; rw [e1, e2]; rfl), allow_chain ha (by omega) h hm]
      rfl
theorem goal_allow {left : List Atom} {m m' : Nat} {x : Atom} {us : List Int} (h : goalU left m x = some (m', us)) : allowB left x us = true ∧ markM left.length us m = some m' := by
  rw [goalU] at h
  rw [allowB]
  by_cases hx : x.1 = 1
  · rw [if_pos hx] at h ⊢
    rw [cellU] at h
    cases hf : findU left m x.2.1 with
    | none => rw [hf] at h; cases h
    | some i =>
      rw [hf] at h
      simp only at h
      obtain ⟨h1, _, h3⟩ := findU_some hf
      by_cases he : gd left i = x
      · rw [if_pos he] at h
        simp only [Option.some.injEq, Prod.mk.injEq] at h
        obtain ⟨rfl, rfl⟩ := h
        refine ⟨?_, bit_of_mark h1 h3 rfl⟩
        have : gi [(i : Int)] 0 = i := rfl
        simp [this, he]
      · rw [if_neg he] at h; cases h
  · rw [if_neg hx] at h ⊢
    exact chain_allow h
theorem cnt_leM (n m : Nat) : cntM n m ≤ n := by
  unfold cntM; exact Nat.le_trans (List.length_filter_le _ _) (by simp)
theorem allow_goal {left : List Atom} (ha : Apart left) {m m' : Nat} {x : Atom} {us : List Int} (h : allowB left x us = true) (hm : markM left.length us m = some m') : goalU left m x = some (m', us) := by
  rw [goalU]
  rw [allowB] at h
  by_cases hx : x.1 = 1
  · rw [if_pos hx] at h ⊢
    rw [Bool.and_eq_true, beq_iff_eq, decide_eq_true_eq] at h
    obtain ⟨k, rfl⟩ := List.length_eq_one_iff.1 h.1
    have hk : gi [k] 0 = k := rfl
    rw [hk] at h
    rw [markM] at hm
    by_cases h1 : k < 0 ∨ (left.length : Int) ≤ k
    · rw [if_pos h1] at hm; cases hm
    rw [if_neg h1] at hm
    by_cases h2 : m.testBit k.toNat = true
    · rw [if_pos h2] at hm; cases hm
    rw [if_neg h2] at hm
    obtain ⟨i, rfl⟩ := Int.eq_ofNat_of_zero_le (show 0 ≤ k by omega)
    rw [Int.toNat_natCast] at hm h2 h
    rw [cellU, ← h.2, find_one ha (by omega) (by simpa using h2)]
    simp only [if_true]
    simp only [markM, Option.some.injEq] at hm
    rw [hm]
  · rw [if_neg hx] at h ⊢
    refine allow_chain ha ?_ h hm
    have h1 := markM_cnt hm
    have h2 := cnt_leM left.length m'
    omega
/-- What matches: each atom has its own way, and the ways share out all. -/
theorem match_iff {left : List Atom} (ha : Apart left) : ∀ {right : List Atom} {m m' : Nat} {us : List (List Int)}, goalsU left right m = some (m', us) ↔ us.length = right.length ∧ (∀ k, k < right.length → allowB left (gd right k) (gd us k) = true) ∧ markM left.length us.flatten m = some m'
  | [], m, m', us => by
    rw [goalsU]
    constructor
    · intro h
      simp only [Option.some.injEq, Prod.mk.injEq] at h
      obtain ⟨rfl, rfl⟩ := h
      exact ⟨rfl, fun k hk => absurd hk (by simp), rfl⟩
    · rintro ⟨h1, _, h3⟩
      have : us = [] := List.length_eq_zero_iff.1 h1
      subst this
      simp only [List.flatten_nil, markM, Option.some.injEq] at h3
      rw [h3]
  | x :: r, m, m', us => by
    rw [goalsU]
    constructor
    · intro h
      cases hg : goalU left m x with
      | none => rw [hg] at h; cases h
      | some p =>
        rw [hg] at h
        simp only at h
        cases hq : goalsU left r p.1 with
        | none => rw [hq] at h; cases h
        | some q =>
          rw [hq] at h
          simp only [Option.map_some, Option.some.injEq, Prod.mk.injEq] at h
          obtain ⟨rfl, rfl⟩ := h
          obtain ⟨q1, q2, q3⟩ := (match_iff ha).1 hq
          obtain ⟨p1, p2⟩ := goal_allow hg
          refine ⟨by simp [q1], fun k hk => ?_, ?_⟩
          · cases k with
            | zero => exact p1
            | succ k => exact q2 k (by simpa using hk)
          · rw [List.flatten_cons, markM_append, p2]; exact q3
    · rintro ⟨h1, h2, h3⟩
      cases us with
      | nil => simp at h1
      | cons u us =>
        rw [List.flatten_cons, markM_append] at h3
        cases hu : markM left.length u m with
        | none => rw [hu] at h3; cases h3
        | some m1 =>
          rw [hu, Option.bind_some] at h3
          have := allow_goal ha (h2 0 (by simp)) hu
          rw [show gd (x :: r) 0 = x from rfl, show gd (u :: us) 0 = u from rfl] at this
          rw [this]
          simp only
          rw [(match_iff ha).2 ⟨by simpa using h1, fun k hk => h2 (k + 1) (by simpa using hk), h3⟩]
          rfl
/-- Ways that share out all. -/
structure Shares (left right : List Atom) (us : List (List Int)) : Prop where
  len : us.length = right.length
  ok : ∀ k, k < right.length → allowB left (gd right k) (gd us k) = true
  nd : us.flatten.Nodup
  mem : ∀ j : Int, j ∈ us.flatten ↔ 0 ≤ j ∧ j < left.length
theorem mtchF_iff {left right : List Atom} (ha : Apart left) {us : List (List Int)} : mtchF left right = some us ↔ Shares left right us := by
  rw [mtchF]
  constructor
  · intro h
    cases hg : goalsU left right 0 with
    | none => rw [hg] at h; cases h
    | some p =>
      rw [hg] at h
      simp only at h
      by_cases hf : ((List.range left.length).all fun k => p.1.testBit k) = true
      · rw [if_pos hf] at h
        simp only [Option.some.injEq] at h
        obtain ⟨m', us'⟩ := p
        subst h
        obtain ⟨q1, q2, q3⟩ := (match_iff ha).1 hg
        obtain ⟨r1, r2, _, r4⟩ := markM_some q3
        refine ⟨q1, q2, r2, fun j => ⟨r1 j, fun hj => ?_⟩⟩
        rw [List.all_eq_true] at hf
        have := hf j.toNat (List.mem_range.2 (by omega))
        simp only at this
        rw [r4, Nat.zero_testBit, Bool.false_or, decide_eq_true_eq, show ((j.toNat : Nat) : Int) = j by omega] at this
        exact this
      · rw [if_neg hf] at h; cases h
  · rintro ⟨h1, h2, h3, h4⟩
    obtain ⟨m', hm⟩ := markM_mk (n := left.length) (m := 0) (fun k hk => (h4 k).1 hk) h3 fun k _ => Nat.zero_testBit _
    rw [(match_iff ha).2 ⟨h1, h2, hm⟩]
    simp only
    rw [if_pos]
    rw [List.all_eq_true]
    intro k hk
    have := List.mem_range.1 hk
    rw [(markM_some hm).2.2.2, Nat.zero_testBit, Bool.false_or, decide_eq_true_eq, h4]
    omega
end Go.Proofs.Ythoingdcmdhllaa
