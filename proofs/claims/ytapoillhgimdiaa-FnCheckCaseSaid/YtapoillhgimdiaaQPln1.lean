/- The plain laws of proofs: what is found is accepted, and only that; the proofs of all cases. -/
import Derived.Test.YtapoillhgimdiaaQChkA
import Derived.Test.YtapoillhgimdiaaQPrvA
namespace Go.Proofs.Ytapoillhgimdiaa
open Go.RowKit

theorem step_goal {left : List Atom} (ha : Apart left) {x : Atom} {m m1 : Nat} {u : List Int} : stepO left x m u = some m1 ↔ goalU left m x = some (m1, u) := by
  constructor
  · intro h
    rw [stepO] at h
    cases hm : markM left.length u m with
    | none => rw [hm] at h; cases h
    | some m2 =>
      rw [hm] at h
      simp only at h
      split at h
      · rename_i hal
        obtain rfl : m2 = m1 := by simpa using h
        exact allow_goal ha hal hm
      · cases h
  · intro h
    obtain ⟨h1, h2⟩ := goal_allow h
    rw [stepO, h2]
    simp only
    rw [if_pos h1]
theorem check_goals {left : List Atom} (ha : Apart left) : ∀ {right : List Atom} {us : List (List Int)} {m m' : Nat}, (us.length = right.length ∧ checkO left right us m = some m') ↔ goalsU left right m = some (m', us)
  | [], us, m, m' => by
    simp only [goalsU, Option.some.injEq, Prod.mk.injEq]
    cases us with
    | nil => simp [checkO]
    | cons u r => simp
  | x :: r, [], m, m' => by
    rw [goalsU]
    constructor
    · rintro ⟨h, _⟩; simp at h
    · intro h
      cases hg : goalU left m x with
      | none => rw [hg] at h; cases h
      | some p => rw [hg] at h; simp at h
  | x :: r, u :: us, m, m' => by
    rw [goalsU, checkO]
    cases hs : stepO left x m u with
    | none =>
      constructor
      · rintro ⟨_, h⟩; cases h
      · intro h
        cases hg : goalU left m x with
        | none => rw [hg] at h; cases h
        | some p =>
          rw [hg] at h
          simp only [Option.map_eq_some_iff, Prod.mk.injEq, List.cons.injEq] at h
          obtain ⟨q, _, _, h2, _⟩ := h
          have := (step_goal ha).2 (show goalU left m x = some (p.1, u) by rw [hg, ← h2])
          rw [hs] at this; cases this
    | some m1 =>
      rw [(step_goal ha).1 hs]
      simp only [List.length_cons, Nat.add_right_cancel_iff]
      rw [check_goals ha (right := r) (us := us) (m := m1) (m' := m')]
      simp only [Option.map_eq_some_iff, Prod.mk.injEq, List.cons.injEq, true_and]
      constructor
      · intro h; exact ⟨_, h, rfl, rfl⟩
      · rintro ⟨q, h, h1, h2⟩
        rw [h, ← h1, ← h2]
theorem read_apart {a b : Asn} {cl : List Int} (ha : asnB a = true) (hb : asnB b = true) (hr : readC (termsM b) a cl = true) : Apart (filledL cl a.2) := by
  rw [readC, Bool.and_eq_true] at hr
  exact ((poss_val (M := bothM a b) ha hr.1 (both_cov ha hb).1.2).1 hr.2).apart
/-- A check accepts the proof that is found, and no other. -/
theorem check_prov {a b : Asn} {p : CPf} : checkC a b p = true ↔ provC a b p.1 = some p.2 := by
  rw [checkC, provC]
  simp only [Bool.and_eq_true, decide_eq_true_eq]
  constructor
  · rintro ⟨h1, h2, h3, h4, h5, h6⟩
    rw [if_pos ⟨h1, h2, h3⟩, matchC, if_pos h4, mtchF]
    cases hc : checkO (filledL p.1 a.2) (filledL p.1 b.2) p.2 0 with
    | none => rw [hc] at h6; cases h6
    | some m =>
      rw [(check_goals (read_apart h1 h2 h3)).1 ⟨h5, hc⟩]
      rw [hc] at h6
      simp only
      rw [if_pos (show ((List.range (filledL p.1 a.2).length).all fun k => m.testBit k) = true from h6)]
  · intro h
    by_cases hc : asnB a = true ∧ asnB b = true ∧ readC (termsM b) a p.1 = true
    · rw [if_pos hc, matchC] at h
      obtain ⟨h1, h2, h3⟩ := hc
      by_cases hf : b.1.all (factC p.1) = true
      · rw [if_pos hf, mtchF] at h
        cases hg : goalsU (filledL p.1 a.2) (filledL p.1 b.2) 0 with
        | none => rw [hg] at h; cases h
        | some q =>
          rw [hg] at h
          simp only at h
          split at h
          · rename_i hb
            have e : q.2 = p.2 := by simpa using h
            obtain ⟨k1, k2⟩ := (check_goals (read_apart h1 h2 h3)).2 (show goalsU (filledL p.1 a.2) (filledL p.1 b.2) 0 = some (q.1, p.2) by rw [hg, ← e])
            exact ⟨h1, h2, h3, hf, k1, by rw [k2]; exact hb⟩
          · cases h
      · rw [if_neg hf] at h; cases h
    · rw [if_neg hc] at h; cases h
theorem checks_prove {a b : Asn} {p : CPf} (h : checkC a b p = true) : provB a b p.1 = true ∧ proveR a b p.1 = p := by
  have h2 := check_prov.1 h
  exact ⟨by rw [provB, h2]; rfl, by rw [proveR, h2]⟩
theorem prove_small (a b : Asn) (cl : List Int) : Mk.size (proveR a b cl) ≤ 60 := by
  cases hp : provC a b cl with
  | none => rw [proveR, hp]; show 0 + (0 + 0) ≤ 60; omega
  | some us =>
    obtain ⟨⟨⟨ha, hb⟩, hr⟩, _, m, hall⟩ := provC_some hp
    have h6 := Nat.le_trans (filledL_len cl a.2) (asn_all' ha).2
    have hr6 := Nat.le_trans (filledL_len cl b.2) (asn_all' hb).2
    have hs := sum_six us (goals_all h6 hall)
    have hl := goals_len hall
    have hc := read_len hr
    rw [proveR, hp]
    show cl.length + (us.length + (us.map (Mk.size (α := List Int))).sum) ≤ 60
    omega
theorem sum_cap {α : Type} {f : α → Nat} {c : Nat} : ∀ (l : List α), (∀ x ∈ l, f x ≤ c) → (l.map f).sum ≤ c * l.length
  | [], _ => by simp
  | x :: r, h => by
    have h1 := sum_cap r fun u hu => h u (List.mem_cons_of_mem _ hu)
    have h2 := h x List.mem_cons_self
    simp only [List.map_cons, List.sum_cons, List.length_cons, Nat.mul_succ]
    omega
end Go.Proofs.Ytapoillhgimdiaa
