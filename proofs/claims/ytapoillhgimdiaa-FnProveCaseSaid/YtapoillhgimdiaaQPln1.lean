/- The plain laws of proofs: what is found is accepted, and only that; the proofs of all cases. -/
import Derived.Test.YtapoillhgimdiaaQChkA
import Derived.Test.YtapoillhgimdiaaQPrvA
namespace Go.Proofs.Ytapoillhgimdiaa
open Go.RowKit

theorem step_goal {left : List Atom} (ha : Apart left) {x : Atom} {m m1 : Nat} {u : List Int} : stepO left x m u = some m1 ↔ goalU left m x = some (m1, u) := by
  constructor
  · intro h
    rw [stepO] at h
    cases hm : markM left.length u m with
    | none => rw [hm] at h; cases h
    | some m2 =>
      rw [hm] at h
      simp only at h
      split at h
      · rename_i hal
        obtain rfl : m2 = m1 := by simpa using h
        exact allow_goal ha hal hm
      · cases h
  · intro h
    obtain ⟨h1, h2⟩ := goal_allow h
    rw [stepO, h2]
    simp only
    rw [if_pos h1]
theorem check_goals {left : List Atom} (ha : Apart left) : ∀ {right : List Atom} {us : List (List Int)} {m m' : Nat}, (us.length = right.length ∧ checkO left right us m = some m') ↔ goalsU left right m = some (m', us)
  | [], us, m, m' => by
    simp only [goalsU, Option.some.injEq, Prod.mk.injEq]
    cases us with
    | nil => simp [checkO]
    | cons u r => simp
  | x :: r, [], m, m' => by
    rw [goalsU]
    constructor
    · rintro ⟨h, _⟩; simp at h
    · intro h
      cases hg : goalU left m x with
      | none => rw [hg] at h; cases h
      | some p => rw [hg] at h; simp at h
  | x :: r, u :: us, m, m' => by
    rw [goalsU, checkO]
    cases hs : stepO left x m u with
    | none =>
      constructor
      · rintro ⟨_, h⟩; cases h
      · intro h
        cases hg : goalU left m x with
        | none => rw [hg] at h; cases h
        | some p =>
          rw [hg] at h
          simp only [Option.map_eq_some_iff, Prod.mk.injEq, List.cons.injEq] at h
          obtain ⟨q, _, _, h2, _⟩ := h
          have := (step_goal ha).2 (show goalU left m x = some (p.1, u) by rw [hg, ← h2])
          rw [hs] at this; cases this
    | some m1 =>
      rw [(step_goal ha).1 hs]
      simp only [List.length_cons, Nat.add_right_cancel_iff]
      rw [check_goals ha (right := r) (us := us) (m := m1) (m' := m')]
      simp only [Option.map_eq_some_iff, Prod.mk.injEq, List.cons.injEq, true_and]
      constructor
      · intro h; exact ⟨_, h, rfl, rfl⟩
      · rintro ⟨q, h, h1, h2⟩
        rw [h, ← h1, ← h2]
theorem read_apart {a b : Asn} {cl : List Int} (ha : asnB a = true) (hb : asnB b = true) (hr : readC (termsM b) a cl = true) : Apart (filledL cl a.2) := by
  rw [readC, Bool.and_eq_true] at hr
  exact ((poss_val (M := bothM a b) ha hr.1 (both_cov ha hb).1.2).1 hr.2).apart
/-- A check accepts the proof that is found, and no other. -/
theorem check_prov {a b : Asn} {p : CPf} : checkC a b p = true ↔ provC a b p.1 = some p.2 := by
  rw [checkC, provC]
  simp only [Bool.and_eq_true, decide_eq_true_eq]
  constructor
  · rintro ⟨h1, h2, h3, h4, h5, h6⟩
    rw [if_pos ⟨h1, h2, h3⟩, matchC, if_pos h4, mtchF]
    cases hc : checkO (filledL p.1 a.2) (filledL p.1 b.2) p.2 0 with
    | none => rw [hc] at h6; cases h6
    | some m =>
      rw [(check_goals (read_apart h1 h2 h3)).1 ⟨h5, hc⟩]
      rw [hc] at h6
      simp only
      rw [if_pos (show ((List.range (filledL p.1 a.2).length).all fun k => m.testBit k) = true from h6)]
  · intro h
    by_cases hc : asnB a = true ∧ asnB b = true ∧ readC (termsM b) a p.1 = true
    · rw [if_pos hc, matchC] at h
      obtain ⟨h1, h2, h3⟩ := hc
      by_cases hf : b.1.all (factC p.1) = true
      · rw [if_pos hf, mtchF] at h
        cases hg : goalsU (filledL p.1 a.2) (filledL p.1 b.2) 0 with
        | none => rw [hg] at h; cases h
        | some q =>
          rw [hg] at h
          simp only at h
          split at h
          · rename_i hb
            have e : q.2 = p.2 := by simpa using h
            obtain ⟨k1, k2⟩ := (check_goals (read_apart h1 h2 h3)).2 (show goalsU (filledL p.1 a.2) (filledL p.1 b.2) 0 = some (q.1, p.2) by rw [hg, ← e])
            exact ⟨h1, h2, h3, hf, k1, by rw [k2]; exact hb⟩
          · cases h
      · rw [if_neg hf] at h; cases h
    · rw [if_neg hc] at h; cases h
theorem prove_checks {a b : Asn} {cl : List Int} (h : provB a b cl = true) : checkC a b (proveR a b cl) = true ∧ (proveR a b cl).1 = cl := by
  rw [provB, Option.isSome_iff_exists] at h
  obtain ⟨us, h⟩ := h
  have e : proveR a b cl = (cl, us) := by rw [proveR, h]
  rw [e]
  exact ⟨check_prov.2 h, rfl⟩
/-- The proofs of all cases. -/
def provE (a b : Asn) : List CPf := if entB a b = true then (casesL (bothM a b) a).map (proveR a b) else []
theorem case_prov {a b : Asn} (h : entB a b = true) {cl : List Int} (hc : cl ∈ casesL (bothM a b) a) : provB a b cl = true := by
  obtain ⟨ha, hb⟩ := ent_valid h
  have hr := case_read hc
  rw [entB, ha, hb, Bool.true_and, Bool.true_and, Option.isNone_iff_eq_none, failO, List.find?_eq_none] at h
  have := h cl hc
  rw [failC] at this
  rw [provB, provC, if_pos ⟨ha, hb, hr⟩]
  cases hm : matchC a b cl with
  | none => rw [hm] at this; simp at this
  | some us => rfl
theorem provE_fst {a b : Asn} (h : entB a b = true) : (provE a b).map Prod.fst = casesL (bothM a b) a := by
  rw [provE, if_pos h, List.map_map]
  conv => rhs; rw [← List.map_id (casesL (bothM a b) a)]
  exact List.map_congr_left fun cl hc => (prove_checks (case_prov h hc)).2
/-- The proofs of all cases are accepted. -/
theorem provE_chk {a b : Asn} (h : entB a b = true) : chkE a b (provE a b) = true := by
  obtain ⟨ha, hb⟩ := ent_valid h
  rw [chkE, ha, hb, Bool.true_and, Bool.true_and, chkL, provE_fst h, decide_eq_true rfl, Bool.true_and, List.all_eq_true]
  intro p hp
  rw [provE, if_pos h, List.mem_map] at hp
  obtain ⟨cl, hc, rfl⟩ := hp
  exact (prove_checks (case_prov h hc)).1
/-- There are cases just if the assertion is consistent. -/
theorem cases_cons {a b : Asn} (ha : asnB a = true) (hb : asnB b = true) : decide (0 < (casesL (bothM a b) a).length) = consB a := by
  obtain ⟨ca, _, c0⟩ := both_cov ha hb
  have hv := cases_val ha ca c0 (fun _ => False) fun _ _ _ _ _ h => h
  rw [Bool.eq_iff_iff, decide_eq_true_eq, cons_iff ha]
  constructor
  · intro h
    apply Classical.byContradiction
    intro hn
    have h2 := hv.2 fun f f0 hp => hn ⟨f, f0, hp⟩
    rw [List.eq_nil_iff_forall_not_mem.2 h2] at h
    simp at h
  · rintro ⟨f, f0, hp⟩
    apply Classical.byContradiction
    intro hn
    have he : casesL (bothM a b) a = [] := List.length_eq_zero_iff.1 (by omega)
    rw [he] at hv
    exact hv.1 (fun cl hcl => absurd hcl (List.not_mem_nil)) f f0 hp
theorem provE_len {a b : Asn} (h : entB a b = true) : decide (0 < (provE a b).length) = consB a := by
  obtain ⟨ha, hb⟩ := ent_valid h
  rw [← cases_cons ha hb, provE, if_pos h, List.length_map]
theorem cases_many (a b : Asn) : (casesL (bothM a b) a).length ≤ 100000000 := by
  rw [open_cases (both_zero a b)]; exact rest_len
theorem sum_cap {α : Type} {f : α → Nat} {c : Nat} : ∀ (l : List α), (∀ x ∈ l, f x ≤ c) → (l.map f).sum ≤ c * l.length
  | [], _ => by simp
  | x :: r, h => by
    have h1 := sum_cap r fun u hu => h u (List.mem_cons_of_mem _ hu)
    have h2 := h x List.mem_cons_self
    simp only [List.map_cons, List.sum_cons, List.length_cons, Nat.mul_succ]
    omega
end Go.Proofs.Ytapoillhgimdiaa
