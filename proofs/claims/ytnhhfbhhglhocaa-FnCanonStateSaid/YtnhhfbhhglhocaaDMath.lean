/- Plain facts on reaching, for the drawn laws. -/
import Derived.Test.YtnhhfbhhglhocaaGarb
namespace Go.Proofs.Ytnhhfbhhglhocaa

theorem reach_al {hs : List Int} (a : Nat) (v : Int) (j : Nat) (hj : (reachF hs a v).testBit j = true) : a.testBit j = true ∨ alB hs (j : Int) = true := by
  refine reach_ind (hs := hs) (fun a v r => r.testBit j = true → a.testBit j = true ∨ alB hs (j : Int) = true) (fun _ _ _ h => .inl h) (fun a v r ha _ ih hr => ?_) a v hj
  rcases ih hr with h | h
  · rw [testBit_or_pow] at h
    have hv := al_addr ha
    by_cases e : v.toNat = j
    · right
      rw [← e, show ((v.toNat : Nat) : Int) = v by omega]; exact ha
    · left; simpa [e, Ne.symm e] using h
  · exact .inr h

theorem reach_start {hs : List Int} (a : Nat) {v : Int} (ha : alB hs v = true) : (reachF hs a v).testBit v.toNat = true := by
  by_cases hh : hasB a v = true
  · rw [hasB_al ha] at hh
    exact reach_grow hs a v _ hh
  · have hh' : hasB a v = false := by simpa using hh
    rw [reachF_yes ha hh']
    exact reach_grow hs _ _ _ (by rw [testBit_or_pow]; simp)

theorem reach_none {hs : List Int} {v : Int} (h : alB hs v = false) (a : Nat) : reachF hs a v = a := reachF_no (by rw [h]; simp)

theorem mem_reachL {vl hl : List Int} {f n : Int} : n ∈ reachL vl hl f ↔ (validB vl hl = true ∧ isTermB f = true) ∧ 1 ≤ n ∧ n ≤ 8 ∧ (reachF hl 0 f).testBit n.toNat = true := by
  unfold reachL
  by_cases h : validB vl hl = true ∧ isTermB f = true
  · rw [if_pos h, mem_sel]
    constructor
    · rintro ⟨i, rfl, h1, h9, hp⟩
      exact ⟨h, by omega, by omega, by simpa using hp⟩
    · rintro ⟨_, h1, h8, hp⟩
      exact ⟨n.toNat, by omega, by omega, by omega, hp⟩
  · rw [if_neg h]
    constructor
    · intro hh; cases hh
    · exact fun hh => absurd hh.1 h

def readB (vl hl : List Int) (n : Int) : Bool := validB vl hl && alB hl n
def readV (vl hl : List Int) (n : Int) : Int := if readB vl hl n = true then ct hl n else 0

theorem reach_read {vl hl : List Int} {f x : Int} (h : x ∈ reachL vl hl f) : readB vl hl x = true := by
  obtain ⟨⟨hv, _⟩, h1, h8, hb⟩ := mem_reachL.1 h
  rcases reach_al 0 f _ hb with h | h
  · simp at h
  · rw [show ((x.toNat : Nat) : Int) = x by omega] at h
    unfold readB; rw [hv, h]; rfl
theorem readB_iff {vl hl : List Int} {x : Int} : readB vl hl x = true ↔ validB vl hl = true ∧ alB hl x = true := by simp [readB]
theorem reach_next {vl hl : List Int} {f x : Int} (h : x ∈ reachL vl hl f) (hn : readB vl hl (readV vl hl x) = true) : readV vl hl x ∈ reachL vl hl f := by
  have hr := reach_read h
  rw [readV, if_pos hr] at hn ⊢
  obtain ⟨hvf, h1, h8, hb⟩ := mem_reachL.1 h
  have hn' := (readB_iff.1 hn).2
  have ha := al_addr hn'
  exact mem_reachL.2 ⟨hvf, ha.1, ha.2, reach_closed (closed_zero hl) f x (readB_iff.1 hr).2 hb hn'⟩
theorem reach_self {vl hl : List Int} {f : Int} (h : readB vl hl f = true) : f ∈ reachL vl hl f := by
  obtain ⟨hv, ha⟩ := readB_iff.1 h
  have hf := al_addr ha
  exact mem_reachL.2 ⟨⟨hv, isTermB_iff.2 (by omega)⟩, hf.1, hf.2, reach_start 0 ha⟩
theorem reach_first (vl hl : List Int) (f : Int) : decide (f ∈ reachL vl hl f) = readB vl hl f := by
  rw [Bool.eq_iff_iff]
  simp only [decide_eq_true_eq]
  exact ⟨reach_read, reach_self⟩
theorem reach_empty {vl hl : List Int} {f : Int} (h : readB vl hl f = false) : reachL vl hl f = [] := by
  cases hL : reachL vl hl f with
  | nil => rfl
  | cons x xs =>
    exfalso
    have hx : x ∈ reachL vl hl f := by rw [hL]; exact List.mem_cons_self
    obtain ⟨⟨hv, _⟩, h1, h8, hb⟩ := mem_reachL.1 hx
    have ha : alB hl f = false := by
      cases hh : alB hl f with
      | false => rfl
      | true => rw [readB, hv, hh] at h; exact absurd h (by simp)
    rw [reach_none ha] at hb
    simp at hb
theorem reach_trans {vl hl : List Int} {f x y : Int} (h : x ∈ reachL vl hl f) (hy : y ∈ reachL vl hl x) : y ∈ reachL vl hl f := by
  obtain ⟨hvf, h1, h8, hb⟩ := mem_reachL.1 h
  obtain ⟨_, k1, k8, kb⟩ := mem_reachL.1 hy
  refine mem_reachL.2 ⟨hvf, k1, k8, ?_⟩
  rcases reach_sub (reach_closed (closed_zero hl) f) 0 x (fun _ => hb) _ kb with h | h
  · simp at h
  · exact h
theorem reach_pos {vl hl : List Int} {f x : Int} (h : x ∈ reachL vl hl f) : 0 < (reachL vl hl x).length :=
  List.length_pos_of_mem (reach_self (reach_read h))

end Go.Proofs.Ytnhhfbhhglhocaa
