/- Plain facts on cycles, for the drawn laws. -/
import Derived.Test.YtlmhcacgedidbaaDMath
namespace Go.Proofs.Ytlmhcacgedidbaa

def onWay (hl : List Int) (x v : Int) : Prop := alB hl v = true ∧ (reachF hl 0 v).testBit x.toNat = true

theorem mem_cycleL {vl hl : List Int} {x : Int} (h : x ∈ cycleL vl hl) : validB vl hl = true ∧ alB hl x = true ∧ (reachF hl 0 (ct hl x)).testBit x.toNat = true := by
  unfold cycleL at h
  by_cases hv : validB vl hl = true
  · rw [if_pos hv, mem_sel] at h
    obtain ⟨i, rfl, h1, h9, hp⟩ := h
    simp only [cycleP, cycI, Bool.and_eq_true] at hp
    rw [hasB_al hp.1] at hp
    exact ⟨hv, hp.1, by simpa using hp.2⟩
  · rw [if_neg hv] at h; cases h

theorem al_ct {hl : List Int} {v : Int} (h : alB hl v = true) : 0 ≤ ct hl v := by simpa [alB] using h

theorem cyc_read {vl hl : List Int} {x : Int} (h : x ∈ cycleL vl hl) : readB vl hl x = true := by
  obtain ⟨hv, ha, _⟩ := mem_cycleL h
  unfold readB; rw [hv, ha]; rfl
theorem cyc_reach {vl hl : List Int} {x : Int} (h : x ∈ cycleL vl hl) : x ∈ reachL vl hl (readV vl hl x) := by
  have hr := cyc_read h
  obtain ⟨hv, ha, hb⟩ := mem_cycleL h
  have hx := al_addr ha
  have h0 := al_ct ha
  have h8 := valid_ct hv x
  rw [readV, if_pos hr]
  exact mem_reachL.2 ⟨⟨hv, isTermB_iff.2 ⟨h0, h8.2⟩⟩, hx.1, hx.2, hb⟩
theorem way_start {vl hl : List Int} {x : Int} (h : x ∈ cycleL vl hl) : onWay hl x x := by
  obtain ⟨_, ha, _⟩ := mem_cycleL h
  exact ⟨ha, reach_start 0 ha⟩
theorem way_next {vl hl : List Int} {x v : Int} (h : x ∈ cycleL vl hl) (hw : onWay hl x v) : onWay hl x (ct hl v) := by
  obtain ⟨_, hxa, hxb⟩ := mem_cycleL h
  obtain ⟨ha, hb⟩ := hw
  have hx := al_addr hxa
  have hv := al_addr ha
  have key : (reachF hl 0 (ct hl v)).testBit x.toNat = true := by
    by_cases e : x = v
    · subst e; exact hxb
    · have hcl : closedB hl (reachF hl 0 (ct hl v) ||| 2 ^ v.toNat) := by
        intro y h1 h2 h3
        rw [testBit_or_pow] at h2 ⊢
        simp only [Bool.or_eq_true, decide_eq_true_eq] at h2 ⊢
        rcases h2 with h2 | h2
        · exact .inl (reach_closed (closed_zero hl) _ y h1 h2 h3)
        · have : y = v := by have := al_addr h1; omega
          subst this
          exact .inl (reach_start 0 h3)
      rcases reach_sub hcl 0 v (fun _ => by rw [testBit_or_pow]; simp) _ hb with h | h
      · simp at h
      · rw [testBit_or_pow] at h
        simp only [Bool.or_eq_true, decide_eq_true_eq] at h
        rcases h with h | h
        · exact h
        · omega
  refine ⟨?_, key⟩
  cases hc : alB hl (ct hl v) with
  | true => rfl
  | false => rw [reach_none hc] at key; simp at key
theorem way_pos {hl : List Int} {x v : Int} (hw : onWay hl x v) : 1 ≤ v := (al_addr hw.1).1
end Go.Proofs.Ytlmhcacgedidbaa
