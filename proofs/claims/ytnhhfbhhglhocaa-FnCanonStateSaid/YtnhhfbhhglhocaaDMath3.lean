/- Plain facts on garbage, for the drawn laws. -/
import Derived.Test.YtnhhfbhhglhocaaDMath
namespace Go.Proofs.Ytnhhfbhhglhocaa

theorem gi_set_ne {l : List Int} {i j : Nat} (h : ¬ i = j) (x : Int) : gi (l.set i x) j = gi l j := by
  unfold gi
  rw [List.getD_eq_getElem?_getD, List.getD_eq_getElem?_getD, List.getElem?_set_ne h]
theorem gi_set_eq {l : List Int} {i : Nat} (h : i < l.length) (x : Int) : gi (l.set i x) i = x := by
  unfold gi
  rw [List.getD_eq_getElem?_getD, List.getElem?_set_self h]; rfl

theorem ct_set {hl : List Int} {y v : Int} (hy : 1 ≤ y) (hne : ¬ v = y) (x : Int) : ct (hl.set (y - 1).toNat x) v = ct hl v := by
  unfold ct
  by_cases h : isAddrB v = true
  · rw [if_pos h, if_pos h]
    have := isAddrB_iff.1 h
    exact gi_set_ne (by omega) x
  · rw [if_neg h, if_neg h]
theorem ct_set_self {hl : List Int} {y : Int} (hy : 1 ≤ y) (h8 : y ≤ 8) (hl8 : hl.length = 8) (x : Int) : ct (hl.set (y - 1).toNat x) y = x := by
  unfold ct
  rw [if_pos (isAddrB_iff.2 ⟨hy, h8⟩)]
  exact gi_set_eq (by omega) x

/-- The heap without a cell that is not reached: the same cells are reached. -/
theorem reach_free {hl : List Int} {y : Int} (hy : 1 ≤ y) (h8 : y ≤ 8) (hl8 : hl.length = 8) (a : Nat) (v : Int) (h : (reachF hl a v).testBit y.toNat = false) : reachF (hl.set (y - 1).toNat (-1)) a v = reachF hl a v := by
  refine (reach_ind (hs := hl) (fun a v r => (∀ j, a.testBit j = true → r.testBit j = true) ∧ (r.testBit y.toNat = false → reachF (hl.set (y - 1).toNat (-1)) a v = r)) ?_ ?_ a v).2 h
  · intro a v hn
    refine ⟨fun _ h => h, fun _ => reachF_no fun ⟨h1, h2⟩ => ?_⟩
    by_cases e : v = y
    · subst e
      rw [alB, ct_set_self hy h8 hl8] at h1
      simp at h1
    · rw [alB, ct_set hy e] at h1
      exact hn ⟨h1, h2⟩
  · intro a v r ha hh ih
    refine ⟨fun j hj => ih.1 j (by rw [testBit_or_pow, hj]; rfl), fun hr => ?_⟩
    have hv := al_addr ha
    have hrv := ih.1 v.toNat (by rw [testBit_or_pow]; simp)
    have e : ¬ v = y := by
      intro e; subst e; rw [hrv] at hr; cases hr
    have ha' : alB (hl.set (y - 1).toNat (-1)) v = true := by rw [alB, ct_set hy e]; exact ha
    rw [reachF_yes ha' hh, ct_set hy e]
    exact ih.2 hr

/-- A cell of the garbage. -/
theorem mem_garbageL {vl hl : List Int} {y : Int} : y ∈ garbageL vl hl ↔ validB vl hl = true ∧ 1 ≤ y ∧ y ≤ 8 ∧ alB hl y = true ∧ (markAll vl hl 4).testBit y.toNat = false := by
  unfold garbageL
  by_cases hv : validB vl hl = true
  · rw [if_pos hv, mem_sel]
    constructor
    · rintro ⟨i, rfl, h1, h9, hp⟩
      simp only [garbageP, Bool.and_eq_true, Bool.not_eq_true'] at hp
      exact ⟨hv, by omega, by omega, hp.1, by simpa using hp.2⟩
    · rintro ⟨_, h1, h8, ha, hm⟩
      have e : ((y.toNat : Nat) : Int) = y := by omega
      exact ⟨y.toNat, e.symm, by omega, by omega, by simp [garbageP, e, ha, hm]⟩
  · rw [if_neg hv]
    constructor
    · intro h; cases h
    · exact fun h => absurd h.1 hv

theorem mark_up {vl hl : List Int} {k m j : Nat} (h : k ≤ m) (hj : (markAll vl hl k).testBit j = true) : (markAll vl hl m).testBit j = true := by
  induction m with
  | zero => rwa [show k = 0 by omega] at hj
  | succ m ih =>
    by_cases e : k = m + 1
    · rwa [e] at hj
    · rw [mark_succ, ih (by omega)]; rfl
theorem mark_reach {vl hl : List Int} {k j : Nat} (hk : k < 4) (hj : (reachF hl 0 (tv vl ((k : Int) + 1))).testBit j = true) : (markAll vl hl 4).testBit j = true :=
  mark_up (k := k + 1) (by omega) (by rw [mark_succ, hj]; simp)

theorem garb_not {vl hl : List Int} {y : Int} (h : y ∈ garbageL vl hl) {k : Nat} (hk : k < 4) : ¬ y ∈ reachL vl hl (tv vl ((k : Int) + 1)) := by
  obtain ⟨_, _, _, _, hm⟩ := mem_garbageL.1 h
  intro hr
  have := mark_reach hk (mem_reachL.1 hr).2.2.2
  rw [hm] at this; cases this

theorem mark_free {vl hl : List Int} {y : Int} (hy : 1 ≤ y) (h8 : y ≤ 8) (hl8 : hl.length = 8) : ∀ k, (markAll vl hl k).testBit y.toNat = false → markAll vl (hl.set (y - 1).toNat (-1)) k = markAll vl hl k
  | 0, _ => rfl
  | k + 1, h => by
    have hk : (markAll vl hl k).testBit y.toNat = false := by
      cases hh : (markAll vl hl k).testBit y.toNat with
      | false => rfl
      | true => rw [mark_up (Nat.le_succ k) hh] at h; cases h
    show reachF _ (markAll vl _ k) _ = reachF _ (markAll vl hl k) _
    rw [mark_free hy h8 hl8 k hk]
    exact reach_free hy h8 hl8 _ _ h

theorem valid_free {vl hl : List Int} (h : validB vl hl = true) (i : Nat) : validB vl (hl.set i (-1)) = true := by
  have h1 := valid_len h
  have h2 := valid_all h
  simp only [validB, Bool.and_eq_true, beq_iff_eq, List.length_set]
  refine ⟨h1.1, h1.2, h2.1, ?_⟩
  rw [List.all_eq_true]
  intro x hx
  rcases List.mem_or_eq_of_mem_set hx with hx | hx
  · exact (List.all_eq_true.1 h2.2) x hx
  · subst hx; decide

theorem sel_nodup (p : Nat → Bool) (a k : Nat) : (sel p a k).Nodup := by
  unfold sel
  refine List.Pairwise.map _ ?_ ((List.nodup_range' (step := 1)).filter _)
  intro x y hxy e
  exact hxy (by have : (x : Int) = (y : Int) := e; omega)

theorem garb_free {vl hl : List Int} {y : Int} {rest : List Int} (h : garbageL vl hl = y :: rest) : garbageL vl (hl.set (y - 1).toNat (-1)) = rest := by
  have hm : y ∈ garbageL vl hl := by rw [h]; exact List.mem_cons_self
  obtain ⟨hv, h1, h8, ha, hb⟩ := mem_garbageL.1 hm
  have hl8 := (valid_len hv).2
  have hnd : (y :: rest).Nodup := by rw [← h, garbageL, if_pos hv]; exact sel_nodup _ _ _
  have hf : (garbageL vl hl).filter (fun n => decide (¬ n = y)) = rest := by
    rw [h]
    have hny := (List.nodup_cons.1 hnd).1
    rw [List.filter_cons, if_neg (by simp), List.filter_eq_self]
    intro z hz
    simp only [decide_eq_true_eq]
    intro e; subst e; exact hny hz
  rw [← hf, garbageL, garbageL, if_pos hv, if_pos (valid_free hv _), sel_filter]
  refine sel_congr fun i hi1 hi9 => ?_
  have hmk := mark_free (vl := vl) h1 h8 hl8 4 hb
  unfold garbageP
  rw [hmk]
  by_cases e : (i : Int) = y
  · have : alB (hl.set (y - 1).toNat (-1)) (i : Int) = false := by rw [e, alB, ct_set_self h1 h8 hl8]; rfl
    rw [this]; simp [e]
  · rw [alB, alB, ct_set h1 e]; simp [e]
end Go.Proofs.Ytnhhfbhhglhocaa
