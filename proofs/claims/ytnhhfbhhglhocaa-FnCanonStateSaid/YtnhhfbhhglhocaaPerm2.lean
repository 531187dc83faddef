/- Names of addresses, in plain Lean: the names back; renamed states are valid; as many cells. -/
import Derived.Test.YtnhhfbhhglhocaaPerm
import Derived.Test.YtnhhfbhhglhocaaW5
namespace Go.Proofs.Ytnhhfbhhglhocaa

theorem good_of {ns : List Int} : ∀ {m : Nat}, (∀ i, i < m → 1 ≤ gi ns i ∧ gi ns i ≤ 8) → (∀ i j, i < j → j < m → ¬ gi ns i = gi ns j) → goodTo ns m = true
  | 0, _, _ => rfl
  | m + 1, ha, hd => by
    have ih := good_of (ns := ns) (m := m) (fun i hi => ha i (by omega)) (fun i j hi hj => hd i j hi (by omega))
    have h1 : isAddrB (gi ns m) = true := isAddrB_iff.2 (ha m (Nat.lt_succ_self m))
    have h2 : hasB (seenN ns m) (gi ns m) = false := by
      cases h : hasB (seenN ns m) (gi ns m) with
      | false => rfl
      | true =>
        rw [hasB, h1, Bool.true_and] at h
        obtain ⟨j, hj, e⟩ := (seen_bit _).1 h
        have := ha j (by omega)
        have := ha m (Nat.lt_succ_self m)
        exact absurd (show gi ns j = gi ns m by omega) (hd j m hj (Nat.lt_succ_self m))
    rw [goodTo, ih, h1, h2]; rfl

/-- The names back: k of them. -/
def backN (ns : List Int) : Nat → List Int
  | 0 => List.replicate 8 0
  | k + 1 => (backN ns k).set (gi ns k - 1).toNat ((k : Int) + 1)
theorem backN_len (ns : List Int) : ∀ k, (backN ns k).length = 8
  | 0 => by simp [backN]
  | k + 1 => by rw [backN, List.length_set, backN_len]
theorem backN_at {ns : List Int} (hg : goodTo ns 8 = true) {j : Nat} : ∀ {k : Nat}, k ≤ 8 → j < k → gi (backN ns k) (gi ns j - 1).toNat = (j : Int) + 1
  | 0, _, h => by omega
  | k + 1, h8, h => by
    have hk := good_addr (show k < 8 by omega) hg
    have hj := good_addr (show j < 8 by omega) hg
    rw [backN, gi_set (by rw [backN_len]; omega)]
    by_cases e : j = k
    · subst e; rw [if_pos rfl]
    · have : ¬ gi ns j = gi ns k := fun hh => e (good_inj' (m := 8) (by omega) (by omega) hg hh)
      rw [if_neg (by omega)]
      exact backN_at hg (by omega) (by omega)
/-- Each cell of the names back. -/
theorem back_all {ns : List Int} (hg : goodTo ns 8 = true) {i : Nat} (hi : i < 8) : ∃ j, j < 8 ∧ gi ns j = (i : Int) + 1 ∧ gi (backN ns 8) i = (j : Int) + 1 := by
  obtain ⟨j, h1, h2⟩ := good_surj hg (p := i + 1) (by omega) (by omega)
  have := backN_at hg (j := j) (Nat.le_refl 8) h1
  rw [show (gi ns j - 1).toNat = i by omega] at this
  exact ⟨j, h1, by omega, this⟩
theorem back_good {ns : List Int} (hg : goodTo ns 8 = true) : goodTo (backN ns 8) 8 = true := by
  refine good_of (fun i hi => ?_) (fun i j hi hj e => ?_)
  · obtain ⟨j, h1, _, h3⟩ := back_all hg hi
    omega
  · obtain ⟨a, a1, a2, a3⟩ := back_all hg (i := i) (by omega)
    obtain ⟨b, b1, b2, b3⟩ := back_all hg (i := j) (by omega)
    have : a = b := by omega
    subst this
    omega
theorem nm_back {ns : List Int} (hg : goodTo ns 8 = true) (v : Int) : nm (backN ns 8) (nm ns v) = v := by
  by_cases h : isAddrB v = true
  · have h' := isAddrB_iff.1 h
    have ha := nm_addr hg h
    rw [nm, if_pos (isAddrB_iff.2 ha)]
    rw [nm, if_pos h, backN_at hg (Nat.le_refl 8) (by omega)]
    omega
  · have e : nm ns v = v := by rw [nm, if_neg h]
    rw [e, nm, if_neg h]

theorem valid_of {vl hl : List Int} (h1 : vl.length = 8) (h2 : hl.length = 8) (h3 : ∀ i, i < 8 → 0 ≤ gi vl i ∧ gi vl i ≤ 8) (h4 : ∀ i, i < 8 → -1 ≤ gi hl i ∧ gi hl i ≤ 8) : validB vl hl = true := by
  simp only [validB, Bool.and_eq_true, beq_iff_eq, h1, h2, List.all_eq_true]
  refine ⟨trivial, trivial, fun x hx => ?_, fun x hx => ?_⟩
  · obtain ⟨i, hi, rfl⟩ := List.getElem_of_mem hx
    rw [isTermB_iff, ← gi_of hi]
    exact h3 i (by omega)
  · obtain ⟨i, hi, rfl⟩ := List.getElem_of_mem hx
    rw [heapB_iff, ← gi_of hi]
    exact h4 i (by omega)
theorem valid_vat {vl hl : List Int} (h : validB vl hl = true) {i : Nat} (hi : i < 8) : 0 ≤ gi vl i ∧ gi vl i ≤ 8 := by
  have h1 := (valid_len h).1
  have := List.all_eq_true.1 (valid_all h).1 vl[i] (List.getElem_mem (by omega))
  rwa [isTermB_iff, ← gi_of] at this
theorem valid_hat {vl hl : List Int} (h : validB vl hl = true) {i : Nat} (hi : i < 8) : -1 ≤ gi hl i ∧ gi hl i ≤ 8 := by
  have h1 := (valid_len h).2
  have := List.all_eq_true.1 (valid_all h).2 hl[i] (List.getElem_mem (by omega))
  rwa [heapB_iff, ← gi_of] at this

/-- Each cell of a renamed heap. -/
theorem renH_all {ns hs : List Int} (hb : hs.length = 8) (hg : goodTo ns 8 = true) {i : Nat} (hi : i < 8) : ∃ j, j < 8 ∧ gi ns j = (i : Int) + 1 ∧ gi (renH ns hs) i = nm ns (gi hs j) := by
  obtain ⟨j, h1, h2⟩ := good_surj hg (p := i + 1) (by omega) (by omega)
  have := renH_at hb hg h1
  rw [show (gi ns j - 1).toNat = i by omega] at this
  exact ⟨j, h1, by omega, this⟩
theorem ren_valid {ns vl hl : List Int} (hg : goodTo ns 8 = true) (h : validB vl hl = true) : validB (renV ns vl) (renH ns hl) = true := by
  have hl1 := valid_len h
  refine valid_of (by rw [renV_len, hl1.1]) (by rw [renH_len, hl1.2]) (fun i hi => ?_) (fun i hi => ?_)
  · have hv := valid_vat h hi
    have := nm_val hg (v := gi vl i) (by omega) hv.2
    rw [gi_renV (by omega)]; omega
  · obtain ⟨j, h1, h2, h3⟩ := renH_all hl1.2 hg hi
    have hv := valid_hat h h1
    have := nm_val hg hv.1 hv.2
    rw [h3]; omega
theorem renV_back {ns vl : List Int} (hg : goodTo ns 8 = true) : renV (backN ns 8) (renV ns vl) = vl := by
  unfold renV
  rw [List.map_map]
  have : nm (backN ns 8) ∘ nm ns = id := funext fun v => nm_back hg v
  rw [this, List.map_id]
theorem renH_back {ns hl : List Int} (hb : hl.length = 8) (hg : goodTo ns 8 = true) : renH (backN ns 8) (renH ns hl) = hl := by
  refine gi_ext (by rw [renH_len, renH_len]) fun i hi => ?_
  rw [renH_len, renH_len, hb] at hi
  obtain ⟨j, h1, h2, h3⟩ := renH_all (by rw [renH_len, hb]) (back_good hg) hi (hs := renH ns hl)
  rw [h3]
  obtain ⟨a, a1, a2, a3⟩ := back_all hg h1
  have ea : a = i := by omega
  subst ea
  obtain ⟨c, c1, c2, c3⟩ := renH_all hb hg h1
  have ec : c = a := good_inj' (m := 8) c1 a1 hg (by omega)
  subst ec
  rw [c3, nm_back hg]
end Go.Proofs.Ytnhhfbhhglhocaa
