/- Reached cells, in plain Lean. -/
import Derived.Test.YtnhhfbhhglhocaaW3
namespace Go.Proofs.Ytnhhfbhhglhocaa

/-- How many addresses a set has. -/
def cnt (m : Nat) : Nat := ((List.range' 1 8).filter (fun n => m.testBit n)).length
theorem cnt_le (m : Nat) : cnt m ≤ 8 := Nat.le_trans (List.length_filter_le _ _) (by simp)

theorem filter_length_lt {α : Type} (p q : α → Bool) (x : α) : ∀ l : List α, (∀ y, p y = true → q y = true) → x ∈ l → p x = false → q x = true →
    (l.filter p).length < (l.filter q).length
  | [], _, h, _, _ => by cases h
  | a :: l, hpq, hx, hp, hq => by
    have hle : (l.filter p).length ≤ (l.filter q).length := by
      have : ∀ l : List α, (l.filter p).length ≤ (l.filter q).length := by
        intro l
        induction l with
        | nil => simp
        | cons b l ih =>
          simp only [List.filter_cons]
          cases hb : p b
          · cases hq' : q b <;> simp <;> omega
          · rw [hpq b hb]; simpa using ih
      exact this l
    simp only [List.filter_cons]
    rcases List.mem_cons.1 hx with rfl | hx
    · rw [hp, hq]; simp; omega
    · have ih := filter_length_lt p q x l hpq hx hp hq
      cases ha : p a
      · cases hq' : q a <;> simp <;> omega
      · rw [hpq a ha]; simpa using ih

theorem cnt_or (m : Nat) (n : Nat) (h1 : 1 ≤ n) (h8 : n ≤ 8) (hn : m.testBit n = false) : cnt m < cnt (m ||| 2 ^ n) := by
  unfold cnt
  refine filter_length_lt _ _ n _ ?_ ?_ hn ?_
  · intro y hy; rw [testBit_or_pow, hy]; rfl
  · rw [List.mem_range'_1]; omega
  · rw [testBit_or_pow]; simp

/-- What is reached from `v`, added to the set `m`. -/
def reachN (hs : List Int) : Nat → Nat → Int → Nat
  | 0, m, _ => m
  | f + 1, m, v => if alB hs v = true ∧ hasB m v = false then reachN hs f (m ||| 2 ^ v.toNat) (ct hs v) else m

def reachF (hs : List Int) (m : Nat) (v : Int) : Nat := reachN hs 9 m v

theorem al_addr {hs : List Int} {v : Int} (h : alB hs v = true) : 1 ≤ v ∧ v ≤ 8 := by
  unfold alB ct at h
  split at h
  · rename_i h1; exact isAddrB_iff.1 h1
  · simp at h

theorem cnt_step {hs : List Int} {m : Nat} {v : Int} (ha : alB hs v = true) (hh : hasB m v = false) : cnt m < cnt (m ||| 2 ^ v.toNat) := by
  have h := al_addr ha
  refine cnt_or m v.toNat (by omega) (by omega) ?_
  have : isAddrB v = true := isAddrB_iff.2 h
  simpa [hasB, this] using hh

theorem reachN_more (hs : List Int) : ∀ (f g m : Nat) (v : Int), 9 ≤ cnt m + f → 9 ≤ cnt m + g → reachN hs f m v = reachN hs g m v
  | 0, _, m, _, h, _ => by have := cnt_le m; omega
  | _ + 1, 0, m, _, _, h => by have := cnt_le m; omega
  | f + 1, g + 1, m, v, hf, hg => by
    unfold reachN
    split
    · rename_i h
      have := cnt_step h.1 h.2
      exact reachN_more hs f g _ _ (by omega) (by omega)
    · rfl

theorem reachF_yes {hs : List Int} {m : Nat} {v : Int} (ha : alB hs v = true) (hh : hasB m v = false) : reachF hs m v = reachF hs (m ||| 2 ^ v.toNat) (ct hs v) := by
  have h := cnt_step ha hh
  have h2 := cnt_le m
  show reachN hs (8 + 1) m v = _
  unfold reachN
  rw [if_pos ⟨ha, hh⟩]
  exact reachN_more hs 8 9 _ _ (by omega) (by omega)

theorem reachF_no {hs : List Int} {m : Nat} {v : Int} (h : ¬ (alB hs v = true ∧ hasB m v = false)) : reachF hs m v = m := by
  show reachN hs (8 + 1) m v = _
  unfold reachN
  rw [if_neg h]

/-- An induction along the way. -/
theorem reach_ind {hs : List Int} (P : Nat → Int → Nat → Prop) (stop : ∀ m v, ¬ (alB hs v = true ∧ hasB m v = false) → P m v m)
    (step : ∀ m v r, alB hs v = true → hasB m v = false → P (m ||| 2 ^ v.toNat) (ct hs v) r → P m v r) : ∀ m v, P m v (reachF hs m v) := by
  have key : ∀ (k m : Nat) (v : Int), 9 - cnt m ≤ k → P m v (reachF hs m v) := by
    intro k
    induction k with
    | zero => intro m v h; have := cnt_le m; omega
    | succ k ih =>
      intro m v h
      by_cases hc : alB hs v = true ∧ hasB m v = false
      · rw [reachF_yes hc.1 hc.2]
        have := cnt_step hc.1 hc.2
        have := cnt_le (m ||| 2 ^ v.toNat)
        exact step m v _ hc.1 hc.2 (ih _ _ (by omega))
      · rw [reachF_no hc]; exact stop m v hc
  intro m v
  exact key _ m v (Nat.le_refl _)

theorem reachF_lt {hs : List Int} (m : Nat) (v : Int) (hm : m < 65536) : reachF hs m v < 65536 := by
  refine reach_ind (hs := hs) (fun m _ r => m < 65536 → r < 65536) (fun _ _ _ h => h) (fun m v r ha _ ih h => ih ?_) m v hm
  have := al_addr ha
  exact or_lt m _ h (by omega)

/-- Used addresses as a set. -/
def usedN (hs : List Int) : Nat → Nat
  | 0 => 0
  | k + 1 => if alB hs ((k : Int) + 1) = true then usedN hs k ||| 2 ^ (k + 1) else usedN hs k
theorem usedN_lt (hs : List Int) : ∀ k, k ≤ 8 → usedN hs k < 65536
  | 0, _ => by simp [usedN]
  | k + 1, h => by
    unfold usedN
    split
    · exact or_lt _ _ (usedN_lt hs k (by omega)) (by omega)
    · exact usedN_lt hs k (by omega)
theorem usedN_bit (hs : List Int) : ∀ k j, (usedN hs k).testBit j = (decide (1 ≤ j ∧ j ≤ k) && alB hs (j : Int))
  | 0, j => by simp [usedN]; omega
  | k + 1, j => by
    have ih := usedN_bit hs k j
    unfold usedN
    by_cases hj : j = k + 1
    · subst hj
      have : ((k + 1 : Nat) : Int) = (k : Int) + 1 := by omega
      rw [this]
      have e0 : decide (1 ≤ k + 1 ∧ k + 1 ≤ k) = false := by simp
      rw [e0, Bool.false_and] at ih
      split
      · rename_i h; rw [testBit_or_pow, ih, h]; simp
      · rename_i h; rw [ih]; simp at h; simp [h]
    · have e1 : decide (1 ≤ j ∧ j ≤ k + 1) = decide (1 ≤ j ∧ j ≤ k) := by
        rw [decide_eq_decide]; omega
      rw [e1]
      split
      · rw [testBit_or_pow, ih]; simp; intro h; omega
      · exact ih
end Go.Proofs.Ytnhhfbhhglhocaa
