/- The plain law of truth: entailment is sound; what holds has a case. -/
import Derived.Test.YtapoillhgimdiaaTCs6
namespace Go.Proofs.Ytapoillhgimdiaa
open Go.RowKit

def cellL (hs : List Int) (y : Atom) : List Int := (cellV hs y).getD []
theorem cellL_fill {vl hs : List Int} : ∀ (l : List Atom), (∀ x ∈ l, atomB x = true) → l.flatMap (cellsL vl hs) = (fillV (tv vl) l).flatMap (cellL hs)
  | [], _ => rfl
  | x :: l, h => by
    have ih := cellL_fill (vl := vl) (hs := hs) l fun y hy => h y (List.mem_cons_of_mem _ hy)
    rw [List.flatMap_cons, ih, (cells_V x).2]
    unfold fillV
    rw [List.filter_cons]
    by_cases hf : ((x.1 == 1) || (tv vl x.2.1 != tv vl x.2.2)) = true
    · rw [if_pos hf, List.map_cons, List.flatMap_cons]; rfl
    · rw [if_neg hf]
      rw [Bool.or_eq_true, not_or, beq_iff_eq, bne_iff_ne, ne_eq, Decidable.not_not] at hf
      have hk : x.1 = 2 := by
        have := h x List.mem_cons_self
        rw [atomB, Bool.and_eq_true, Bool.or_eq_true, beq_iff_eq, beq_iff_eq] at this
        exact this.1.resolve_left hf.1
      have : cellV hs (valA (tv vl) x) = some [] := by
        rw [cellV, if_pos (show (valA (tv vl) x).1 = 2 from hk)]
        exact wayN_here hf.2
      rw [this]; rfl
/-- Filled atoms of a state whose cells lie apart. -/
structure FillP (hs : List Int) (l : List Atom) : Prop where
  some : ∀ y ∈ l, (cellV hs y).isSome = true
  nd : (l.flatMap (cellL hs)).Nodup
  al : ∀ v ∈ l.flatMap (cellL hs), alB hs v = true
  kinds : Kinds l
  fill : ∀ y ∈ l, y.1 = 1 ∨ y.2.1 ≠ y.2.2
theorem fill_fill {f : Int → Int} {l : List Atom} : ∀ y ∈ fillV f l, y.1 = 1 ∨ y.2.1 ≠ y.2.2 := fun y hy => by
  obtain ⟨x, hx, rfl⟩ := List.mem_map.1 hy
  have := (List.mem_filter.1 hx).2
  rw [Bool.or_eq_true, beq_iff_eq, bne_iff_ne] at this
  exact this
section
variable {hs : List Int} {l : List Atom}
/-- The cells of an atom, way or cell. -/
theorem FillP.cell (h : FillP hs l) {y : Atom} (hy : y ∈ l) : (y.1 = 1 ∧ ct hs y.2.1 = y.2.2 ∧ cellL hs y = [y.2.1] ∧ alB hs y.2.1 = true) ∨ (y.1 = 2 ∧ y.2.1 ≠ y.2.2 ∧ Way hs y.2.2 y.2.1 (cellL hs y)) := by
  have hs1 := h.some y hy
  have hal : ∀ v ∈ cellL hs y, alB hs v = true := fun v hv => h.al v (List.mem_flatMap.2 ⟨y, hy, hv⟩)
  rcases h.kinds y hy with hk | hk
  · left
    have hn : ¬ y.1 = 2 := by omega
    unfold cellL cellV at *
    rw [if_neg hn] at hs1 hal ⊢
    cases hc : ct hs y.2.1 == y.2.2 with
    | false => rw [hc] at hs1; cases hs1
    | true =>
      rw [hc] at hal
      exact ⟨hk, beq_iff_eq.1 hc, rfl, hal _ (by simp)⟩
  · right
    refine ⟨hk, (h.fill y hy).resolve_left (by omega), ?_⟩
    unfold cellL cellV at *
    rw [if_pos hk] at hs1 ⊢
    cases hq : wayN hs y.2.2 8 y.2.1 with
    | none => rw [hq] at hs1; cases hs1
    | some r => exact ((way_iff 8 _ r).1 hq).1
theorem FillP.first (h : FillP hs l) {y : Atom} (hy : y ∈ l) : y.2.1 ∈ cellL hs y := by
  rcases h.cell hy with ⟨_, _, e, _⟩ | ⟨_, hne, hw⟩
  · rw [e]; exact List.mem_cons_self
  · exact hw.first hne
theorem flat_two {l : List Atom} {g : Atom → List Int} (h : (l.flatMap g).Nodup) {i j : Nat} (hi : i < l.length) (hj : j < l.length) {v : Int} (h1 : v ∈ g (gd l i)) (h2 : v ∈ g (gd l j)) : i = j := by
  unfold List.Nodup at h
  rw [List.pairwise_flatMap] at h
  have hp := List.pairwise_iff_getElem.1 h.2
  rw [gd_of hi] at h1
  rw [gd_of hj] at h2
  rcases Nat.lt_trichotomy i j with hlt | he | hlt
  · exact absurd rfl (hp i j hi hj hlt v h1 v h2)
  · exact he
  · exact absurd rfl (hp j i hj hi hlt v h2 v h1)
theorem FillP.apart (h : FillP hs l) : Apart l := by
  refine ⟨fun y hy e => ?_, ?_⟩
  · have := al_addr (h.al _ (List.mem_flatMap.2 ⟨y, hy, h.first hy⟩))
    omega
  · rw [List.pairwise_iff_getElem]
    intro i j hi hj hlt e
    have h1 := h.first (List.getElem_mem hi)
    have h2 := h.first (List.getElem_mem hj)
    rw [← gd_of hi] at h1 e
    rw [← gd_of hj] at h2 e
    rw [← e] at h2
    have := flat_two h.nd hi hj h1 h2
    omega
end
theorem tv_zero (vl : List Int) : tv vl 0 = 0 := by rw [tv, if_pos rfl]
end Go.Proofs.Ytapoillhgimdiaa
