/- The plain law of truth: entailment is sound; what holds has a case. -/
import Derived.Test.YtapoillhgimdiaaRCs6
namespace Go.Proofs.Ytapoillhgimdiaa
open Go.RowKit

def cellL (hs : List Int) (y : Atom) : List Int := (cellV hs y).getD []
theorem cellL_fill {vl hs : List Int} : ∀ (l : List Atom), (∀ x ∈ l, atomB x = true) → l.flatMap (cellsL vl hs) = (fillV (tv vl) l).flatMap (cellL hs)
  | [], _ => rfl
  | x :: l, h => by
    have ih := cellL_fill (vl := vl) (hs := hs) l fun y hy => h y (List.mem_cons_of_mem _ hy)
    rw [List.flatMap_cons, ih, (cells_V x).2]
    unfold fillV
    rw [List.filter_cons]
    by_cases hf : ((x.1 == 1) || (tv vl x.2.1 != tv vl x.2.2)) = true
    · rw [if_pos hf, List.map_cons, List.flatMap_cons]; rfl
    · rw [if_neg hf]
      rw [Bool.or_eq_true, not_or, beq_iff_eq, bne_iff_ne, ne_eq, Decidable.not_not] at hf
      have hk : x.1 = 2 := by
        have := h x List.mem_cons_self
        rw [atomB, Bool.and_eq_true, Bool.or_eq_true, beq_iff_eq, beq_iff_eq] at this
        exact this.1.resolve_left hf.1
      have : cellV hs (valA (tv vl) x) = some [] := by
        rw [cellV, if_pos (show (valA (tv vl) x).1 = 2 from hk)]
        exact wayN_here hf.2
      rw [this]; rfl
/-- Filled atoms of a state whose cells lie apart. -/
structure FillP (hs : List Int) (l : List Atom) : Prop where
  some : ∀ y ∈ l, (cellV hs y).isSome = true
  nd : (l.flatMap (cellL hs)).Nodup
  al : ∀ v ∈ l.flatMap (cellL hs), alB hs v = true
  kinds : Kinds l
  fill : ∀ y ∈ l, y.1 = 1 ∨ y.2.1 ≠ y.2.2
theorem fill_fill {f : Int → Int} {l : List Atom} : ∀ y ∈ fillV f l, y.1 = 1 ∨ y.2.1 ≠ y.2.2 := fun y hy => by
  obtain ⟨x, hx, rfl⟩ := List.mem_map.1 hy
  have := (List.mem_filter.1 hx).2
  rw [Bool.or_eq_true, beq_iff_eq, bne_iff_ne] at this
  exact this
theorem HoldsP.fillP {vl hs : List Int} {a : Asn} (h : HoldsP vl hs a) : FillP hs (fillV (tv vl) a.2) where
  some y hy := by
    obtain ⟨x, hx, rfl⟩ := List.mem_map.1 hy
    have := h.cells x (List.mem_filter.1 hx).1
    rw [(cells_V x).1] at this; exact this
  nd := by rw [← cellL_fill _ (asn_parts h.asn).2]; exact h.nd
  al v hv := by rw [← cellL_fill _ (asn_parts h.asn).2] at hv; exact (h.mem v).1 hv
  kinds := fill_kinds (asn_parts h.asn).2
  fill := fill_fill
section
variable {hs : List Int} {l : List Atom}
/-- The cells of an atom, way or cell. -/
theorem FillP.cell (h : FillP hs l) {y : Atom} (hy : y ∈ l) : (y.1 = 1 ∧ ct hs y.2.1 = y.2.2 ∧ cellL hs y = [y.2.1] ∧ alB hs y.2.1 = true) ∨ (y.1 = 2 ∧ y.2.1 ≠ y.2.2 ∧ Way hs y.2.2 y.2.1 (cellL hs y)) := by
  have hs1 := h.some y hy
  have hal : ∀ v ∈ cellL hs y, alB hs v = true := fun v hv => h.al v (List.mem_flatMap.2 ⟨y, hy, hv⟩)
  rcases h.kinds y hy with hk | hk
  · left
    have hn : ¬ y.1 = 2 := by omega
    unfold cellL cellV at *
    rw [if_neg hn] at hs1 hal ⊢
    cases hc : ct hs y.2.1 == y.2.2 with
    | false => rw [hc] at hs1; cases hs1
    | true =>
      rw [hc] at hal
      exact ⟨hk, beq_iff_eq.1 hc, rfl, hal _ (by simp)⟩
  · right
    refine ⟨hk, (h.fill y hy).resolve_left (by omega), ?_⟩
    unfold cellL cellV at *
    rw [if_pos hk] at hs1 ⊢
    cases hq : wayN hs y.2.2 8 y.2.1 with
    | none => rw [hq] at hs1; cases hs1
    | some r => exact ((way_iff 8 _ r).1 hq).1
theorem FillP.first (h : FillP hs l) {y : Atom} (hy : y ∈ l) : y.2.1 ∈ cellL hs y := by
  rcases h.cell hy with ⟨_, _, e, _⟩ | ⟨_, hne, hw⟩
  · rw [e]; exact List.mem_cons_self
  · exact hw.first hne
theorem flat_two {l : List Atom} {g : Atom → List Int} (h : (l.flatMap g).Nodup) {i j : Nat} (hi : i < l.length) (hj : j < l.length) {v : Int} (h1 : v ∈ g (gd l i)) (h2 : v ∈ g (gd l j)) : i = j := by
  unfold List.Nodup at h
  rw [List.pairwise_flatMap] at h
  have hp := List.pairwise_iff_getElem.1 h.2
  rw [gd_of hi] at h1
  rw [gd_of hj] at h2
  rcases Nat.lt_trichotomy i j with hlt | he | hlt
  · exact absurd rfl (hp i j hi hj hlt v h1 v h2)
  · exact he
  · exact absurd rfl (hp j i hj hi hlt v h2 v h1)
theorem FillP.apart (h : FillP hs l) : Apart l := by
  refine ⟨fun y hy e => ?_, ?_⟩
  · have := al_addr (h.al _ (List.mem_flatMap.2 ⟨y, hy, h.first hy⟩))
    omega
  · rw [List.pairwise_iff_getElem]
    intro i j hi hj hlt e
    have h1 := h.first (List.getElem_mem hi)
    have h2 := h.first (List.getElem_mem hj)
    rw [← gd_of hi] at h1 e
    rw [← gd_of hj] at h2 e
    rw [← e] at h2
    have := flat_two h.nd hi hj h1 h2
    omega
/-- The cells of a chain are a way. -/
theorem FillP.chain (h : FillP hs l) {B : Int} : ∀ (u : List Int) (A : Int), A ≠ B → (∀ i ∈ u, 0 ≤ i ∧ i < (l.length : Int)) → useList l B (clsdB l B) A u = true → Way hs B A (u.flatMap fun i => cellL hs (gd l i.toNat))
  | [], A, _, _, hu => by rw [useList] at hu; cases hu
  | i :: r, A, hAB, hi, hu => by
    have h0 := hi i List.mem_cons_self
    have hlt : i.toNat < l.length := by omega
    have hy := gd_mem hlt
    rw [useList] at hu
    by_cases hA : (gd l i.toNat).2.1 = A
    rotate_left
    · rw [if_neg hA] at hu; cases hu
    rw [if_pos hA] at hu
    rw [List.flatMap_cons]
    by_cases hB : (gd l i.toNat).2.2 = B
    · rw [if_pos hB, List.isEmpty_iff] at hu
      subst hu
      rw [List.flatMap_nil, List.append_nil]
      rcases h.cell hy with ⟨_, c1, c2, c3⟩ | ⟨_, _, hw⟩
      · rw [c2, hA]
        rw [hA] at c1 c3
        exact ⟨rfl, hAB, c3, by rw [c1]; exact hB⟩
      · rw [hA, hB] at hw; exact hw
    · rw [if_neg hB] at hu
      by_cases hc : ((gd l i.toNat).1 == 2 && !clsdB l B) = true
      · rw [if_pos hc] at hu; cases hu
      rw [if_neg hc] at hu
      have ih := FillP.chain h r _ hB (fun x hx => hi x (List.mem_cons_of_mem _ hx)) hu
      rcases h.cell hy with ⟨_, c1, c2, c3⟩ | ⟨hk, hne, hw⟩
      · rw [c2, hA]
        rw [hA] at c1 c3
        exact ⟨rfl, hAB, c3, by rw [c1]; exact ih⟩
      · rw [hA] at hw
        refine Way.app ih hw fun hm => ?_
        have hcl : clsdB l B = true := by
          rw [hk] at hc
          cases hcl : clsdB l B with
          | true => rfl
          | false => rw [hcl] at hc; exact absurd rfl hc
        rw [clsdB, Bool.or_eq_true, beq_iff_eq, List.any_eq_true] at hcl
        rcases hcl with h00 | ⟨z, hz, hzB⟩
        · have := al_addr (h.al B (List.mem_flatMap.2 ⟨_, hy, hm⟩))
          omega
        · rw [beq_iff_eq] at hzB
          obtain ⟨j, hj, rfl⟩ := List.mem_iff_getElem.1 hz
          have hzf := h.first hz
          rw [← gd_of hj] at hzf hzB
          rw [hzB] at hzf
          have := flat_two h.nd hlt hj hm hzf
          rw [← this, hA] at hzB
          exact hAB hzB
end
/-- What holds has a case. -/
theorem HoldsP.poss {vl hs : List Int} {a : Asn} (h : HoldsP vl hs a) : PossV (tv vl) a := ⟨h.facts, h.fillP.apart⟩
theorem tv_zero (vl : List Int) : tv vl 0 = 0 := by rw [tv, if_pos rfl]
/-- Entailment in the case of a state is sound. -/
theorem HoldsP.sound {vl hs : List Int} {a b : Asn} (h : HoldsP vl hs a) (hb : asnB b = true) (hm : MatchV (tv vl) a b) : HoldsP vl hs b := by
  obtain ⟨us, hu⟩ := hm.shares
  have hF := h.fillP
  have hbat := (asn_parts hb).2
  -- the cells of each filled atom of b
  have key : ∀ k, k < (fillV (tv vl) b.2).length → cellV hs (gd (fillV (tv vl) b.2) k) = some ((gd us k).flatMap fun i => cellL hs (gd (fillV (tv vl) a.2) i.toNat)) := fun k hk => by
    have hok := hu.ok k hk
    have hku : k < us.length := by rw [hu.len]; exact hk
    have hin : ∀ i ∈ gd us k, 0 ≤ i ∧ i < ((fillV (tv vl) a.2).length : Int) := fun i hi => (hu.mem i).1 (flatI_mem.2 ⟨k, hku, hi⟩)
    have hy := gd_mem hk
    rw [allowB] at hok
    by_cases hk1 : (gd (fillV (tv vl) b.2) k).1 = 1
    · rw [if_pos hk1, Bool.and_eq_true, beq_iff_eq, decide_eq_true_eq] at hok
      obtain ⟨i, hi⟩ := List.length_eq_one_iff.1 hok.1
      have hok2 := hok.2
      rw [hi] at hok2 hin ⊢
      have hg : gi [i] 0 = i := rfl
      rw [hg] at hok2
      have hi0 := hin i List.mem_cons_self
      rw [List.flatMap_cons, List.flatMap_nil, List.append_nil, hok2, cellL]
      have hs := hF.some _ (gd_mem (l := fillV (tv vl) a.2) (i := i.toNat) (by omega))
      rw [hok2] at hs
      cases hq : cellV _ (gd (fillV (tv vl) b.2) k) with
      | none => rw [hq] at hs; cases hs
      | some r => rfl
    · rw [if_neg hk1] at hok
      have hk2 : (gd (fillV (tv vl) b.2) k).1 = 2 := (fill_kinds hbat _ hy).resolve_left hk1
      have hne := (fill_fill _ hy).resolve_left hk1
      have hw := hF.chain _ _ hne hin hok
      rw [cellV, if_pos hk2, way_iff]
      refine ⟨hw, al_len ?_ hw.al⟩
      have hnd := flatI_one hu.nd hku
      have hn := hF.nd
      unfold List.Nodup at hn ⊢
      rw [List.pairwise_flatMap]
      refine ⟨fun i hi => ?_, List.Pairwise.imp_of_mem (fun {i j} hi hj hij x hx y hy e => ?_) hnd⟩
      · have := hin i hi
        rw [List.pairwise_flatMap] at hn
        exact hn.1 _ (gd_mem (by omega))
      · subst e
        have a1 := hin i hi
        have a2 := hin j hj
        have := flat_two hF.nd (by omega) (by omega) hx hy
        exact hij (by omega)
  have hlist : (fillV (tv vl) b.2).flatMap (cellL hs) = us.flatten.flatMap fun i => cellL hs (gd (fillV (tv vl) a.2) i.toNat) := by
    have e1 : (fillV (tv vl) b.2).map (cellL hs) = us.map fun u => u.flatMap fun i => cellL hs (gd (fillV (tv vl) a.2) i.toNat) := by
      refine List.ext_getElem (by simp [hu.len]) fun k h1 h2 => ?_
      rw [List.getElem_map, List.getElem_map]
      have hk : k < (fillV (tv vl) b.2).length := by simpa using h1
      have hk2 : k < us.length := by rw [hu.len]; exact hk
      have := key k hk
      rw [gd_of hk, gd_of hk2] at this
      rw [cellL, this]; rfl
    rw [List.flatMap_def, e1, flat_flatMap]
  have hmem : ∀ v, v ∈ (fillV (tv vl) b.2).flatMap (cellL hs) ↔ v ∈ (fillV (tv vl) a.2).flatMap (cellL hs) := fun v => by
    rw [hlist, List.mem_flatMap, List.mem_flatMap]
    constructor
    · rintro ⟨i, hi, hv⟩
      have := (hu.mem i).1 hi
      exact ⟨_, gd_mem (by omega), hv⟩
    · rintro ⟨y, hy, hv⟩
      obtain ⟨i, hi, rfl⟩ := List.mem_iff_getElem.1 hy
      exact ⟨(i : Int), (hu.mem _).2 (by omega), by rw [Int.toNat_natCast, gd_of hi]; exact hv⟩
  refine ⟨h.valid, hb, hm.facts, fun x hx => ?_, ?_, fun v => ?_⟩
  · rw [(cells_V x).1]
    by_cases hf : ((x.1 == 1) || (tv vl x.2.1 != tv vl x.2.2)) = true
    · have hy : valA (tv vl) x ∈ fillV (tv vl) b.2 := List.mem_map.2 ⟨x, List.mem_filter.2 ⟨hx, hf⟩, rfl⟩
      obtain ⟨k, hk, e⟩ := List.mem_iff_getElem.1 hy
      have := key k hk
      rw [gd_of hk, e] at this
      rw [this]; rfl
    · rw [Bool.or_eq_true, not_or, beq_iff_eq, bne_iff_ne, ne_eq, Decidable.not_not] at hf
      have hk : x.1 = 2 := by
        have := hbat x hx
        rw [atomB, Bool.and_eq_true, Bool.or_eq_true, beq_iff_eq, beq_iff_eq] at this
        exact this.1.resolve_left hf.1
      rw [cellV, if_pos (show (valA (tv vl) x).1 = 2 from hk), show wayN hs (valA (tv vl) x).2.2 8 (valA (tv vl) x).2.1 = some [] from wayN_here hf.2]; rfl
  · rw [cellL_fill _ hbat, hlist]
    have hn := hF.nd
    unfold List.Nodup at hn ⊢
    rw [List.pairwise_flatMap]
    refine ⟨fun i hi => ?_, List.Pairwise.imp_of_mem (fun {i j} hi hj hij x hx y hy e => ?_) hu.nd⟩
    · have := (hu.mem i).1 hi
      rw [List.pairwise_flatMap] at hn
      exact hn.1 _ (gd_mem (by omega))
    · subst e
      have a1 := (hu.mem i).1 hi
      have a2 := (hu.mem j).1 hj
      have := flat_two hF.nd (by omega) (by omega) hx hy
      exact hij (by omega)
  · rw [cellL_fill _ hbat, hmem, ← cellL_fill _ (asn_parts h.asn).2]
    exact h.mem v
/-- Entailment is sound. -/
theorem ent_sound {vl hs : List Int} {a b : Asn} (he : entB a b = true) (h : holdsB vl hs a = true) : holdsB vl hs b = true := by
  obtain ⟨ha, hb⟩ := ent_valid he
  rw [holds_iff] at h ⊢
  exact h.sound hb ((ent_iff ha hb).1 he _ (tv_zero vl) h.poss)
end Go.Proofs.Ytapoillhgimdiaa
