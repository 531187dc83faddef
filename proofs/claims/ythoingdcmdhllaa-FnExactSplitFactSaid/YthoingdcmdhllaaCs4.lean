/- The plain law of matching: it is reflexive and transitive. -/
import Derived.Test.YthoingdcmdhllaaCs3
namespace Go.Proofs.Ythoingdcmdhllaa
open Go.RowKit

theorem flatI_mem {us : List (List Int)} {x : Int} : x ∈ us.flatten ↔ ∃ i, i < us.length ∧ x ∈ gd us i := by
  rw [List.mem_flatten]
  constructor
  · rintro ⟨u, hu, hx⟩
    obtain ⟨i, hi, rfl⟩ := List.mem_iff_getElem.1 hu
    exact ⟨i, hi, by rw [gd_of hi]; exact hx⟩
  · rintro ⟨i, hi, hx⟩
    exact ⟨_, gd_mem hi, hx⟩
theorem flatI_one {us : List (List Int)} (h : us.flatten.Nodup) {i : Nat} (hi : i < us.length) : (gd us i).Nodup := by
  unfold List.Nodup at h
  rw [List.pairwise_flatten] at h
  exact h.1 _ (gd_mem hi)
theorem flatI_two {us : List (List Int)} (h : us.flatten.Nodup) {i j : Nat} (hi : i < us.length) (hj : j < us.length) {x : Int} (h1 : x ∈ gd us i) (h2 : x ∈ gd us j) : i = j := by
  unfold List.Nodup at h
  rw [List.pairwise_flatten] at h
  have hp := List.pairwise_iff_getElem.1 h.2
  rw [gd_of hi] at h1
  rw [gd_of hj] at h2
  rcases Nat.lt_trichotomy i j with hlt | he | hlt
  · exact absurd rfl (hp i j hi hj hlt x h1 x h2)
  · exact he
  · exact absurd rfl (hp j i hj hi hlt x h2 x h1)
def onesI (n : Nat) : List (List Int) := (List.range n).map fun (i : Nat) => [(i : Int)]
theorem ones_len (n : Nat) : (onesI n).length = n := by simp [onesI]
theorem gd_ones {n k : Nat} (h : k < n) : gd (onesI n) k = [(k : Int)] := by
  rw [gd_of (by rw [ones_len]; exact h)]; simp [onesI]
theorem useList_one {left : List Atom} {k : Nat} (cl : Bool) : useList left (gd left k).2.2 cl (gd left k).2.1 [(k : Int)] = true := by
  simp [useList]
theorem allow_self {left : List Atom} {k : Nat} {x : Atom} (h : gd left k = x) : allowB left x [(k : Int)] = true := by
  subst h
  have hg : gi [(k : Int)] 0 = k := rfl
  rw [allowB, hg]
  split
  · simp
  · exact useList_one _
theorem ones_flat (n : Nat) : (onesI n).flatten = (List.range n).map Int.ofNat := by
  unfold onesI
  induction (List.range n) with
  | nil => rfl
  | cons k l ih => rw [List.map_cons, List.flatten_cons, ih]; rfl
/-- Each list of atoms shares itself out. -/
theorem shares_refl (l : List Atom) : Shares l l (onesI l.length) where
  len := ones_len _
  ok k hk := by rw [gd_ones hk]; exact allow_self rfl
  nd := by
    rw [ones_flat]
    unfold List.Nodup
    rw [List.pairwise_map]
    refine List.Pairwise.imp (fun {a b} (h : a < b) e => ?_) List.pairwise_lt_range
    have : (a : Int) = (b : Int) := e
    omega
  mem j := by
    rw [ones_flat, List.mem_map]
    constructor
    · rintro ⟨k, hk, rfl⟩
      have := List.mem_range.1 hk
      show 0 ≤ (k : Int) ∧ (k : Int) < _
      omega
    · rintro ⟨h0, h1⟩
      exact ⟨j.toNat, List.mem_range.2 (by omega), by show ((j.toNat : Nat) : Int) = j; omega⟩
theorem useList_first {left : List Atom} {B : Int} {cl : Bool} {A : Int} {u : List Int} (h : useList left B cl A u = true) : ∃ i r, u = i :: r ∧ (gd left i.toNat).2.1 = A := by
  cases u with
  | nil => rw [useList] at h; cases h
  | cons i r =>
    rw [useList] at h
    by_cases hA : (gd left i.toNat).2.1 = A
    · exact ⟨i, r, rfl, hA⟩
    · rw [if_neg hA] at h; cases h
theorem allow_first {left : List Atom} {x : Atom} {u : List Int} (h : allowB left x u = true) : ∃ i r, u = i :: r ∧ (gd left i.toNat).2.1 = x.2.1 := by
  rw [allowB] at h
  by_cases hx : x.1 = 1
  · rw [if_pos hx, Bool.and_eq_true, beq_iff_eq, decide_eq_true_eq] at h
    obtain ⟨k, rfl⟩ := List.length_eq_one_iff.1 h.1
    have hk : gi [k] 0 = k := rfl
    rw [hk] at h
    exact ⟨k, [], rfl, by rw [h.2]⟩
  · rw [if_neg hx] at h
    exact useList_first h
theorem useList_app {left : List Atom} {B C : Int} {clc : Bool} (hC : C ≠ B) {T : List Int} (hT : useList left B true C T = true) : ∀ {S : List Int} {A : Int}, useList left C clc A S = true → (∀ i ∈ S.tail, (gd left i.toNat).2.1 ≠ B) → useList left B true A (S ++ T) = true
  | [], A, h, _ => by rw [useList] at h; cases h
  | i :: r, A, h, hn => by
    rw [useList] at h
    rw [List.cons_append, useList]
    by_cases hA : (gd left i.toNat).2.1 = A
    rotate_left
    · rw [if_neg hA] at h; cases h
    rw [if_pos hA] at h ⊢
    by_cases hB : (gd left i.toNat).2.2 = C
    · rw [if_pos hB, List.isEmpty_iff] at h
      subst h
      rw [if_neg (by rw [hB]; exact hC), if_neg (by simp), hB]
      exact hT
    · rw [if_neg hB] at h
      by_cases hc : ((gd left i.toNat).1 == 2 && !clc) = true
      · rw [if_pos hc] at h; cases h
      rw [if_neg hc] at h
      obtain ⟨i2, r2, rfl, h2⟩ := useList_first h
      rw [if_neg (by rw [← h2]; exact hn i2 List.mem_cons_self), if_neg (by simp)]
      exact useList_app hC hT h fun i hi => hn i (List.mem_cons_of_mem _ hi)
theorem flat_flatMap (g : Int → List Int) : ∀ vs : List (List Int), (vs.map fun v => v.flatMap g).flatten = vs.flatten.flatMap g
  | [] => rfl
  | v :: vs => by rw [List.map_cons, List.flatten_cons, List.flatten_cons, List.flatMap_append, flat_flatMap g vs]
/-- Kinds that there are. -/
def Kinds (l : List Atom) : Prop := ∀ y ∈ l, y.1 = 1 ∨ y.1 = 2
/-- Sharing out is transitive. -/
theorem shares_trans {la lb ld : List Atom} {us vs : List (List Int)} (ha : Apart la) (hk : Kinds lb) (h1 : Shares la lb us) (h2 : Shares lb ld vs) :
    Shares la ld (vs.map fun v => v.flatMap fun j => gd us j.toNat) := by
  have hin : ∀ {k : Nat}, k < us.length → ∀ i ∈ gd us k, 0 ≤ i ∧ i < (la.length : Int) := fun hk i hi => (h1.mem i).1 (flatI_mem.2 ⟨_, hk, hi⟩)
  have hflat : (vs.map fun v => v.flatMap fun j => gd us j.toNat).flatten = vs.flatten.flatMap fun j => gd us j.toNat := flat_flatMap _ vs
  have closed : ∀ B, clsdB lb B = true → B = 0 ∨ ∃ j, j < us.length ∧ ∃ i r, gd us j = i :: r ∧ 0 ≤ i ∧ i < (la.length : Int) ∧ (gd la i.toNat).2.1 = B := fun B hB => by
    rw [clsdB, Bool.or_eq_true, beq_iff_eq, List.any_eq_true] at hB
    refine hB.imp id ?_
    rintro ⟨y, hy, hyB⟩
    obtain ⟨j, hj, rfl⟩ := List.mem_iff_getElem.1 hy
    rw [beq_iff_eq] at hyB
    have hju : j < us.length := by rw [h1.len]; exact hj
    obtain ⟨i, r, e, he⟩ := allow_first (h1.ok j hj)
    rw [gd_of hj, hyB] at he
    have := hin hju i (by rw [e]; exact List.mem_cons_self)
    exact ⟨j, hju, i, r, e, this.1, this.2, he⟩
  have closed2 : ∀ B, clsdB lb B = true → clsdB la B = true := fun B hB => by
    rw [clsdB, Bool.or_eq_true, beq_iff_eq, List.any_eq_true]
    rcases closed B hB with h0 | ⟨j, _, i, r, _, i0, i1, he⟩
    · exact .inl h0
    · exact .inr ⟨gd la i.toNat, gd_mem (by omega), by rw [beq_iff_eq]; exact he⟩
  have comp : ∀ (B : Int) (v : List Int) (A : Int), (∀ j ∈ v, 0 ≤ j ∧ j < (lb.length : Int)) → useList lb B (clsdB lb B) A v = true → useList la B (clsdB la B) A (v.flatMap fun j => gd us j.toNat) = true := by
    intro B v
    induction v with
    | nil => intro A _ h; rw [useList] at h; cases h
    | cons j r ih =>
      intro A hv h
      have hj := hv j List.mem_cons_self
      have hjb : j.toNat < lb.length := by omega
      have hju : j.toNat < us.length := by rw [h1.len]; exact hjb
      have hok := h1.ok j.toNat hjb
      rw [useList] at h
      rw [List.flatMap_cons]
      by_cases hA : (gd lb j.toNat).2.1 = A
      rotate_left
      · rw [if_neg hA] at h; cases h
      rw [if_pos hA] at h
      by_cases hB : (gd lb j.toNat).2.2 = B
      · rw [if_pos hB, List.isEmpty_iff] at h
        subst h
        rw [List.flatMap_nil, List.append_nil]
        rw [allowB] at hok
        by_cases hc : (gd lb j.toNat).1 = 1
        · rw [if_pos hc, Bool.and_eq_true, beq_iff_eq, decide_eq_true_eq] at hok
          obtain ⟨i, hi⟩ := List.length_eq_one_iff.1 hok.1
          have hok2 := hok.2
          rw [hi] at hok2 ⊢
          have hg : gi [i] 0 = i := rfl
          rw [hg] at hok2
          rw [useList, hok2, if_pos hA, if_pos hB]; rfl
        · rw [if_neg hc, hA, hB] at hok
          exact hok
      · rw [if_neg hB] at h
        by_cases hc : ((gd lb j.toNat).1 == 2 && !clsdB lb B) = true
        · rw [if_pos hc] at h; cases h
        rw [if_neg hc] at h
        have hr := ih _ (fun x hx => hv x (List.mem_cons_of_mem _ hx)) h
        rw [allowB] at hok
        by_cases hc1 : (gd lb j.toNat).1 = 1
        · rw [if_pos hc1, Bool.and_eq_true, beq_iff_eq, decide_eq_true_eq] at hok
          obtain ⟨i, hi⟩ := List.length_eq_one_iff.1 hok.1
          have hok2 := hok.2
          rw [hi] at hok2 ⊢
          have hg : gi [i] 0 = i := rfl
          rw [hg] at hok2
          rw [List.singleton_append, useList, hok2, if_pos hA, if_neg hB, if_neg (by rw [hc1]; simp)]
          exact hr
        · rw [if_neg hc1] at hok
          have hk2 : (gd lb j.toNat).1 = 2 := (hk _ (gd_mem hjb)).resolve_left hc1
          have hcb : clsdB lb B = true := by
            rw [hk2] at hc
            cases hcl : clsdB lb B with
            | true => rfl
            | false => rw [hcl] at hc; exact absurd rfl hc
          have hca := closed2 B hcb
          rw [hca] at hr ⊢
          rw [hA] at hok
          refine useList_app hB hr hok fun i hi e => ?_
          have hi' : i ∈ gd us j.toNat := List.mem_of_mem_tail hi
          have hir := hin hju i hi'
          rcases closed B hcb with h0 | ⟨j', hj', i', r', e', i0, i1, he⟩
          · exact apart_ne ha (i := i.toNat) (by omega) (by rw [e, h0])
          · have hii : i.toNat = i'.toNat := apart_inj ha (by omega) (by omega) (by rw [e, he])
            have hii' : i = i' := by omega
            subst hii'
            have := flatI_two h1.nd hju hj' hi' (by rw [e']; exact List.mem_cons_self)
            subst this
            have hnd := flatI_one h1.nd hju
            rw [e'] at hi hnd
            exact (List.nodup_cons.1 hnd).1 hi
  refine ⟨by rw [List.length_map]; exact h2.len, fun k hkd => ?_, ?_, fun j => ?_⟩
  · have hkv : k < vs.length := by rw [h2.len]; exact hkd
    have hg : gd (vs.map fun v => v.flatMap fun j => gd us j.toNat) k = (gd vs k).flatMap fun j => gd us j.toNat := by
      rw [gd_of (by rw [List.length_map]; exact hkv), List.getElem_map, gd_of hkv]
    rw [hg]
    have hr : ∀ j ∈ gd vs k, 0 ≤ j ∧ j < (lb.length : Int) := fun j hj => (h2.mem j).1 (flatI_mem.2 ⟨k, hkv, hj⟩)
    have hok := h2.ok k hkd
    by_cases hx : (gd ld k).1 = 1
    · rw [allowB, if_pos hx, Bool.and_eq_true, beq_iff_eq, decide_eq_true_eq] at hok
      obtain ⟨j, hj⟩ := List.length_eq_one_iff.1 hok.1
      have hok2 := hok.2
      rw [hj] at hok2 hr ⊢
      have hgj : gi [j] 0 = j := rfl
      rw [hgj] at hok2
      have hj0 := hr j List.mem_cons_self
      rw [List.flatMap_cons, List.flatMap_nil, List.append_nil, ← hok2]
      exact h1.ok j.toNat (by omega)
    · rw [allowB, if_neg hx] at hok ⊢
      exact comp _ _ _ hr hok
  · rw [hflat]
    unfold List.Nodup
    rw [List.pairwise_flatMap]
    refine ⟨fun j hj => ?_, ?_⟩
    · have := (h2.mem j).1 hj
      exact flatI_one h1.nd (by rw [h1.len]; omega)
    · refine List.Pairwise.imp_of_mem (fun {i j} hi hj hne x hx y hy e => ?_) h2.nd
      subst e
      have a1 := (h2.mem i).1 hi
      have a2 := (h2.mem j).1 hj
      have := flatI_two h1.nd (by rw [h1.len]; omega) (by rw [h1.len]; omega) hx hy
      exact hne (by omega)
  · rw [hflat, List.mem_flatMap, ← h1.mem j, flatI_mem]
    constructor
    · rintro ⟨i, hi, hj⟩
      have := (h2.mem i).1 hi
      exact ⟨i.toNat, by rw [h1.len]; omega, hj⟩
    · rintro ⟨i, hi, hj⟩
      rw [h1.len] at hi
      exact ⟨(i : Int), (h2.mem _).2 (by omega), by rw [Int.toNat_natCast]; exact hj⟩
/-- What is shared out begins apart. -/
theorem shares_apart {la lb : List Atom} {us : List (List Int)} (ha : Apart la) (h : Shares la lb us) : Apart lb := by
  have first : ∀ k, k < lb.length → ∃ i : Nat, i < la.length ∧ (i : Int) ∈ gd us k ∧ (gd la i).2.1 = (gd lb k).2.1 := fun k hk => by
    obtain ⟨i, r, e, he⟩ := allow_first (h.ok k hk)
    have hm : i ∈ gd us k := by rw [e]; exact List.mem_cons_self
    have := (h.mem i).1 (flatI_mem.2 ⟨k, by rw [h.len]; exact hk, hm⟩)
    exact ⟨i.toNat, by omega, by rw [show ((i.toNat : Nat) : Int) = i by omega]; exact hm, he⟩
  refine ⟨fun y hy => ?_, ?_⟩
  · obtain ⟨k, hk, rfl⟩ := List.mem_iff_getElem.1 hy
    obtain ⟨i, hi, _, e⟩ := first k hk
    rw [gd_of hk] at e
    rw [← e]
    exact apart_ne ha hi
  · rw [List.pairwise_iff_getElem]
    intro k1 k2 hk1 hk2 hlt e
    obtain ⟨i1, hi1, m1, e1⟩ := first k1 hk1
    obtain ⟨i2, hi2, m2, e2⟩ := first k2 hk2
    rw [gd_of hk1] at e1
    rw [gd_of hk2] at e2
    have := apart_inj ha hi1 hi2 (by rw [e1, e2, e])
    subst this
    have := flatI_two h.nd (by rw [h.len]; exact hk1) (by rw [h.len]; exact hk2) m1 m2
    omega
end Go.Proofs.Ythoingdcmdhllaa
