/- The plain law of trimming: which assertions of a family are kept; a trimmed family entails the family and is entailed by it, and stays as it is. -/
import Derived.Test.YtapoillhgimdiaaEnt2
import Derived.Test.YtapoillhgimdiaaFam3
set_option linter.unusedVariables false
namespace Go.Proofs.Ytapoillhgimdiaa
open Go.RowKit

/-- The assertion k does not make the assertion i needless. -/
def stepN (l : List Asn) (i k : Nat) : Bool := decide (k = i) || (!entB (gd l i) (gd l k) || (decide (i < k) && entB (gd l k) (gd l i)))
def needTo (l : List Asn) (i n : Nat) : Bool := (List.range n).all (stepN l i)
def needB (l : List Asn) (i : Nat) : Bool := consB (gd l i) && needTo l i l.length
def trimTo (l : List Asn) (k : Nat) : List Asn := ((List.range k).filter (needB l)).map (gd l)
def trimL (l : List Asn) : List Asn := trimTo l l.length
def trimR (l : List Asn) : List Asn := if famB l = true then trimL l else []
theorem need_more {l : List Asn} {i k : Nat} : needTo l i (k + 1) = (needTo l i k && stepN l i k) := by
  rw [needTo, List.range_succ, List.all_append]; simp [needTo]
theorem need_no {l : List Asn} {i k n : Nat} (h : needTo l i k = false) (hk : k ≤ n) : needTo l i n = false := by
  rw [needTo, List.all_eq_false] at h ⊢
  obtain ⟨j, hj, hp⟩ := h
  rw [List.mem_range] at hj
  exact ⟨j, List.mem_range.2 (by omega), hp⟩
theorem trim_zero (l : List Asn) : trimTo l 0 = [] := rfl
theorem trim_yes {l : List Asn} {k : Nat} (h : needB l k = true) : trimTo l (k + 1) = trimTo l k ++ [gd l k] := by
  rw [trimTo, List.range_succ, List.filter_append, List.map_append]; simp [trimTo, h]
theorem trim_no {l : List Asn} {k : Nat} (h : needB l k = false) : trimTo l (k + 1) = trimTo l k := by
  rw [trimTo, List.range_succ, List.filter_append, List.map_append]; simp [trimTo, h]
theorem trimTo_len (l : List Asn) (k : Nat) : (trimTo l k).length ≤ k := by
  rw [trimTo, List.length_map]
  have := List.length_filter_le (needB l) (List.range k)
  rw [List.length_range] at this
  exact this
theorem trim_mem {l : List Asn} {k : Nat} (hk : k ≤ l.length) {x : Asn} (h : x ∈ trimTo l k) : ∃ i, i < k ∧ needB l i = true ∧ x = gd l i := by
  rw [trimTo, List.mem_map] at h
  obtain ⟨i, hi, rfl⟩ := h
  rw [List.mem_filter, List.mem_range] at hi
  exact ⟨i, hi.1, hi.2, rfl⟩
theorem trim_fam {l : List Asn} (h : famB l = true) : famB (trimL l) = true := by
  have h0 := h
  simp only [famB, Bool.and_eq_true, decide_eq_true_eq, List.all_eq_true] at h ⊢
  refine ⟨Nat.le_trans (trimTo_len l l.length) h.1, fun x hx => ?_⟩
  obtain ⟨i, hi, _, rfl⟩ := trim_mem (Nat.le_refl _) hx
  exact h.2 _ (gd_mem hi)
theorem cons_ent {a b : Asn} (h : consB a = true) (he : entB a b = true) : consB b = true := by
  obtain ⟨ha, hb⟩ := ent_valid he
  obtain ⟨f, f0, hp⟩ := (cons_iff ha).1 h
  exact (cons_iff hb).2 ⟨f, f0, match_poss hp ((ent_iff ha hb).1 he f f0 hp)⟩
theorem count_lt {p q : Nat → Bool} : ∀ {r : List Nat}, (∀ x ∈ r, p x = true → q x = true) → (∃ x, x ∈ r ∧ q x = true ∧ p x = false) → r.countP p < r.countP q
  | [], _, h => by obtain ⟨x, hx, _⟩ := h; cases hx
  | y :: r, hm, h => by
    have hm2 : ∀ x ∈ r, p x = true → q x = true := fun x hx => hm x (List.mem_cons_of_mem _ hx)
    have hle : r.countP p ≤ r.countP q := List.countP_mono_left hm2
    rw [List.countP_cons, List.countP_cons]
    obtain ⟨x, hx, hq, hp⟩ := h
    rcases List.mem_cons.1 hx with rfl | hx
    · rw [hq, hp]; simp only [if_true, Bool.false_eq_true, if_false]; omega
    · have := count_lt hm2 ⟨x, hx, hq, hp⟩
      cases hpy : p y with
      | true => rw [hm y List.mem_cons_self hpy]; simp only [if_true]; omega
      | false => simp only [Bool.false_eq_true, if_false]; split <;> omega
/-- How many assertions an assertion entails. -/
def upN (l : List Asn) (i : Nat) : Nat := (List.range l.length).countP fun k => entB (gd l i) (gd l k)
theorem up_le {l : List Asn} {i k : Nat} (h : entB (gd l i) (gd l k) = true) : upN l k ≤ upN l i :=
  List.countP_mono_left fun _ _ hx => ent_trans h hx
theorem up_lt {l : List Asn} (hl : famB l = true) {i k : Nat} (hi : i < l.length) (h : entB (gd l i) (gd l k) = true) (hn : entB (gd l k) (gd l i) = false) : upN l k < upN l i :=
  count_lt (fun _ _ hx => ent_trans h hx) ⟨i, List.mem_range.2 hi, ent_refl (fam_mem hl (gd_mem hi)), hn⟩
theorem trim_top {l : List Asn} (hl : famB l = true) : ∀ (m i : Nat), upN l i * (l.length + 1) + i ≤ m → i < l.length → consB (gd l i) = true → ∃ j, j < l.length ∧ needB l j = true ∧ entB (gd l i) (gd l j) = true := by
  intro m
  induction m with
  | zero =>
    intro i hm hi hc
    have h1 : 0 < upN l i := by
      rw [upN, List.countP_pos_iff]
      exact ⟨i, List.mem_range.2 hi, ent_refl (fam_mem hl (gd_mem hi))⟩
    have h2 : 1 * (l.length + 1) ≤ upN l i * (l.length + 1) := Nat.mul_le_mul_right _ h1
    omega
  | succ m ih =>
    intro i hm hi hc
    cases hb : needB l i with
    | true => exact ⟨i, hi, hb, ent_refl (fam_mem hl (gd_mem hi))⟩
    | false =>
      rw [needB, hc, Bool.true_and, needTo, List.all_eq_false] at hb
      obtain ⟨k, hk, hs⟩ := hb
      rw [List.mem_range] at hk
      simp only [stepN, Bool.or_eq_true, Bool.and_eq_true, decide_eq_true_eq, Bool.not_eq_true', not_or, not_and, Bool.not_eq_false] at hs
      obtain ⟨h1, h2, h3⟩ := hs
      have hck := cons_ent hc h2
      have hlt : upN l k * (l.length + 1) + k ≤ m := by
        cases he : entB (gd l k) (gd l i) with
        | true =>
          have hle := up_le h2
          have hik : ¬ i < k := fun hik => h3 hik he
          have := Nat.mul_le_mul_right (l.length + 1) hle
          omega
        | false =>
          have hlt := up_lt hl hi h2 he
          have := Nat.mul_le_mul_right (l.length + 1) (Nat.succ_le_of_lt hlt)
          rw [Nat.succ_mul] at this
          omega
      obtain ⟨j, hj, hn, he⟩ := ih k hlt hk hck
      exact ⟨j, hj, hn, ent_trans h2 he⟩
theorem trim_in {l : List Asn} {j : Nat} (hj : j < l.length) (h : needB l j = true) : gd l j ∈ trimL l := by
  rw [trimL, trimTo, List.mem_map]
  exact ⟨j, List.mem_filter.2 ⟨List.mem_range.2 hj, h⟩, rfl⟩
/-- The trimmed family and the family entail one another. -/
theorem trim_ent {l : List Asn} (hl : famB l = true) : famEntB (trimL l) l = true ∧ famEntB l (trimL l) = true := by
  have ht := trim_fam hl
  constructor
  · rw [famEntB, ht, hl, Bool.true_and, Bool.true_and, List.all_eq_true]
    intro x hx
    obtain ⟨i, hi, _, rfl⟩ := trim_mem (Nat.le_refl _) hx
    rw [famOne, Bool.or_eq_true, List.any_eq_true]
    exact .inr ⟨_, gd_mem hi, ent_refl (fam_mem hl (gd_mem hi))⟩
  · rw [famEntB, ht, hl, Bool.true_and, Bool.true_and, List.all_eq_true]
    intro x hx
    rw [famOne, Bool.or_eq_true, List.any_eq_true]
    cases hc : consB x with
    | false => exact .inl rfl
    | true =>
      right
      obtain ⟨i, hi, rfl⟩ : ∃ i, i < l.length ∧ x = gd l i := by
        obtain ⟨i, hi, e⟩ := List.getElem_of_mem hx
        exact ⟨i, hi, by rw [gd_of hi, e]⟩
      obtain ⟨j, hj, hn, he⟩ := trim_top hl _ i (Nat.le_refl _) hi hc
      exact ⟨_, trim_in hj hn, he⟩
theorem trim_again {l : List Asn} (hl : famB l = true) : trimL (trimL l) = trimL l := by
  obtain ⟨ix, hix⟩ : ∃ ix, ix = (List.range l.length).filter (needB l) := ⟨_, rfl⟩
  have hx : trimL l = ix.map (gd l) := by rw [hix]; rfl
  have hlt : ∀ j ∈ ix, needB l j = true := fun j hj => by rw [hix, List.mem_filter] at hj; exact hj.2
  have hsort : ix.Pairwise (· < ·) := by rw [hix]; exact List.Pairwise.filter _ List.pairwise_lt_range
  have hin : ∀ j ∈ ix, j < l.length := fun j hj => by rw [hix, List.mem_filter, List.mem_range] at hj; exact hj.1
  clear hix
  rw [hx]
  obtain ⟨x, hxd⟩ : ∃ x, x = ix.map (gd l) := ⟨_, rfl⟩
  have hlen : x.length = ix.length := by rw [hxd, List.length_map]
  have hg : ∀ p (hp : p < ix.length), gd x p = gd l ix[p] := fun p hp => by rw [gd_of (by omega)]; simp [hxd]
  rw [← hxd]
  have hall : ∀ p ∈ List.range x.length, needB x p = true := by
    intro p hp
    rw [List.mem_range] at hp
    have hp2 : p < ix.length := by omega
    have hm := List.getElem_mem hp2
    have hn := hlt _ hm
    rw [needB, Bool.and_eq_true] at hn
    rw [needB, Bool.and_eq_true]
    refine ⟨by rw [hg p hp2]; exact hn.1, ?_⟩
    rw [needTo, List.all_eq_true]
    intro q hq
    rw [List.mem_range] at hq
    have hq2 : q < ix.length := by omega
    have hs := List.all_eq_true.1 hn.2 ix[q] (List.mem_range.2 (hin _ (List.getElem_mem hq2)))
    have hpw := List.pairwise_iff_getElem.1 hsort
    simp only [stepN, Bool.or_eq_true, Bool.and_eq_true, decide_eq_true_eq] at hs ⊢
    rw [hg p hp2, hg q hq2]
    by_cases e : q = p
    · exact .inl e
    · right
      rcases hs with hs | hs | ⟨hs1, hs2⟩
      · exfalso
        rcases Nat.lt_or_gt_of_ne e with h | h
        · have := hpw q p hq2 hp2 h; omega
        · have := hpw p q hp2 hq2 h; omega
      · exact .inl hs
      · refine .inr ⟨?_, hs2⟩
        rcases Nat.lt_or_gt_of_ne e with h | h
        · have := hpw q p hq2 hp2 h; omega
        · exact h
  rw [trimL, trimTo, List.filter_eq_self.2 hall]
  refine gd_ext (by simp) fun i hi => ?_
  have hi2 : i < x.length := by simpa using hi
  rw [gd_of hi]; simp
theorem trim_size {l : List Asn} : Mk.size (trimR l) ≤ 1048576 := by
  rw [trimR]
  split
  · rename_i h
    have := size_fam (trim_fam h)
    omega
  · exact Nat.zero_le _
end Go.Proofs.Ytapoillhgimdiaa
