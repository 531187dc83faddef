/- The plain law of entailment: cases are values up to renaming; entailment is reflexive and transitive. -/
import Derived.Test.YthoingdcmdhllaaCs4
namespace Go.Proofs.Ythoingdcmdhllaa
open Go.RowKit

def factV (f : Int → Int) (x : Fact) : Bool := (f x.2.1 == f x.2.2) == x.1
def fillV (f : Int → Int) (l : List Atom) : List Atom := (l.filter fun x => (x.1 == 1) || (f x.2.1 != f x.2.2)).map fun x => (x.1, f x.2.1, f x.2.2)
def valC (cl : List Int) (t : Int) : Int := gi cl t.toNat
theorem fill_val (cl : List Int) (l : List Atom) : filledL cl l = fillV (valC cl) l := rfl
theorem fact_val (cl : List Int) (x : Fact) : factC cl x = factV (valC cl) x := rfl
structure PossV (f : Int → Int) (a : Asn) : Prop where
  facts : ∀ x ∈ a.1, factV f x = true
  apart : Apart (fillV f a.2)
structure MatchV (f : Int → Int) (a b : Asn) : Prop where
  facts : ∀ x ∈ b.1, factV f x = true
  shares : ∃ us, Shares (fillV f a.2) (fillV f b.2) us
def mapA (φ : Int → Int) (x : Atom) : Atom := (x.1, φ x.2.1, φ x.2.2)
/-- Two ways to give values that make the same terms equal. -/
def Pat (M : Nat) (f g : Int → Int) : Prop := ∀ t u, hasT M t = true → hasT M u = true → (f t = f u ↔ g t = g u)
theorem Pat.symm {M : Nat} {f g : Int → Int} (h : Pat M f g) : Pat M g f := fun t u ht hu => (h t u ht hu).symm
/-- A renaming of classes: no two of those that occur become one. -/
structure Ren (P : Int → Prop) (φ : Int → Int) : Prop where
  inj : ∀ u v, P u → P v → φ u = φ v → u = v
  zero : P 0
  at0 : φ 0 = 0
def Occ (P : Int → Prop) (l : List Atom) : Prop := ∀ y ∈ l, P y.2.1 ∧ P y.2.2
section
variable {P : Int → Prop} {φ : Int → Int} {left right : List Atom}
theorem gd_mapA {i : Nat} (h : i < left.length) : gd (left.map (mapA φ)) i = mapA φ (gd left i) := by
  rw [gd_of (by rw [List.length_map]; exact h), List.getElem_map, gd_of h]
theorem Ren.eq (h : Ren P φ) {u v : Int} (hu : P u) (hv : P v) : φ u = φ v ↔ u = v := ⟨h.inj u v hu hv, fun e => by rw [e]⟩
theorem clsd_map (h : Ren P φ) (hl : Occ P left) {B : Int} (hB : P B) : clsdB (left.map (mapA φ)) (φ B) = clsdB left B := by
  rw [clsdB, clsdB, List.any_map]
  congr 1
  · rw [Bool.eq_iff_iff, beq_iff_eq, beq_iff_eq]
    constructor
    · intro e; exact h.inj _ _ hB h.zero (by rw [e, h.at0])
    · intro e; rw [e, h.at0]
  · rw [Bool.eq_iff_iff, List.any_eq_true, List.any_eq_true]
    constructor
    · rintro ⟨y, hy, e⟩
      refine ⟨y, hy, ?_⟩
      simp only [Function.comp, mapA, beq_iff_eq] at e ⊢
      exact h.inj _ _ (hl y hy).1 hB e
    · rintro ⟨y, hy, e⟩
      refine ⟨y, hy, ?_⟩
      simp only [Function.comp, mapA, beq_iff_eq] at e ⊢
      rw [e]
theorem useList_map (h : Ren P φ) (hl : Occ P left) {B : Int} (hB : P B) (cl : Bool) : ∀ (u : List Int) (A : Int), P A → (∀ i ∈ u, 0 ≤ i ∧ i < (left.length : Int)) → useList left B cl A u = true → useList (left.map (mapA φ)) (φ B) cl (φ A) u = true
  | [], A, _, _, hu => by rw [useList] at hu; cases hu
  | i :: r, A, hA, hi, hu => by
    have h0 := hi i List.mem_cons_self
    have hm := hl _ (gd_mem (l := left) (i := i.toNat) (by omega))
    have e0 : gd (left.map (mapA φ)) i.toNat = mapA φ (gd left i.toNat) := gd_mapA (by omega)
    rw [useList] at hu ⊢
    by_cases e : (gd left i.toNat).2.1 = A
    rotate_left
    · rw [if_neg e] at hu; cases hu
    rw [if_pos e] at hu
    rw [if_pos (show (gd (left.map (mapA φ)) i.toNat).2.1 = φ A by rw [e0]; exact congrArg φ e)]
    by_cases e2 : (gd left i.toNat).2.2 = B
    · rw [if_pos e2] at hu
      rw [if_pos (show (gd (left.map (mapA φ)) i.toNat).2.2 = φ B by rw [e0]; exact congrArg φ e2)]; exact hu
    · rw [if_neg e2] at hu
      rw [if_neg (show ¬ (gd (left.map (mapA φ)) i.toNat).2.2 = φ B from fun e3 => by rw [e0] at e3; exact e2 (h.inj _ _ hm.2 hB e3))]
      by_cases hc : ((gd left i.toNat).1 == 2 && !cl) = true
      · rw [if_pos hc] at hu; cases hu
      rw [if_neg hc] at hu
      rw [if_neg (show ¬ ((gd (left.map (mapA φ)) i.toNat).1 == 2 && !cl) = true by rw [e0]; exact hc), e0]
      exact useList_map h hl hB cl r _ hm.2 (fun x hx => hi x (List.mem_cons_of_mem _ hx)) hu
theorem allow_map (h : Ren P φ) (hl : Occ P left) {x : Atom} (hx : P x.2.1 ∧ P x.2.2) {u : List Int} (hi : ∀ i ∈ u, 0 ≤ i ∧ i < (left.length : Int)) (hu : allowB left x u = true) : allowB (left.map (mapA φ)) (mapA φ x) u = true := by
  rw [allowB] at hu ⊢
  by_cases hk : x.1 = 1
  · rw [if_pos hk, Bool.and_eq_true, beq_iff_eq, decide_eq_true_eq] at hu
    rw [if_pos (show (mapA φ x).1 = 1 from hk), Bool.and_eq_true, beq_iff_eq, decide_eq_true_eq]
    obtain ⟨i, rfl⟩ := List.length_eq_one_iff.1 hu.1
    have hg : gi [i] 0 = i := rfl
    rw [hg] at hu ⊢
    have h0 := hi i List.mem_cons_self
    exact ⟨rfl, by rw [gd_mapA (by omega), hu.2]⟩
  · rw [if_neg hk] at hu
    rw [if_neg (show ¬ (mapA φ x).1 = 1 from hk)]
    show useList (left.map (mapA φ)) (φ x.2.2) (clsdB (left.map (mapA φ)) (φ x.2.2)) (φ x.2.1) u = true
    rw [clsd_map h hl hx.2]
    exact useList_map h hl hx.2 _ u _ hx.1 hi hu
theorem shares_map (h : Ren P φ) (hl : Occ P left) (hr : Occ P right) {us : List (List Int)} (hs : Shares left right us) : Shares (left.map (mapA φ)) (right.map (mapA φ)) us where
  len := by rw [List.length_map]; exact hs.len
  ok k hk := by
    rw [List.length_map] at hk
    rw [gd_mapA hk]
    exact allow_map h hl (hr _ (gd_mem hk)) (fun i hi => (hs.mem i).1 (flatI_mem.2 ⟨k, by rw [hs.len]; exact hk, hi⟩)) (hs.ok k hk)
  nd := hs.nd
  mem j := by rw [List.length_map]; exact hs.mem j
theorem apart_map (h : Ren P φ) (hl : Occ P left) (ha : Apart left) : Apart (left.map (mapA φ)) := by
  refine ⟨fun y hy => ?_, ?_⟩
  · obtain ⟨x, hx, rfl⟩ := List.mem_map.1 hy
    intro e
    exact ha.1 x hx (h.inj _ _ (hl x hx).1 h.zero (by rw [h.at0]; exact e))
  · rw [List.pairwise_map]
    refine List.Pairwise.imp_of_mem (fun {x y} hx hy hne e => ?_) ha.2
    exact hne (h.inj _ _ (hl x hx).1 (hl y hy).1 e)
end
/-- All terms of atoms are in a set. -/
def TermsIn (M : Nat) (l : List Atom) : Prop := ∀ x ∈ l, hasT M x.2.1 = true ∧ hasT M x.2.2 = true
def FactsIn (M : Nat) (l : List Fact) : Prop := ∀ x ∈ l, hasT M x.2.1 = true ∧ hasT M x.2.2 = true
def renV2 (M : Nat) (f g : Int → Int) (v : Int) : Int := match (List.range 9).find? (fun t => M.testBit t && (f (t : Int) == v)) with | some t => g (t : Int) | none => 0
section
variable {M : Nat} {f g : Int → Int}
theorem hasT_iff {t : Int} : hasT M t = true ↔ 0 ≤ t ∧ t ≤ 8 ∧ M.testBit t.toNat = true := by
  rw [hasT, Bool.and_eq_true, isTermB_iff]; constructor
  · rintro ⟨⟨h1, h2⟩, h3⟩; exact ⟨h1, h2, h3⟩
  · rintro ⟨h1, h2, h3⟩; exact ⟨⟨h1, h2⟩, h3⟩
theorem ren_at (h : Pat M f g) {t : Int} (ht : hasT M t = true) : renV2 M f g (f t) = g t := by
  obtain ⟨h0, h8, hb⟩ := hasT_iff.1 ht
  rw [renV2]
  cases hq : (List.range 9).find? (fun u => M.testBit u && (f (u : Int) == f t)) with
  | none =>
    rw [List.find?_eq_none] at hq
    have := hq t.toNat (List.mem_range.2 (by omega))
    rw [hb, show ((t.toNat : Nat) : Int) = t by omega] at this
    simp at this
  | some u =>
    have h1 := List.mem_range.1 (List.mem_of_find?_eq_some hq)
    have h2 := List.find?_some hq
    simp only [Bool.and_eq_true, beq_iff_eq] at h2
    exact (h (u : Int) t (hasT_iff.2 ⟨by omega, by omega, by rw [Int.toNat_natCast]; exact h2.1⟩) ht).1 h2.2
theorem ren_ren (h : Pat M f g) (h0 : hasT M 0 = true) (f0 : f 0 = 0) (g0 : g 0 = 0) : Ren (fun v => ∃ t, hasT M t = true ∧ f t = v) (renV2 M f g) where
  inj := by
    rintro u v ⟨t, ht, rfl⟩ ⟨s, hs, rfl⟩ e
    rw [ren_at h ht, ren_at h hs] at e
    exact (h t s ht hs).2 e
  zero := ⟨0, h0, f0⟩
  at0 := by have := ren_at h h0; rwa [f0, g0] at this
theorem fill_occ {l : List Atom} (hl : TermsIn M l) : Occ (fun v => ∃ t, hasT M t = true ∧ f t = v) (fillV f l) := fun y hy => by
  obtain ⟨x, hx, rfl⟩ := List.mem_map.1 hy
  have := hl x (List.mem_filter.1 hx).1
  exact ⟨⟨_, this.1, rfl⟩, ⟨_, this.2, rfl⟩⟩
theorem fill_ren (h : Pat M f g) {l : List Atom} (hl : TermsIn M l) : fillV g l = (fillV f l).map (mapA (renV2 M f g)) := by
  rw [fillV, fillV, List.map_map]
  have e : (l.filter fun x => (x.1 == 1) || (g x.2.1 != g x.2.2)) = l.filter fun x => (x.1 == 1) || (f x.2.1 != f x.2.2) := by
    refine List.filter_congr fun x hx => ?_
    congr 1
    have := h _ _ (hl x hx).1 (hl x hx).2
    rw [Bool.eq_iff_iff, bne_iff_ne, bne_iff_ne]
    exact (not_congr this).symm
  rw [e]
  refine List.map_congr_left fun x hx => ?_
  have := hl x (List.mem_filter.1 hx).1
  show _ = (x.1, renV2 M f g (f x.2.1), renV2 M f g (f x.2.2))
  rw [ren_at h this.1, ren_at h this.2]
theorem fact_pat (h : Pat M f g) {x : Fact} (hx : hasT M x.2.1 = true ∧ hasT M x.2.2 = true) : factV f x = factV g x := by
  rw [factV, factV]
  congr 1
  rw [Bool.eq_iff_iff, beq_iff_eq, beq_iff_eq]
  exact h _ _ hx.1 hx.2
theorem PossV.pat {a : Asn} (h : PossV f a) (hp : Pat M f g) (h0 : hasT M 0 = true) (f0 : f 0 = 0) (g0 : g 0 = 0) (h1 : FactsIn M a.1) (h2 : TermsIn M a.2) : PossV g a where
  facts x hx := by rw [← fact_pat hp (h1 x hx)]; exact h.facts x hx
  apart := by rw [fill_ren hp h2]; exact apart_map (ren_ren hp h0 f0 g0) (fill_occ h2) h.apart
theorem MatchV.pat {a b : Asn} (h : MatchV f a b) (hp : Pat M f g) (h0 : hasT M 0 = true) (f0 : f 0 = 0) (g0 : g 0 = 0) (h1 : FactsIn M b.1) (h2 : TermsIn M a.2) (h3 : TermsIn M b.2) : MatchV g a b where
  facts x hx := by rw [← fact_pat hp (h1 x hx)]; exact h.facts x hx
  shares := by
    obtain ⟨us, hs⟩ := h.shares
    rw [fill_ren hp h2, fill_ren hp h3]
    exact ⟨us, shares_map (ren_ren hp h0 f0 g0) (fill_occ h2) (fill_occ h3) hs⟩
end
/-- The case of values. -/
def caseV (M : Nat) (f : Int → Int) : List Int := (List.range 9).map fun t => if M.testBit t = true then (match (List.range 9).find? (fun k => M.testBit k && (f (k : Int) == f (t : Int))) with | some k => (k : Int) | none => -1) else -1
theorem case_at {M : Nat} {f : Int → Int} {t : Nat} (ht : t < 9) (hb : M.testBit t = true) : ∃ k : Nat, gi (caseV M f) t = (k : Int) ∧ k ≤ t ∧ M.testBit k = true ∧ f (k : Int) = f (t : Int) ∧ ∀ j, j < k → M.testBit j = true → ¬ f (j : Int) = f (t : Int) := by
  have hg : gi (caseV M f) t = (match (List.range 9).find? (fun k => M.testBit k && (f (k : Int) == f (t : Int))) with | some k => (k : Int) | none => -1) := by
    rw [gi_of (by simp [caseV]; exact ht)]
    simp only [caseV, List.getElem_map, List.getElem_range, if_pos hb]
  cases hq : (List.range 9).find? (fun k => M.testBit k && (f (k : Int) == f (t : Int))) with
  | none =>
    rw [List.find?_eq_none] at hq
    have := hq t (List.mem_range.2 ht)
    rw [hb] at this
    simp at this
  | some k =>
    rw [hq] at hg
    rw [List.find?_range_eq_some] at hq
    obtain ⟨h1, h2, h3⟩ := hq
    simp only [Bool.and_eq_true, beq_iff_eq] at h1
    refine ⟨k, hg, ?_, h1.1, h1.2, fun j hj hjb e => ?_⟩
    · apply Nat.le_of_not_lt
      intro hlt
      have := h3 t hlt
      rw [hb] at this
      simp at this
    · have := h3 j hj
      rw [hjb, e] at this
      simp at this
theorem case_out {M : Nat} {f : Int → Int} {t : Nat} (ht : t < 9) (hb : M.testBit t = false) : gi (caseV M f) t = -1 := by
  rw [gi_of (by simp [caseV]; exact ht)]
  simp [caseV, hb]
theorem case_shape (M : Nat) (f : Int → Int) : shapeC M (caseV M f) = true := by
  rw [shapeC, Bool.and_eq_true, beq_iff_eq, List.all_eq_true]
  refine ⟨by simp [caseV], fun t ht => ?_⟩
  have ht' := List.mem_range.1 ht
  rw [stepC]
  cases hb : M.testBit t with
  | true =>
    obtain ⟨k, h1, h2, h3, h4, h5⟩ := case_at (f := f) ht' hb
    obtain ⟨k2, g1, g2, g3, g4, g5⟩ := case_at (f := f) (t := k) (by omega) h3
    rw [if_pos rfl, h1, Int.toNat_natCast, g1]
    simp only [Bool.and_eq_true, decide_eq_true_eq, beq_iff_eq]
    refine ⟨by omega, by omega, ?_⟩
    have : ¬ k2 < k := fun hlt => h5 k2 hlt g3 (by rw [g4, h4])
    omega
  | false =>
    rw [if_neg (by decide), case_out ht' hb]; rfl
theorem case_pat (M : Nat) (f : Int → Int) : Pat M (valC (caseV M f)) f := fun t u ht hu => by
  obtain ⟨t0, t8, tb⟩ := hasT_iff.1 ht
  obtain ⟨u0, u8, ub⟩ := hasT_iff.1 hu
  obtain ⟨k, h1, h2, h3, h4, h5⟩ := case_at (f := f) (t := t.toNat) (by omega) tb
  obtain ⟨k2, g1, g2, g3, g4, g5⟩ := case_at (f := f) (t := u.toNat) (by omega) ub
  rw [show ((t.toNat : Nat) : Int) = t by omega] at h4 h5
  rw [show ((u.toNat : Nat) : Int) = u by omega] at g4 g5
  rw [valC, valC, h1, g1]
  constructor
  · intro e
    have : k = k2 := by omega
    subst this
    rw [← h4, ← g4]
  · intro e
    have a1 : ¬ k2 < k := fun hlt => h5 k2 hlt g3 (by rw [g4, e])
    have a2 : ¬ k < k2 := fun hlt => g5 k hlt h3 (by rw [h4, e])
    have : k = k2 := by omega
    rw [this]
theorem shape_zero {M : Nat} {cl : List Int} (h : shapeC M cl = true) (hb : M.testBit 0 = true) : valC cl 0 = 0 := by
  have := step_bit h (t := 0) (by omega) hb
  show gi cl 0 = 0
  omega
/-- The conditions of a case are about values only. -/
theorem poss_val {M : Nat} {a : Asn} {cl : List Int} (ha : asnB a = true) (hs : shapeC M cl = true) (h2 : TermsIn M a.2) : possC cl 8 a = true ↔ PossV (valC cl) a := by
  have hv : a.2.all atomB = true := by simp only [asnB, Bool.and_eq_true] at ha; exact ha.2.2
  have hap : startsO cl 8 0 a.2 = apartB (filledL cl a.2) := starts_apart hv fun x hx => by
    obtain ⟨x0, x8, xb⟩ := hasT_iff.1 (h2 x hx).1
    have := step_bit hs (t := x.2.1.toNat) (by omega) xb
    exact isTermB_iff.2 ⟨this.1, by omega⟩
  rw [possC, Bool.and_eq_true, hap, apartB_iff, List.all_eq_true]
  have key : ∀ f ∈ a.1, okF cl 8 f = factV (valC cl) f := fun f hf => by
    obtain ⟨_, f2, _, f4⟩ := factB_le ((asn_parts ha).1 f hf)
    rw [okF, if_pos ⟨f2, f4⟩]; rfl
  constructor
  · rintro ⟨p1, p2⟩
    exact ⟨fun x hx => by rw [← key x hx]; exact p1 x hx, p2⟩
  · rintro ⟨p1, p2⟩
    exact ⟨fun x hx => by rw [key x hx]; exact p1 x hx, p2⟩
/-- A set of terms that holds those of an assertion, and nil. -/
def Covers (M : Nat) (a : Asn) : Prop := FactsIn M a.1 ∧ TermsIn M a.2
theorem covers_of {M : Nat} {a : Asn} (ha : asnB a = true) (h : ∀ j, (termsM a).testBit j = true → M.testBit j = true) : Covers M a := by
  refine ⟨fun f hf => ?_, fun x hx => ?_⟩
  · obtain ⟨⟨p1, p2⟩, ⟨q1, q2⟩⟩ := fact_bits ha hf
    rw [hasT, hasT, p1, q1, h _ p2, h _ q2]; exact ⟨rfl, rfl⟩
  · obtain ⟨⟨p1, p2⟩, ⟨q1, q2⟩⟩ := atom_bits ha hx
    rw [hasT, hasT, p1, q1, h _ p2, h _ q2]; exact ⟨rfl, rfl⟩
theorem one_bit (m j : Nat) : (termM m 0).testBit j = (m.testBit j || decide (j = 0)) := by
  rw [termM_bit]
  congr 1
  show (isTermB 0 && decide ((0 : Int) = (j : Int))) = _
  rw [show isTermB 0 = true from rfl, Bool.true_and, decide_eq_decide]; omega
theorem both_cov {a b : Asn} (ha : asnB a = true) (hb : asnB b = true) : Covers (bothM a b) a ∧ Covers (bothM a b) b ∧ (bothM a b).testBit 0 = true := by
  refine ⟨covers_of ha fun j hj => ?_, covers_of hb fun j hj => ?_, ?_⟩
  · rw [bothM, Nat.testBit_or, one_bit, hj]; rfl
  · rw [bothM, Nat.testBit_or, hj, Bool.or_true]
  · rw [bothM, Nat.testBit_or, one_bit]; simp
theorem zero_has {M : Nat} (h : M.testBit 0 = true) : hasT M 0 = true := by rw [hasT_iff]; exact ⟨by decide, by decide, h⟩
/-- A test of all cases is a test of all values. -/
theorem cases_val {M : Nat} {a : Asn} (ha : asnB a = true) (hc : Covers M a) (hb : M.testBit 0 = true) (Q : (Int → Int) → Prop) (hQ : ∀ f g, f 0 = 0 → g 0 = 0 → Pat M f g → Q f → Q g) :
    (∀ cl ∈ casesL M a, Q (valC cl)) ↔ ∀ f, f 0 = 0 → PossV f a → Q f := by
  constructor
  · intro h f f0 hp
    have hs := case_shape M f
    have c0 := shape_zero hs hb
    have hpat := case_pat M f
    have := h (caseV M f) (mem_cases.2 ⟨hs, (poss_val ha hs hc.2).2 (hp.pat hpat.symm (zero_has hb) f0 c0 hc.1 hc.2)⟩)
    exact hQ _ f c0 f0 hpat this
  · intro h cl hcl
    obtain ⟨hs, hp⟩ := mem_cases.1 hcl
    exact h _ (shape_zero hs hb) ((poss_val ha hs hc.2).1 hp)
theorem match_val {M : Nat} {a b : Asn} {cl : List Int} (ha : asnB a = true) (hs : shapeC M cl = true) (hp : possC cl 8 a = true) (hc : TermsIn M a.2) : failC a b cl = false ↔ MatchV (valC cl) a b := by
  have hap := ((poss_val ha hs hc).1 hp).apart
  rw [failC, matchC]
  constructor
  · intro h
    by_cases hf : b.1.all (factC cl) = true
    · rw [if_pos hf] at h
      rw [List.all_eq_true] at hf
      cases hm : mtchF (filledL cl a.2) (filledL cl b.2) with
      | none => rw [hm] at h; cases h
      | some us => exact ⟨hf, us, (mtchF_iff hap).1 hm⟩
    · rw [if_neg hf] at h; cases h
  · rintro ⟨hf, us, hm⟩
    rw [if_pos (show b.1.all (factC cl) = true from List.all_eq_true.2 hf), show mtchF (filledL cl a.2) (filledL cl b.2) = some us from (mtchF_iff hap).2 hm]; rfl
/-- Entailment, as a law of values. -/
theorem ent_iff {a b : Asn} (ha : asnB a = true) (hb : asnB b = true) : entB a b = true ↔ ∀ f, f 0 = 0 → PossV f a → MatchV f a b := by
  obtain ⟨ca, cb, c0⟩ := both_cov ha hb
  rw [← cases_val ha ca c0 (fun f => MatchV f a b) fun f g f0 g0 hp h => h.pat hp (zero_has c0) f0 g0 cb.1 ca.2 cb.2]
  rw [entB, ha, hb, Bool.true_and, Bool.true_and, Option.isNone_iff_eq_none, failO, List.find?_eq_none]
  constructor
  · intro h cl hcl
    obtain ⟨hs, hp⟩ := mem_cases.1 hcl
    exact (match_val ha hs hp ca.2).1 (by simpa using h cl hcl)
  · intro h cl hcl
    obtain ⟨hs, hp⟩ := mem_cases.1 hcl
    rw [(match_val ha hs hp ca.2).2 (h cl hcl)]; decide
theorem cons_iff {a : Asn} (ha : asnB a = true) : consB a = true ↔ ∃ f, f 0 = 0 ∧ PossV f a := by
  have hc : Covers (termM (termsM a) 0) a := covers_of ha fun j hj => by rw [one_bit, hj]; rfl
  have hb : (termM (termsM a) 0).testBit 0 = true := by rw [one_bit]; simp
  have := cases_val ha hc hb (fun _ => False) fun _ _ _ _ _ h => h
  rw [consB, ha, Bool.true_and, Bool.not_eq_true', ← Bool.not_eq_true, List.isEmpty_iff]
  constructor
  · intro h
    apply Classical.byContradiction
    intro hn
    have h2 := this.2 fun f f0 hp => hn ⟨f, f0, hp⟩
    exact h (List.eq_nil_iff_forall_not_mem.2 h2)
  · rintro ⟨f, f0, hp⟩ he
    rw [he] at this
    exact this.1 (fun cl hcl => absurd hcl (List.not_mem_nil)) f f0 hp
theorem ent_valid {a b : Asn} (h : entB a b = true) : asnB a = true ∧ asnB b = true := by
  rw [entB, Bool.and_eq_true, Bool.and_eq_true] at h; exact ⟨h.1, h.2.1⟩
theorem fill_kinds {f : Int → Int} {l : List Atom} (h : ∀ x ∈ l, atomB x = true) : Kinds (fillV f l) := fun y hy => by
  obtain ⟨x, hx, rfl⟩ := List.mem_map.1 hy
  have := h x (List.mem_filter.1 hx).1
  rw [atomB, Bool.and_eq_true, Bool.or_eq_true, beq_iff_eq, beq_iff_eq] at this
  exact this.1
theorem ent_refl {a : Asn} (ha : asnB a = true) : entB a a = true :=
  (ent_iff ha ha).2 fun _ _ hp => ⟨hp.facts, _, shares_refl _⟩
theorem match_poss {f : Int → Int} {a b : Asn} (hp : PossV f a) (hm : MatchV f a b) : PossV f b := by
  obtain ⟨us, hs⟩ := hm.shares
  exact ⟨hm.facts, shares_apart hp.apart hs⟩
theorem match_trans {f : Int → Int} {a b d : Asn} (hb : asnB b = true) (hp : PossV f a) (h1 : MatchV f a b) (h2 : MatchV f b d) : MatchV f a d := by
  obtain ⟨us, hu⟩ := h1.shares
  obtain ⟨vs, hv⟩ := h2.shares
  exact ⟨h2.facts, _, shares_trans hp.apart (fill_kinds (asn_parts hb).2) hu hv⟩
theorem ent_trans {a b d : Asn} (h1 : entB a b = true) (h2 : entB b d = true) : entB a d = true := by
  obtain ⟨ha, hb⟩ := ent_valid h1
  obtain ⟨_, hd⟩ := ent_valid h2
  rw [ent_iff ha hb] at h1
  rw [ent_iff hb hd] at h2
  exact (ent_iff ha hd).2 fun f f0 hp => match_trans hb hp (h1 f f0 hp) (h2 f f0 (match_poss hp (h1 f f0 hp)))
end Go.Proofs.Ythoingdcmdhllaa
