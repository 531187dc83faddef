/- CsA: texts Cs1, Cs2, Cs3, Cs4, Cs5 in one. -/
import Derived.Test.YtdjfdopgjlbloaaVCaseC
/- The plain law of cases: the list of the possible cases, and what may be cut off early. -/
namespace Go.Proofs.Ytdjfdopgjlbloaa
open Go.RowKit

/-- The classes that a term may take behind a beginning of a case. -/
def chC (M : Nat) (p : List Int) : List Int :=
  if M.testBit p.length = true then ((List.range (p.length + 1)).filter fun k => k == p.length || gi p k == (k : Int)).map Int.ofNat else [-1]
/-- All ways to go on. -/
def shapesL (M : Nat) : Nat → List Int → List (List Int)
  | 0, p => [p]
  | n + 1, p => (chC M p).flatMap fun c => shapesL M n (p ++ [c])
/-- The possible cases behind a beginning. -/
def restL (M : Nat) (a : Asn) (n : Nat) (p : List Int) : List (List Int) := (shapesL M n p).filter fun cl => possC cl 8 a
/-- The possible cases. -/
def casesL (M : Nat) (a : Asn) : List (List Int) := restL M a 9 []

theorem gi_app1 {p q : List Int} {i : Nat} (h : i < p.length) : gi (p ++ q) i = gi p i := by
  rw [gi, gi, List.getD_eq_getElem?_getD, List.getD_eq_getElem?_getD, List.getElem?_append_left h]
theorem gi_snoc (p : List Int) (x : Int) : gi (p ++ [x]) p.length = x := by
  rw [gi, List.getD_eq_getElem?_getD, List.getElem?_append_right (Nat.le_refl _), Nat.sub_self]; rfl
theorem gi_pre {p cl : List Int} (h : cl.take p.length = p) {i : Nat} (hi : i < p.length) : gi cl i = gi p i := by
  have h2 : cl = p ++ cl.drop p.length := by
    have := List.take_append_drop p.length cl
    rw [h] at this; exact this.symm
  rw [h2]; exact gi_app1 hi
theorem mem_chC {M : Nat} {p : List Int} {c : Int} (hb : M.testBit p.length = true) : c ∈ chC M p ↔ 0 ≤ c ∧ c ≤ (p.length : Int) ∧ (c = (p.length : Int) ∨ gi p c.toNat = c) := by
  rw [chC, if_pos hb, List.mem_map]
  constructor
  · rintro ⟨k, hk, rfl⟩
    rw [List.mem_filter, List.mem_range] at hk
    obtain ⟨h1, h2⟩ := hk
    simp only [Bool.or_eq_true, beq_iff_eq] at h2
    refine ⟨Int.natCast_nonneg _, by show (k : Int) ≤ _; omega, ?_⟩
    rcases h2 with h2 | h2
    · left; show (k : Int) = _; rw [h2]
    · right; exact h2
  · rintro ⟨h0, h1, h2⟩
    obtain ⟨k, rfl⟩ := Int.eq_ofNat_of_zero_le h0
    refine ⟨k, ?_, rfl⟩
    rw [List.mem_filter, List.mem_range]
    refine ⟨by omega, ?_⟩
    simp only [Bool.or_eq_true, beq_iff_eq]
    rcases h2 with h2 | h2
    · left; omega
    · right; simpa using h2
theorem mem_shapes {M : Nat} : ∀ (n : Nat) (p cl : List Int), cl ∈ shapesL M n p ↔ cl.length = p.length + n ∧ cl.take p.length = p ∧ ∀ t, p.length ≤ t → t < p.length + n → stepC M cl t = true
  | 0, p, cl => by
    rw [shapesL, List.mem_singleton]
    constructor
    · rintro rfl
      exact ⟨rfl, List.take_length, fun t h1 h2 => by omega⟩
    · rintro ⟨h1, h2, _⟩
      rw [← h2, List.take_of_length_le (by omega)]
  | n + 1, p, cl => by
    rw [shapesL, List.mem_flatMap]
    constructor
    · rintro ⟨c, hc, hcl⟩
      rw [mem_shapes n] at hcl
      obtain ⟨h1, h2, h3⟩ := hcl
      simp only [List.length_append, List.length_cons, List.length_nil] at h1 h2 h3
      have hp : cl.take p.length = p := by
        have := congrArg (List.take p.length) h2
        rw [List.take_take, Nat.min_eq_left (by omega)] at this
        rw [this, List.take_left]
      refine ⟨by omega, hp, fun t h4 h5 => ?_⟩
      by_cases e : t = p.length
      · subst e
        have hg : gi cl p.length = c := by
          rw [gi_pre (p := p ++ [c]) (by simpa using h2) (by simp), gi_snoc]
        rw [stepC]
        by_cases hb : M.testBit p.length = true
        · rw [if_pos hb, hg]
          obtain ⟨c0, c1, c2⟩ := (mem_chC hb).1 hc
          simp only [Bool.and_eq_true, decide_eq_true_eq, beq_iff_eq]
          refine ⟨c0, c1, ?_⟩
          rcases c2 with c2 | c2
          · rw [show c.toNat = p.length by omega, hg]
          · by_cases hlt : c.toNat < p.length
            · rw [gi_pre hp hlt]; exact c2
            · rw [show c.toNat = p.length by omega, hg]
        · rw [if_neg hb, hg, beq_iff_eq]
          rw [chC, if_neg hb] at hc
          exact List.mem_singleton.1 hc
      · exact h3 t (by omega) (by omega)
    · rintro ⟨h1, h2, h3⟩
      have hs := h3 p.length (Nat.le_refl _) (by omega)
      have hlt : p.length < cl.length := by omega
      have htk : cl.take (p.length + 1) = p ++ [gi cl p.length] := by
        rw [List.take_succ_eq_append_getElem hlt, h2, gi_of hlt]
      refine ⟨gi cl p.length, ?_, ?_⟩
      · rw [stepC] at hs
        by_cases hb : M.testBit p.length = true
        · rw [if_pos hb] at hs
          simp only [Bool.and_eq_true, decide_eq_true_eq, beq_iff_eq] at hs
          rw [mem_chC hb]
          refine ⟨hs.1, hs.2.1, ?_⟩
          by_cases e : gi cl p.length = (p.length : Int)
          · exact .inl e
          · right
            rw [← gi_pre h2 (by omega)]
            exact hs.2.2
        · rw [if_neg hb, beq_iff_eq] at hs
          rw [chC, if_neg hb, hs]
          exact List.mem_singleton.2 rfl
      · rw [mem_shapes n]
        simp only [List.length_append, List.length_cons, List.length_nil]
        exact ⟨by omega, htk, fun t h4 h5 => h3 t (by omega) (by omega)⟩
theorem shapes_all {M : Nat} {cl : List Int} : cl ∈ shapesL M 9 [] ↔ shapeC M cl = true := by
  rw [mem_shapes, shapeC, Bool.and_eq_true, beq_iff_eq, List.all_eq_true]
  simp only [List.length_nil, Nat.zero_add, List.take_zero, Nat.zero_le, true_and, forall_const]
  constructor
  · rintro ⟨h1, h2⟩
    exact ⟨h1, fun t ht => h2 t (List.mem_range.1 ht)⟩
  · rintro ⟨h1, h2⟩
    exact ⟨h1, fun t ht => h2 t (List.mem_range.2 ht)⟩
theorem mem_cases {M : Nat} {a : Asn} {cl : List Int} : cl ∈ casesL M a ↔ shapeC M cl = true ∧ possC cl 8 a = true := by
  rw [casesL, restL, List.mem_filter, shapes_all]
theorem rest_succ (M : Nat) (a : Asn) (n : Nat) (p : List Int) : restL M a (n + 1) p = (chC M p).flatMap fun c => restL M a n (p ++ [c]) := by
  rw [restL, shapesL, List.filter_flatMap]; rfl
theorem rest_zero (M : Nat) (a : Asn) (p : List Int) : restL M a 0 p = if possC p 8 a = true then [p] else [] := by
  rw [restL, shapesL, List.filter_cons]
  cases possC p 8 a <;> rfl

/-- Different classes other than 0, one by one. -/
def stA (m : Nat) : List Int → Bool
  | [] => true
  | c :: r => if (c == 0 || hasT m c) = true then false else stA (termM m c) r
theorem hasT_more {m : Nat} {t z : Int} (h : hasT m z = true) : hasT (termM m t) z = true := by
  have hz : isTermB z = true := by rw [hasT, Bool.and_eq_true] at h; exact h.1
  rw [hasT_term hz, h]; rfl
theorem hasT_sub {m1 m2 : Nat} (h : ∀ z, hasT m1 z = true → hasT m2 z = true) (t : Int) : ∀ z, hasT (termM m1 t) z = true → hasT (termM m2 t) z = true := fun z hz => by
  have hb : isTermB z = true := by rw [hasT, Bool.and_eq_true] at hz; exact hz.1
  rw [hasT_term hb, Bool.or_eq_true] at hz
  rw [hasT_term hb, Bool.or_eq_true]
  exact hz.imp (h z) id
theorem stA_sub {l1 l2 : List Int} (hs : l1.Sublist l2) : ∀ {m1 m2 : Nat}, (∀ z, hasT m1 z = true → hasT m2 z = true) → stA m2 l2 = true → stA m1 l1 = true := by
  induction hs with
  | slnil => intro _ _ _ _; rfl
  | cons y _ ih =>
    intro m1 m2 h h2
    rw [stA] at h2
    by_cases hc : (y == 0 || hasT m2 y) = true
    · rw [if_pos hc] at h2; cases h2
    · rw [if_neg hc] at h2
      exact ih (fun z hz => hasT_more (h z hz)) h2
  | cons_cons y _ ih =>
    intro m1 m2 h h2
    rw [stA] at h2 ⊢
    by_cases hc : (y == 0 || hasT m2 y) = true
    · rw [if_pos hc] at h2; cases h2
    · rw [if_neg hc] at h2
      rw [if_neg (fun h1 => hc (by rw [Bool.or_eq_true] at h1 ⊢; exact h1.imp id (h y)))]
      exact ih (hasT_sub h y) h2
theorem starts_stA {cl : List Int} {last : Int} : ∀ (l : List Atom) (m : Nat), startsO cl last m l = stA m ((l.filter (inA cl last)).map fun x => gi cl x.2.1.toNat)
  | [], _ => rfl
  | x :: l, m => by
    rw [startsO, List.filter_cons]
    cases inA cl last x with
    | false => simp only [Bool.false_eq_true, if_false]; exact starts_stA l m
    | true => simp only [if_true, List.map_cons, stA]; rw [starts_stA l]
theorem asn_parts {a : Asn} (h : asnB a = true) : (∀ f ∈ a.1, factB f = true) ∧ (∀ x ∈ a.2, atomB x = true) := by
  simp only [asnB, factsB, Bool.and_eq_true, List.all_eq_true] at h
  exact ⟨h.1.2, h.2.2⟩
/-- Conditions that hold in the end held early. -/
theorem poss_mono {cl : List Int} {t : Int} {a : Asn} (ht : t ≤ 8) (ha : asnB a = true) (h : possC cl 8 a = true) : possC cl t a = true := by
  rw [possC, Bool.and_eq_true, List.all_eq_true] at h
  rw [possC, Bool.and_eq_true, List.all_eq_true]
  obtain ⟨h1, h2⟩ := h
  refine ⟨fun f hf => ?_, ?_⟩
  · have := h1 f hf
    obtain ⟨_, f2, _, f4⟩ := factB_le ((asn_parts ha).1 f hf)
    rw [okF, if_pos ⟨f2, f4⟩] at this
    rw [okF]
    split
    · exact this
    · rfl
  · rw [starts_stA] at h2 ⊢
    refine stA_sub ?_ (fun z hz => hz) h2
    refine List.Sublist.map _ ?_
    have : (a.2.filter (inA cl t)) = (a.2.filter (inA cl 8)).filter (inA cl t) := by
      rw [List.filter_filter]
      refine List.filter_congr fun x _ => ?_
      cases hx : inA cl t x with
      | false => rfl
      | true =>
        simp only [inA, Bool.and_eq_true, decide_eq_true_eq] at hx
        rw [Bool.true_and, inA, decide_eq_true (show x.2.1 ≤ 8 by omega), decide_eq_true (show x.2.2 ≤ 8 by omega), hx.2.2]; rfl
    rw [this]
    exact List.filter_sublist
theorem poss_congr {c1 c2 : List Int} {t : Int} {a : Asn} (ha : asnB a = true) (h : ∀ i : Nat, (i : Int) ≤ t → gi c1 i = gi c2 i) : possC c1 t a = possC c2 t a := by
  have hg : ∀ z : Int, 0 ≤ z → z ≤ t → gi c1 z.toNat = gi c2 z.toNat := fun z h0 hz => h z.toNat (by omega)
  rw [possC, possC]
  congr 1
  · rw [Bool.eq_iff_iff, List.all_eq_true, List.all_eq_true]
    have key : ∀ f ∈ a.1, okF c1 t f = okF c2 t f := fun f hf => by
      obtain ⟨f1, _, f3, _⟩ := factB_le ((asn_parts ha).1 f hf)
      rw [okF, okF]
      by_cases hc : f.2.1 ≤ t ∧ f.2.2 ≤ t
      · rw [if_pos hc, if_pos hc, factC, factC, hg _ f1 hc.1, hg _ f3 hc.2]
      · rw [if_neg hc, if_neg hc]
    exact ⟨fun h f hf => by rw [← key f hf]; exact h f hf, fun h f hf => by rw [key f hf]; exact h f hf⟩
  · rw [starts_stA, starts_stA]
    have key : ∀ x ∈ a.2, inA c1 t x = inA c2 t x := fun x hx => by
      obtain ⟨x1, _, x3, _⟩ := atomB_le' ((asn_parts ha).2 x hx)
      rw [inA, inA]
      by_cases h1 : x.2.1 ≤ t
      · by_cases h2 : x.2.2 ≤ t
        · rw [fillC, fillC, hg _ x1 h1, hg _ x3 h2]
        · rw [decide_eq_false h2, Bool.false_and, Bool.false_and]
      · rw [decide_eq_false h1, Bool.false_and, Bool.false_and]
    rw [List.filter_congr key]
    congr 1
    refine List.map_congr_left fun x hx => ?_
    rw [List.mem_filter] at hx
    have hx2 := hx.2
    simp only [inA, Bool.and_eq_true, decide_eq_true_eq] at hx2
    exact hg _ (atomB_le' ((asn_parts ha).2 x hx.1)).1 hx2.1
/-- A beginning that is not possible has no cases behind it (the program's test). -/
theorem rest_cut {M : Nat} {a : Asn} {n : Nat} {p q : List Int} {t : Nat} (ha : asnB a = true) (hn : p.length + n = 9) (ht : p.length = t + 1) (hq : ∀ i, i < p.length → gi q i = gi p i)
    (h : possC q t a = false) : restL M a n p = [] := by
  rw [restL, List.filter_eq_nil_iff]
  intro cl hcl hp
  rw [mem_shapes] at hcl
  have h1 := poss_mono (t := t) (by omega) ha hp
  rw [poss_congr (c2 := q) ha fun i hi => by rw [gi_pre hcl.2.1 (by omega), hq i (by omega)]] at h1
  rw [h] at h1; cases h1
/-- Cells begin at different classes as far as they have any. -/
def earlyE (cl : List Int) (m : Nat) : List Atom → Bool
  | [] => true
  | x :: r => if x.1 ≠ 1 ∨ gi cl x.2.1.toNat < 0 then earlyE cl m r else if (gi cl x.2.1.toNat == 0 || hasT m (gi cl x.2.1.toNat)) = true then false else earlyE cl (termM m (gi cl x.2.1.toNat)) r
def cellB (cl : List Int) (x : Atom) : Bool := (x.1 == 1) && decide (0 ≤ gi cl x.2.1.toNat)
theorem early_stA {cl : List Int} : ∀ (l : List Atom) (m : Nat), earlyE cl m l = stA m ((l.filter (cellB cl)).map fun x => gi cl x.2.1.toNat)
  | [], _ => rfl
  | x :: l, m => by
    rw [earlyE, List.filter_cons]
    by_cases h : x.1 ≠ 1 ∨ gi cl x.2.1.toNat < 0
    · have hc : cellB cl x = false := by
        rw [cellB]
        rcases h with h | h
        · rw [beq_eq_false_iff_ne.2 h]; rfl
        · rw [decide_eq_false (show ¬ 0 ≤ gi cl x.2.1.toNat by omega), Bool.and_false]
      rw [if_pos h, hc]
      simp only [Bool.false_eq_true, if_false]; exact early_stA l m
    · have hc : cellB cl x = true := by
        simp only [not_or, ne_eq, Decidable.not_not] at h
        rw [cellB, h.1, decide_eq_true (show 0 ≤ gi cl x.2.1.toNat by omega)]; rfl
      rw [if_neg h, hc]
      simp only [if_true, List.map_cons, stA]; rw [early_stA l]
/-- A beginning that fits not, or whose cells begin not apart, has no cases behind it (the reference's tests). -/
theorem rest_cutS {M : Nat} {a : Asn} {n : Nat} {p q : List Int} (ha : asnB a = true) (hq : ∀ i, i < p.length → gi q i = gi p i) (hq2 : ∀ i, p.length ≤ i → i < 9 → gi q i < 0)
    (h : (a.1.all (fitsF q) && earlyE q 0 a.2) = false) : restL M a n p = [] := by
  rw [restL, List.filter_eq_nil_iff]
  intro cl hcl hp
  rw [mem_shapes] at hcl
  have hg : ∀ z : Int, 0 ≤ z → z ≤ 8 → 0 ≤ gi q z.toNat → gi q z.toNat = gi cl z.toNat := fun z h0 h8 hz => by
    by_cases hlt : z.toNat < p.length
    · rw [gi_pre hcl.2.1 hlt, hq _ hlt]
    · have := hq2 z.toNat (by omega) (by omega); omega
  rw [possC, Bool.and_eq_true, List.all_eq_true] at hp
  rw [Bool.and_eq_false_iff] at h
  rcases h with h | h
  · rw [List.all_eq_false] at h
    obtain ⟨f, hf, hff⟩ := h
    obtain ⟨f1, f2, f3, f4⟩ := factB_le ((asn_parts ha).1 f hf)
    have h1 := hp.1 f hf
    rw [okF, if_pos ⟨f2, f4⟩, factC] at h1
    rw [Bool.not_eq_true, fitsF] at hff
    simp only [Bool.not_eq_false', Bool.and_eq_true, decide_eq_true_eq, bne_iff_ne] at hff
    rw [hg _ f1 f2 hff.1, hg _ f3 f4 hff.2.1] at hff
    rw [beq_iff_eq] at h1
    exact hff.2.2 h1
  · rw [early_stA] at h
    have h1 := hp.2
    rw [starts_stA] at h1
    refine absurd ?_ (by rw [h]; decide : ¬ stA 0 ((a.2.filter (cellB q)).map fun x => gi q x.2.1.toNat) = true)
    refine stA_sub ?_ (fun z hz => hz) h1
    have e1 : ((a.2.filter (cellB q)).map fun x => gi q x.2.1.toNat) = (a.2.filter (cellB q)).map fun x => gi cl x.2.1.toNat := by
      refine List.map_congr_left fun x hx => ?_
      rw [List.mem_filter, cellB, Bool.and_eq_true, decide_eq_true_eq] at hx
      obtain ⟨x1, x2, _, _⟩ := atomB_le' ((asn_parts ha).2 x hx.1)
      exact hg _ x1 x2 hx.2.2
    rw [e1]
    refine List.Sublist.map _ ?_
    have e2 : a.2.filter (cellB q) = (a.2.filter (inA cl 8)).filter (cellB q) := by
      rw [List.filter_filter]
      refine List.filter_congr fun x hx => ?_
      cases hc : cellB q x with
      | false => rfl
      | true =>
        obtain ⟨_, x2, _, x4⟩ := atomB_le' ((asn_parts ha).2 x hx)
        rw [cellB, Bool.and_eq_true] at hc
        rw [Bool.true_and, inA, decide_eq_true x2, decide_eq_true x4, fillC, hc.1]; rfl
    rw [e2]
    exact List.filter_sublist
end Go.Proofs.Ytdjfdopgjlbloaa
/- The plain law of matching: what the program and the reference find in a case. -/
namespace Go.Proofs.Ytdjfdopgjlbloaa
open Go.RowKit

/-- The first atom that begins at a class and was not used. -/
def findU (left : List Atom) (m : Nat) (c : Int) : Option Nat := (List.range left.length).find? fun i => ((gd left i).2.1 == c) && !m.testBit i
theorem findU_some {left : List Atom} {m i : Nat} {c : Int} (h : findU left m c = some i) : i < left.length ∧ (gd left i).2.1 = c ∧ m.testBit i = false := by
  have h1 := List.mem_of_find?_eq_some h
  have h2 := List.find?_some h
  simp only [Bool.and_eq_true, beq_iff_eq, Bool.not_eq_true'] at h2
  exact ⟨List.mem_range.1 h1, h2.1, h2.2⟩
theorem find_step {p : Nat → Bool} {n k : Nat} (hk : k < n) (h : ∀ j, j < k → p j = false) (hp : p k = true) : (List.range n).find? p = some k := by
  rw [List.find?_range_eq_some]
  exact ⟨hp, List.mem_range.2 hk, fun j hj => by rw [h j hj]; rfl⟩
theorem find_end {p : Nat → Bool} {n : Nat} (h : ∀ j, j < n → p j = false) : (List.range n).find? p = none := by
  rw [List.find?_eq_none]
  intro j hj
  rw [h j (List.mem_range.1 hj)]; decide
/-- A chain of atoms from a class to another one. -/
def chainU (left : List Atom) (B : Int) (cl : Bool) : Nat → Nat → Int → Option (Nat × List Int)
  | 0, _, _ => none
  | f + 1, m, at_ => match findU left m at_ with
    | none => none
    | some i => if (gd left i).2.2 = B then some (m ||| 2 ^ i, [(i : Int)]) else
      if (gd left i).1 = 2 ∧ cl = false then none else (chainU left B cl f (m ||| 2 ^ i) (gd left i).2.2).map fun r => (r.1, (i : Int) :: r.2)
def cellU (left : List Atom) (m : Nat) (x : Atom) : Option (Nat × List Int) :=
  match findU left m x.2.1 with
  | none => none
  | some i => if gd left i = x then some (m ||| 2 ^ i, [(i : Int)]) else none
/-- The atoms that a filled atom uses. -/
def goalU (left : List Atom) (m : Nat) (x : Atom) : Option (Nat × List Int) :=
  if x.1 = 1 then cellU left m x else chainU left x.2.2 (clsdB left x.2.2) (left.length - cntM left.length m) m x.2.1
def goalsU (left : List Atom) : List Atom → Nat → Option (Nat × List (List Int))
  | [], m => some (m, [])
  | x :: r, m => match goalU left m x with
    | none => none
    | some p => (goalsU left r p.1).map fun q => (q.1, p.2 :: q.2)
/-- What filled atoms use of others, if they use all. -/
def mtchF (left right : List Atom) : Option (List (List Int)) :=
  match goalsU left right 0 with
  | none => none
  | some p => if ((List.range left.length).all fun k => p.1.testBit k) = true then some p.2 else none
/-- What is used in a case, if an assertion entails another one in it. -/
def matchC (a b : Asn) (cl : List Int) : Option (List (List Int)) := if b.1.all (factC cl) = true then mtchF (filledL cl a.2) (filledL cl b.2) else none
/-- The terms of two assertions. -/
def bothM (a b : Asn) : Nat := termM (termsM a) 0 ||| termsM b
def failC (a b : Asn) (cl : List Int) : Bool := (matchC a b cl).isNone
/-- The first case in which an assertion does not entail another one. -/
def failO (a b : Asn) : Option (List Int) := (casesL (bothM a b) a).find? (failC a b)
def entB (a b : Asn) : Bool := asnB a && (asnB b && (failO a b).isNone)
theorem goals_app {left : List Atom} : ∀ (r s : List Atom) (m : Nat), goalsU left (r ++ s) m = match goalsU left r m with
    | none => none
    | some p => (goalsU left s p.1).map fun q => (q.1, p.2 ++ q.2)
  | [], s, m => by
    simp only [List.nil_append, goalsU]
    cases goalsU left s m <;> rfl
  | x :: r, s, m => by
    simp only [List.cons_append, goalsU]
    cases goalU left m x with
    | none => rfl
    | some p =>
      simp only [goals_app r s p.1]
      cases goalsU left r p.1 with
      | none => rfl
      | some q =>
        simp only [Option.map_some]
        cases goalsU left s q.1 <;> rfl
theorem goals_take {left right : List Atom} {k m : Nat} {us : List (List Int)} (hk : k < right.length) (h : goalsU left (right.take k) 0 = some (m, us)) :
    goalsU left (right.take (k + 1)) 0 = (goalU left m (gd right k)).map fun p => (p.1, us ++ [p.2]) := by
  rw [take_gd hk, goals_app, h]
  simp only [goalsU]
  cases goalU left m (gd right k) <;> rfl
theorem goals_stop {left right : List Atom} {k : Nat} (h : goalsU left (right.take k) 0 = none) : goalsU left right 0 = none := by
  have := goals_app (left := left) (right.take k) (right.drop k) 0
  rw [List.take_append_drop, h] at this
  exact this
theorem all_bits_cnt {n m : Nat} : ((List.range n).all fun k => m.testBit k) = (cntM n m == n) := (cntM_all n m).symm
end Go.Proofs.Ytdjfdopgjlbloaa
/- The plain law of matching: what is found is what a check accepts, and only that. -/
namespace Go.Proofs.Ytdjfdopgjlbloaa
open Go.RowKit

/-- Atoms that begin at different classes other than that of nil. -/
def Apart (l : List Atom) : Prop := (∀ y ∈ l, y.2.1 ≠ 0) ∧ l.Pairwise fun y z => y.2.1 ≠ z.2.1
theorem apart_inj {l : List Atom} (h : Apart l) {i j : Nat} (hi : i < l.length) (hj : j < l.length) (e : (gd l i).2.1 = (gd l j).2.1) : i = j := by
  have h2 := List.pairwise_iff_getElem.1 h.2
  rw [gd_of hi, gd_of hj] at e
  rcases Nat.lt_trichotomy i j with hlt | he | hlt
  · exact absurd e (h2 i j hi hj hlt)
  · exact he
  · exact absurd e.symm (h2 j i hj hi hlt)
theorem apart_ne {l : List Atom} (h : Apart l) {i : Nat} (hi : i < l.length) : (gd l i).2.1 ≠ 0 := h.1 _ (gd_mem hi)
theorem markM_some {n : Nat} : ∀ {us : List Int} {m m' : Nat}, markM n us m = some m' → (∀ k ∈ us, 0 ≤ k ∧ k < (n : Int)) ∧ us.Nodup ∧ (∀ k ∈ us, m.testBit k.toNat = false) ∧ ∀ j : Nat, m'.testBit j = (m.testBit j || decide ((j : Int) ∈ us))
  | [], m, m', h => by
    simp only [markM, Option.some.injEq] at h
    subst h
    simp
  | k :: r, m, m', h => by
    rw [markM] at h
    by_cases h1 : k < 0 ∨ (n : Int) ≤ k
    · rw [if_pos h1] at h; cases h
    rw [if_neg h1] at h
    by_cases h2 : m.testBit k.toNat = true
    · rw [if_pos h2] at h; cases h
    rw [if_neg h2] at h
    obtain ⟨a1, a2, a3, a4⟩ := markM_some h
    rw [Bool.not_eq_true] at h2
    have hk : ((k.toNat : Nat) : Int) = k := by omega
    have hnr : k ∉ r := fun hr => by
      have := a3 k hr
      rw [testBit_or_pow, Bool.or_eq_false_iff] at this
      simp at this
    refine ⟨fun x hx => ?_, List.nodup_cons.2 ⟨hnr, a2⟩, fun x hx => ?_, fun j => ?_⟩
    · rcases List.mem_cons.1 hx with rfl | hx
      · omega
      · exact a1 x hx
    · rcases List.mem_cons.1 hx with rfl | hx
      · exact h2
      · have := a3 x hx
        rw [testBit_or_pow, Bool.or_eq_false_iff] at this
        exact this.1
    · rw [a4, testBit_or_pow, Bool.or_assoc]
      congr 1
      rw [Bool.eq_iff_iff, Bool.or_eq_true, decide_eq_true_eq, decide_eq_true_eq, decide_eq_true_eq, List.mem_cons]
      constructor
      · rintro (h | h)
        · left; omega
        · exact .inr h
      · rintro (h | h)
        · left; omega
        · exact .inr h
theorem markM_mk {n : Nat} : ∀ {us : List Int} {m : Nat}, (∀ k ∈ us, 0 ≤ k ∧ k < (n : Int)) → us.Nodup → (∀ k ∈ us, m.testBit k.toNat = false) → ∃ m', markM n us m = some m'
  | [], m, _, _, _ => ⟨m, rfl⟩
  | k :: r, m, h1, h2, h3 => by
    have hk := h1 k List.mem_cons_self
    rw [markM, if_neg (by omega), if_neg (by rw [h3 k List.mem_cons_self]; decide)]
    rw [List.nodup_cons] at h2
    refine markM_mk (fun x hx => h1 x (List.mem_cons_of_mem _ hx)) h2.2 fun x hx => ?_
    have hx1 := h1 x (List.mem_cons_of_mem _ hx)
    rw [testBit_or_pow, h3 x (List.mem_cons_of_mem _ hx), Bool.false_or, decide_eq_false_iff_not]
    intro e
    have : k = x := by omega
    subst this
    exact h2.1 hx
theorem markM_cnt {n : Nat} : ∀ {us : List Int} {m m' : Nat}, markM n us m = some m' → cntM n m' = cntM n m + us.length
  | [], m, m', h => by simp only [markM, Option.some.injEq] at h; subst h; simp
  | k :: r, m, m', h => by
    rw [markM] at h
    by_cases h1 : k < 0 ∨ (n : Int) ≤ k
    · rw [if_pos h1] at h; cases h
    rw [if_neg h1] at h
    by_cases h2 : m.testBit k.toNat = true
    · rw [if_pos h2] at h; cases h
    rw [if_neg h2] at h
    rw [markM_cnt h, cntM_set (by omega) (by simpa using h2), List.length_cons]; omega
theorem markM_append {n : Nat} : ∀ {us vs : List Int} {m : Nat}, markM n (us ++ vs) m = (markM n us m).bind (markM n vs)
  | [], vs, m => rfl
  | k :: r, vs, m => by
    simp only [List.cons_append, markM]
    split
    · rfl
    · split
      · rfl
      · exact markM_append
theorem bit_of_mark {left : List Atom} {m i : Nat} {us : List Int} {m' : Nat} (hi : i < left.length) (hb : m.testBit i = false) (h : markM left.length us (m ||| 2 ^ i) = some m') : markM left.length ((i : Int) :: us) m = some m' := by
  rw [markM, if_neg (by omega), Int.toNat_natCast, if_neg (by rw [hb]; decide)]; exact h
/-- What is found is a chain. -/
theorem chain_allow {left : List Atom} {B : Int} {cl : Bool} : ∀ {f m : Nat} {A : Int} {m' : Nat} {us : List Int}, chainU left B cl f m A = some (m', us) → useList left B cl A us = true ∧ markM left.length us m = some m'
  | 0, _, _, _, _, h => by rw [chainU] at h; cases h
  | f + 1, m, A, m', us, h => by
    rw [chainU] at h
    cases hf : findU left m A with
    | none => rw [hf] at h; cases h
    | some i =>
      rw [hf] at h
      simp only at h
      obtain ⟨h1, h2, h3⟩ := findU_some hf
      by_cases hB : (gd left i).2.2 = B
      · rw [if_pos hB] at h
        simp only [Option.some.injEq, Prod.mk.injEq] at h
        obtain ⟨rfl, rfl⟩ := h
        refine ⟨?_, bit_of_mark h1 h3 rfl⟩
        simp [useList, h2, hB]
      · rw [if_neg hB] at h
        by_cases hc : (gd left i).1 = 2 ∧ cl = false
        · rw [if_pos hc] at h; cases h
        rw [if_neg hc] at h
        cases hr : chainU left B cl f (m ||| 2 ^ i) (gd left i).2.2 with
        | none => rw [hr] at h; cases h
        | some r =>
          rw [hr] at h
          simp only [Option.map_some, Option.some.injEq, Prod.mk.injEq] at h
          obtain ⟨rfl, rfl⟩ := h
          obtain ⟨p1, p2⟩ := chain_allow hr
          refine ⟨?_, bit_of_mark h1 h3 p2⟩
          have hc' : ((gd left i).1 == 2 && !cl) = false := by
            cases cl <;> simp_all
          simp [useList, h2, hB, hc', p1]
theorem find_one {left : List Atom} (ha : Apart left) {m i : Nat} (hi : i < left.length) (hb : m.testBit i = false) : findU left m (gd left i).2.1 = some i := by
  refine find_step hi (fun j hj => ?_) (by simp [hb])
  have : ¬ (gd left j).2.1 = (gd left i).2.1 := fun e => by have := apart_inj ha (by omega) hi e; omega
  simp [this]
/-- A chain is found. -/
theorem allow_chain {left : List Atom} (ha : Apart left) {B : Int} {cl : Bool} : ∀ {us : List Int} {f m : Nat} {A : Int} {m' : Nat}, us.length ≤ f → useList left B cl A us = true → markM left.length us m = some m' → chainU left B cl f m A = some (m', us)
  | [], _, _, _, _, _, h, _ => by rw [useList] at h; cases h
  | k :: r, 0, _, _, _, hl, _, _ => by simp at hl
  | k :: r, f + 1, m, A, m', hl, h, hm => by
    rw [List.length_cons] at hl
    rw [markM] at hm
    by_cases h1 : k < 0 ∨ (left.length : Int) ≤ k
    · rw [if_pos h1] at hm; cases hm
    rw [if_neg h1] at hm
    by_cases h2 : m.testBit k.toNat = true
    · rw [if_pos h2] at hm; cases hm
    rw [if_neg h2] at hm
    obtain ⟨i, rfl⟩ := Int.eq_ofNat_of_zero_le (show 0 ≤ k by omega)
    rw [Int.toNat_natCast] at hm h2
    rw [useList, Int.toNat_natCast] at h
    by_cases hA : (gd left i).2.1 = A
    rotate_left
    · rw [if_neg hA] at h; cases h
    rw [if_pos hA] at h
    rw [chainU, ← hA, find_one ha (by omega) (by simpa using h2)]
    simp only
    by_cases hB : (gd left i).2.2 = B
    · rw [if_pos hB] at h ⊢
      rw [List.isEmpty_iff] at h
      subst h
      simp only [markM, Option.some.injEq] at hm
      rw [hm]
    · rw [if_neg hB] at h ⊢
      by_cases hc : ((gd left i).1 == 2 && !cl) = true
      · rw [if_pos hc] at h; cases h
      rw [if_neg hc] at h
      rw [if_neg (by rintro ⟨e1, e2⟩; apply hc; rw [e1, e2]; rfl), allow_chain ha (by omega) h hm]
      rfl
theorem goal_allow {left : List Atom} {m m' : Nat} {x : Atom} {us : List Int} (h : goalU left m x = some (m', us)) : allowB left x us = true ∧ markM left.length us m = some m' := by
  rw [goalU] at h
  rw [allowB]
  by_cases hx : x.1 = 1
  · rw [if_pos hx] at h ⊢
    rw [cellU] at h
    cases hf : findU left m x.2.1 with
    | none => rw [hf] at h; cases h
    | some i =>
      rw [hf] at h
      simp only at h
      obtain ⟨h1, _, h3⟩ := findU_some hf
      by_cases he : gd left i = x
      · rw [if_pos he] at h
        simp only [Option.some.injEq, Prod.mk.injEq] at h
        obtain ⟨rfl, rfl⟩ := h
        refine ⟨?_, bit_of_mark h1 h3 rfl⟩
        have : gi [(i : Int)] 0 = i := rfl
        simp [this, he]
      · rw [if_neg he] at h; cases h
  · rw [if_neg hx] at h ⊢
    exact chain_allow h
theorem cnt_leM (n m : Nat) : cntM n m ≤ n := by
  unfold cntM; exact Nat.le_trans (List.length_filter_le _ _) (by simp)
theorem allow_goal {left : List Atom} (ha : Apart left) {m m' : Nat} {x : Atom} {us : List Int} (h : allowB left x us = true) (hm : markM left.length us m = some m') : goalU left m x = some (m', us) := by
  rw [goalU]
  rw [allowB] at h
  by_cases hx : x.1 = 1
  · rw [if_pos hx] at h ⊢
    rw [Bool.and_eq_true, beq_iff_eq, decide_eq_true_eq] at h
    obtain ⟨k, rfl⟩ := List.length_eq_one_iff.1 h.1
    have hk : gi [k] 0 = k := rfl
    rw [hk] at h
    rw [markM] at hm
    by_cases h1 : k < 0 ∨ (left.length : Int) ≤ k
    · rw [if_pos h1] at hm; cases hm
    rw [if_neg h1] at hm
    by_cases h2 : m.testBit k.toNat = true
    · rw [if_pos h2] at hm; cases hm
    rw [if_neg h2] at hm
    obtain ⟨i, rfl⟩ := Int.eq_ofNat_of_zero_le (show 0 ≤ k by omega)
    rw [Int.toNat_natCast] at hm h2 h
    rw [cellU, ← h.2, find_one ha (by omega) (by simpa using h2)]
    simp only [if_true]
    simp only [markM, Option.some.injEq] at hm
    rw [hm]
  · rw [if_neg hx] at h ⊢
    refine allow_chain ha ?_ h hm
    have h1 := markM_cnt hm
    have h2 := cnt_leM left.length m'
    omega
/-- What matches: each atom has its own way, and the ways share out all. -/
theorem match_iff {left : List Atom} (ha : Apart left) : ∀ {right : List Atom} {m m' : Nat} {us : List (List Int)}, goalsU left right m = some (m', us) ↔ us.length = right.length ∧ (∀ k, k < right.length → allowB left (gd right k) (gd us k) = true) ∧ markM left.length us.flatten m = some m'
  | [], m, m', us => by
    rw [goalsU]
    constructor
    · intro h
      simp only [Option.some.injEq, Prod.mk.injEq] at h
      obtain ⟨rfl, rfl⟩ := h
      exact ⟨rfl, fun k hk => absurd hk (by simp), rfl⟩
    · rintro ⟨h1, _, h3⟩
      have : us = [] := List.length_eq_zero_iff.1 h1
      subst this
      simp only [List.flatten_nil, markM, Option.some.injEq] at h3
      rw [h3]
  | x :: r, m, m', us => by
    rw [goalsU]
    constructor
    · intro h
      cases hg : goalU left m x with
      | none => rw [hg] at h; cases h
      | some p =>
        rw [hg] at h
        simp only at h
        cases hq : goalsU left r p.1 with
        | none => rw [hq] at h; cases h
        | some q =>
          rw [hq] at h
          simp only [Option.map_some, Option.some.injEq, Prod.mk.injEq] at h
          obtain ⟨rfl, rfl⟩ := h
          obtain ⟨q1, q2, q3⟩ := (match_iff ha).1 hq
          obtain ⟨p1, p2⟩ := goal_allow hg
          refine ⟨by simp [q1], fun k hk => ?_, ?_⟩
          · cases k with
            | zero => exact p1
            | succ k => exact q2 k (by simpa using hk)
          · rw [List.flatten_cons, markM_append, p2]; exact q3
    · rintro ⟨h1, h2, h3⟩
      cases us with
      | nil => simp at h1
      | cons u us =>
        rw [List.flatten_cons, markM_append] at h3
        cases hu : markM left.length u m with
        | none => rw [hu] at h3; cases h3
        | some m1 =>
          rw [hu, Option.bind_some] at h3
          have := allow_goal ha (h2 0 (by simp)) hu
          rw [show gd (x :: r) 0 = x from rfl, show gd (u :: us) 0 = u from rfl] at this
          rw [this]
          simp only
          rw [(match_iff ha).2 ⟨by simpa using h1, fun k hk => h2 (k + 1) (by simpa using hk), h3⟩]
          rfl
/-- Ways that share out all. -/
structure Shares (left right : List Atom) (us : List (List Int)) : Prop where
  len : us.length = right.length
  ok : ∀ k, k < right.length → allowB left (gd right k) (gd us k) = true
  nd : us.flatten.Nodup
  mem : ∀ j : Int, j ∈ us.flatten ↔ 0 ≤ j ∧ j < left.length
theorem mtchF_iff {left right : List Atom} (ha : Apart left) {us : List (List Int)} : mtchF left right = some us ↔ Shares left right us := by
  rw [mtchF]
  constructor
  · intro h
    cases hg : goalsU left right 0 with
    | none => rw [hg] at h; cases h
    | some p =>
      rw [hg] at h
      simp only at h
      by_cases hf : ((List.range left.length).all fun k => p.1.testBit k) = true
      · rw [if_pos hf] at h
        simp only [Option.some.injEq] at h
        obtain ⟨m', us'⟩ := p
        subst h
        obtain ⟨q1, q2, q3⟩ := (match_iff ha).1 hg
        obtain ⟨r1, r2, _, r4⟩ := markM_some q3
        refine ⟨q1, q2, r2, fun j => ⟨r1 j, fun hj => ?_⟩⟩
        rw [List.all_eq_true] at hf
        have := hf j.toNat (List.mem_range.2 (by omega))
        simp only at this
        rw [r4, Nat.zero_testBit, Bool.false_or, decide_eq_true_eq, show ((j.toNat : Nat) : Int) = j by omega] at this
        exact this
      · rw [if_neg hf] at h; cases h
  · rintro ⟨h1, h2, h3, h4⟩
    obtain ⟨m', hm⟩ := markM_mk (n := left.length) (m := 0) (fun k hk => (h4 k).1 hk) h3 fun k _ => Nat.zero_testBit _
    rw [(match_iff ha).2 ⟨h1, h2, hm⟩]
    simp only
    rw [if_pos]
    rw [List.all_eq_true]
    intro k hk
    have := List.mem_range.1 hk
    rw [(markM_some hm).2.2.2, Nat.zero_testBit, Bool.false_or, decide_eq_true_eq, h4]
    omega
end Go.Proofs.Ytdjfdopgjlbloaa
/- The plain law of matching: it is reflexive and transitive. -/
namespace Go.Proofs.Ytdjfdopgjlbloaa
open Go.RowKit

theorem flatI_mem {us : List (List Int)} {x : Int} : x ∈ us.flatten ↔ ∃ i, i < us.length ∧ x ∈ gd us i := by
  rw [List.mem_flatten]
  constructor
  · rintro ⟨u, hu, hx⟩
    obtain ⟨i, hi, rfl⟩ := List.mem_iff_getElem.1 hu
    exact ⟨i, hi, by rw [gd_of hi]; exact hx⟩
  · rintro ⟨i, hi, hx⟩
    exact ⟨_, gd_mem hi, hx⟩
theorem flatI_one {us : List (List Int)} (h : us.flatten.Nodup) {i : Nat} (hi : i < us.length) : (gd us i).Nodup := by
  unfold List.Nodup at h
  rw [List.pairwise_flatten] at h
  exact h.1 _ (gd_mem hi)
theorem flatI_two {us : List (List Int)} (h : us.flatten.Nodup) {i j : Nat} (hi : i < us.length) (hj : j < us.length) {x : Int} (h1 : x ∈ gd us i) (h2 : x ∈ gd us j) : i = j := by
  unfold List.Nodup at h
  rw [List.pairwise_flatten] at h
  have hp := List.pairwise_iff_getElem.1 h.2
  rw [gd_of hi] at h1
  rw [gd_of hj] at h2
  rcases Nat.lt_trichotomy i j with hlt | he | hlt
  · exact absurd rfl (hp i j hi hj hlt x h1 x h2)
  · exact he
  · exact absurd rfl (hp j i hj hi hlt x h2 x h1)
def onesI (n : Nat) : List (List Int) := (List.range n).map fun (i : Nat) => [(i : Int)]
theorem ones_len (n : Nat) : (onesI n).length = n := by simp [onesI]
theorem gd_ones {n k : Nat} (h : k < n) : gd (onesI n) k = [(k : Int)] := by
  rw [gd_of (by rw [ones_len]; exact h)]; simp [onesI]
theorem useList_one {left : List Atom} {k : Nat} (cl : Bool) : useList left (gd left k).2.2 cl (gd left k).2.1 [(k : Int)] = true := by
  simp [useList]
theorem allow_self {left : List Atom} {k : Nat} {x : Atom} (h : gd left k = x) : allowB left x [(k : Int)] = true := by
  subst h
  have hg : gi [(k : Int)] 0 = k := rfl
  rw [allowB, hg]
  split
  · simp
  · exact useList_one _
theorem ones_flat (n : Nat) : (onesI n).flatten = (List.range n).map Int.ofNat := by
  unfold onesI
  induction (List.range n) with
  | nil => rfl
  | cons k l ih => rw [List.map_cons, List.flatten_cons, ih]; rfl
/-- Each list of atoms shares itself out. -/
theorem shares_refl (l : List Atom) : Shares l l (onesI l.length) where
  len := ones_len _
  ok k hk := by rw [gd_ones hk]; exact allow_self rfl
  nd := by
    rw [ones_flat]
    unfold List.Nodup
    rw [List.pairwise_map]
    refine List.Pairwise.imp (fun {a b} (h : a < b) e => ?_) List.pairwise_lt_range
    have : (a : Int) = (b : Int) := e
    omega
  mem j := by
    rw [ones_flat, List.mem_map]
    constructor
    · rintro ⟨k, hk, rfl⟩
      have := List.mem_range.1 hk
      show 0 ≤ (k : Int) ∧ (k : Int) < _
      omega
    · rintro ⟨h0, h1⟩
      exact ⟨j.toNat, List.mem_range.2 (by omega), by show ((j.toNat : Nat) : Int) = j; omega⟩
theorem useList_first {left : List Atom} {B : Int} {cl : Bool} {A : Int} {u : List Int} (h : useList left B cl A u = true) : ∃ i r, u = i :: r ∧ (gd left i.toNat).2.1 = A := by
  cases u with
  | nil => rw [useList] at h; cases h
  | cons i r =>
    rw [useList] at h
    by_cases hA : (gd left i.toNat).2.1 = A
    · exact ⟨i, r, rfl, hA⟩
    · rw [if_neg hA] at h; cases h
theorem allow_first {left : List Atom} {x : Atom} {u : List Int} (h : allowB left x u = true) : ∃ i r, u = i :: r ∧ (gd left i.toNat).2.1 = x.2.1 := by
  rw [allowB] at h
  by_cases hx : x.1 = 1
  · rw [if_pos hx, Bool.and_eq_true, beq_iff_eq, decide_eq_true_eq] at h
    obtain ⟨k, rfl⟩ := List.length_eq_one_iff.1 h.1
    have hk : gi [k] 0 = k := rfl
    rw [hk] at h
    exact ⟨k, [], rfl, by rw [h.2]⟩
  · rw [if_neg hx] at h
    exact useList_first h
theorem useList_app {left : List Atom} {B C : Int} {clc : Bool} (hC : C ≠ B) {T : List Int} (hT : useList left B true C T = true) : ∀ {S : List Int} {A : Int}, useList left C clc A S = true → (∀ i ∈ S.tail, (gd left i.toNat).2.1 ≠ B) → useList left B true A (S ++ T) = true
  | [], A, h, _ => by rw [useList] at h; cases h
  | i :: r, A, h, hn => by
    rw [useList] at h
    rw [List.cons_append, useList]
    by_cases hA : (gd left i.toNat).2.1 = A
    rotate_left
    · rw [if_neg hA] at h; cases h
    rw [if_pos hA] at h ⊢
    by_cases hB : (gd left i.toNat).2.2 = C
    · rw [if_pos hB, List.isEmpty_iff] at h
      subst h
      rw [if_neg (by rw [hB]; exact hC), if_neg (by simp), hB]
      exact hT
    · rw [if_neg hB] at h
      by_cases hc : ((gd left i.toNat).1 == 2 && !clc) = true
      · rw [if_pos hc] at h; cases h
      rw [if_neg hc] at h
      obtain ⟨i2, r2, rfl, h2⟩ := useList_first h
      rw [if_neg (by rw [← h2]; exact hn i2 List.mem_cons_self), if_neg (by simp)]
      exact useList_app hC hT h fun i hi => hn i (List.mem_cons_of_mem _ hi)
theorem flat_flatMap (g : Int → List Int) : ∀ vs : List (List Int), (vs.map fun v => v.flatMap g).flatten = vs.flatten.flatMap g
  | [] => rfl
  | v :: vs => by rw [List.map_cons, List.flatten_cons, List.flatten_cons, List.flatMap_append, flat_flatMap g vs]
/-- Kinds that there are. -/
def Kinds (l : List Atom) : Prop := ∀ y ∈ l, y.1 = 1 ∨ y.1 = 2
/-- Sharing out is transitive. -/
theorem shares_trans {la lb ld : List Atom} {us vs : List (List Int)} (ha : Apart la) (hk : Kinds lb) (h1 : Shares la lb us) (h2 : Shares lb ld vs) :
    Shares la ld (vs.map fun v => v.flatMap fun j => gd us j.toNat) := by
  have hin : ∀ {k : Nat}, k < us.length → ∀ i ∈ gd us k, 0 ≤ i ∧ i < (la.length : Int) := fun hk i hi => (h1.mem i).1 (flatI_mem.2 ⟨_, hk, hi⟩)
  have hflat : (vs.map fun v => v.flatMap fun j => gd us j.toNat).flatten = vs.flatten.flatMap fun j => gd us j.toNat := flat_flatMap _ vs
  have closed : ∀ B, clsdB lb B = true → B = 0 ∨ ∃ j, j < us.length ∧ ∃ i r, gd us j = i :: r ∧ 0 ≤ i ∧ i < (la.length : Int) ∧ (gd la i.toNat).2.1 = B := fun B hB => by
    rw [clsdB, Bool.or_eq_true, beq_iff_eq, List.any_eq_true] at hB
    refine hB.imp id ?_
    rintro ⟨y, hy, hyB⟩
    obtain ⟨j, hj, rfl⟩ := List.mem_iff_getElem.1 hy
    rw [beq_iff_eq] at hyB
    have hju : j < us.length := by rw [h1.len]; exact hj
    obtain ⟨i, r, e, he⟩ := allow_first (h1.ok j hj)
    rw [gd_of hj, hyB] at he
    have := hin hju i (by rw [e]; exact List.mem_cons_self)
    exact ⟨j, hju, i, r, e, this.1, this.2, he⟩
  have closed2 : ∀ B, clsdB lb B = true → clsdB la B = true := fun B hB => by
    rw [clsdB, Bool.or_eq_true, beq_iff_eq, List.any_eq_true]
    rcases closed B hB with h0 | ⟨j, _, i, r, _, i0, i1, he⟩
    · exact .inl h0
    · exact .inr ⟨gd la i.toNat, gd_mem (by omega), by rw [beq_iff_eq]; exact he⟩
  have comp : ∀ (B : Int) (v : List Int) (A : Int), (∀ j ∈ v, 0 ≤ j ∧ j < (lb.length : Int)) → useList lb B (clsdB lb B) A v = true → useList la B (clsdB la B) A (v.flatMap fun j => gd us j.toNat) = true := by
    intro B v
    induction v with
    | nil => intro A _ h; rw [useList] at h; cases h
    | cons j r ih =>
      intro A hv h
      have hj := hv j List.mem_cons_self
      have hjb : j.toNat < lb.length := by omega
      have hju : j.toNat < us.length := by rw [h1.len]; exact hjb
      have hok := h1.ok j.toNat hjb
      rw [useList] at h
      rw [List.flatMap_cons]
      by_cases hA : (gd lb j.toNat).2.1 = A
      rotate_left
      · rw [if_neg hA] at h; cases h
      rw [if_pos hA] at h
      by_cases hB : (gd lb j.toNat).2.2 = B
      · rw [if_pos hB, List.isEmpty_iff] at h
        subst h
        rw [List.flatMap_nil, List.append_nil]
        rw [allowB] at hok
        by_cases hc : (gd lb j.toNat).1 = 1
        · rw [if_pos hc, Bool.and_eq_true, beq_iff_eq, decide_eq_true_eq] at hok
          obtain ⟨i, hi⟩ := List.length_eq_one_iff.1 hok.1
          have hok2 := hok.2
          rw [hi] at hok2 ⊢
          have hg : gi [i] 0 = i := rfl
          rw [hg] at hok2
          rw [useList, hok2, if_pos hA, if_pos hB]; rfl
        · rw [if_neg hc, hA, hB] at hok
          exact hok
      · rw [if_neg hB] at h
        by_cases hc : ((gd lb j.toNat).1 == 2 && !clsdB lb B) = true
        · rw [if_pos hc] at h; cases h
        rw [if_neg hc] at h
        have hr := ih _ (fun x hx => hv x (List.mem_cons_of_mem _ hx)) h
        rw [allowB] at hok
        by_cases hc1 : (gd lb j.toNat).1 = 1
        · rw [if_pos hc1, Bool.and_eq_true, beq_iff_eq, decide_eq_true_eq] at hok
          obtain ⟨i, hi⟩ := List.length_eq_one_iff.1 hok.1
          have hok2 := hok.2
          rw [hi] at hok2 ⊢
          have hg : gi [i] 0 = i := rfl
          rw [hg] at hok2
          rw [List.singleton_append, useList, hok2, if_pos hA, if_neg hB, if_neg (by rw [hc1]; simp)]
          exact hr
        · rw [if_neg hc1] at hok
          have hk2 : (gd lb j.toNat).1 = 2 := (hk _ (gd_mem hjb)).resolve_left hc1
          have hcb : clsdB lb B = true := by
            rw [hk2] at hc
            cases hcl : clsdB lb B with
            | true => rfl
            | false => rw [hcl] at hc; exact absurd rfl hc
          have hca := closed2 B hcb
          rw [hca] at hr ⊢
          rw [hA] at hok
          refine useList_app hB hr hok fun i hi e => ?_
          have hi' : i ∈ gd us j.toNat := List.mem_of_mem_tail hi
          have hir := hin hju i hi'
          rcases closed B hcb with h0 | ⟨j', hj', i', r', e', i0, i1, he⟩
          · exact apart_ne ha (i := i.toNat) (by omega) (by rw [e, h0])
          · have hii : i.toNat = i'.toNat := apart_inj ha (by omega) (by omega) (by rw [e, he])
            have hii' : i = i' := by omega
            subst hii'
            have := flatI_two h1.nd hju hj' hi' (by rw [e']; exact List.mem_cons_self)
            subst this
            have hnd := flatI_one h1.nd hju
            rw [e'] at hi hnd
            exact (List.nodup_cons.1 hnd).1 hi
  refine ⟨by rw [List.length_map]; exact h2.len, fun k hkd => ?_, ?_, fun j => ?_⟩
  · have hkv : k < vs.length := by rw [h2.len]; exact hkd
    have hg : gd (vs.map fun v => v.flatMap fun j => gd us j.toNat) k = (gd vs k).flatMap fun j => gd us j.toNat := by
      rw [gd_of (by rw [List.length_map]; exact hkv), List.getElem_map, gd_of hkv]
    rw [hg]
    have hr : ∀ j ∈ gd vs k, 0 ≤ j ∧ j < (lb.length : Int) := fun j hj => (h2.mem j).1 (flatI_mem.2 ⟨k, hkv, hj⟩)
    have hok := h2.ok k hkd
    by_cases hx : (gd ld k).1 = 1
    · rw [allowB, if_pos hx, Bool.and_eq_true, beq_iff_eq, decide_eq_true_eq] at hok
      obtain ⟨j, hj⟩ := List.length_eq_one_iff.1 hok.1
      have hok2 := hok.2
      rw [hj] at hok2 hr ⊢
      have hgj : gi [j] 0 = j := rfl
      rw [hgj] at hok2
      have hj0 := hr j List.mem_cons_self
      rw [List.flatMap_cons, List.flatMap_nil, List.append_nil, ← hok2]
      exact h1.ok j.toNat (by omega)
    · rw [allowB, if_neg hx] at hok ⊢
      exact comp _ _ _ hr hok
  · rw [hflat]
    unfold List.Nodup
    rw [List.pairwise_flatMap]
    refine ⟨fun j hj => ?_, ?_⟩
    · have := (h2.mem j).1 hj
      exact flatI_one h1.nd (by rw [h1.len]; omega)
    · refine List.Pairwise.imp_of_mem (fun {i j} hi hj hne x hx y hy e => ?_) h2.nd
      subst e
      have a1 := (h2.mem i).1 hi
      have a2 := (h2.mem j).1 hj
      have := flatI_two h1.nd (by rw [h1.len]; omega) (by rw [h1.len]; omega) hx hy
      exact hne (by omega)
  · rw [hflat, List.mem_flatMap, ← h1.mem j, flatI_mem]
    constructor
    · rintro ⟨i, hi, hj⟩
      have := (h2.mem i).1 hi
      exact ⟨i.toNat, by rw [h1.len]; omega, hj⟩
    · rintro ⟨i, hi, hj⟩
      rw [h1.len] at hi
      exact ⟨(i : Int), (h2.mem _).2 (by omega), by rw [Int.toNat_natCast]; exact hj⟩
/-- What is shared out begins apart. -/
theorem shares_apart {la lb : List Atom} {us : List (List Int)} (ha : Apart la) (h : Shares la lb us) : Apart lb := by
  have first : ∀ k, k < lb.length → ∃ i : Nat, i < la.length ∧ (i : Int) ∈ gd us k ∧ (gd la i).2.1 = (gd lb k).2.1 := fun k hk => by
    obtain ⟨i, r, e, he⟩ := allow_first (h.ok k hk)
    have hm : i ∈ gd us k := by rw [e]; exact List.mem_cons_self
    have := (h.mem i).1 (flatI_mem.2 ⟨k, by rw [h.len]; exact hk, hm⟩)
    exact ⟨i.toNat, by omega, by rw [show ((i.toNat : Nat) : Int) = i by omega]; exact hm, he⟩
  refine ⟨fun y hy => ?_, ?_⟩
  · obtain ⟨k, hk, rfl⟩ := List.mem_iff_getElem.1 hy
    obtain ⟨i, hi, _, e⟩ := first k hk
    rw [gd_of hk] at e
    rw [← e]
    exact apart_ne ha hi
  · rw [List.pairwise_iff_getElem]
    intro k1 k2 hk1 hk2 hlt e
    obtain ⟨i1, hi1, m1, e1⟩ := first k1 hk1
    obtain ⟨i2, hi2, m2, e2⟩ := first k2 hk2
    rw [gd_of hk1] at e1
    rw [gd_of hk2] at e2
    have := apart_inj ha hi1 hi2 (by rw [e1, e2, e])
    subst this
    have := flatI_two h.nd (by rw [h.len]; exact hk1) (by rw [h.len]; exact hk2) m1 m2
    omega
end Go.Proofs.Ytdjfdopgjlbloaa
/- The plain law of entailment: cases are values up to renaming; entailment is reflexive and transitive. -/
namespace Go.Proofs.Ytdjfdopgjlbloaa
open Go.RowKit

def factV (f : Int → Int) (x : Fact) : Bool := (f x.2.1 == f x.2.2) == x.1
def fillV (f : Int → Int) (l : List Atom) : List Atom := (l.filter fun x => (x.1 == 1) || (f x.2.1 != f x.2.2)).map fun x => (x.1, f x.2.1, f x.2.2)
def valC (cl : List Int) (t : Int) : Int := gi cl t.toNat
structure PossV (f : Int → Int) (a : Asn) : Prop where
  facts : ∀ x ∈ a.1, factV f x = true
  apart : Apart (fillV f a.2)
structure MatchV (f : Int → Int) (a b : Asn) : Prop where
  facts : ∀ x ∈ b.1, factV f x = true
  shares : ∃ us, Shares (fillV f a.2) (fillV f b.2) us
def mapA (φ : Int → Int) (x : Atom) : Atom := (x.1, φ x.2.1, φ x.2.2)
/-- Two ways to give values that make the same terms equal. -/
def Pat (M : Nat) (f g : Int → Int) : Prop := ∀ t u, hasT M t = true → hasT M u = true → (f t = f u ↔ g t = g u)
theorem Pat.symm {M : Nat} {f g : Int → Int} (h : Pat M f g) : Pat M g f := fun t u ht hu => (h t u ht hu).symm
/-- A renaming of classes: no two of those that occur become one. -/
structure Ren (P : Int → Prop) (φ : Int → Int) : Prop where
  inj : ∀ u v, P u → P v → φ u = φ v → u = v
  zero : P 0
  at0 : φ 0 = 0
def Occ (P : Int → Prop) (l : List Atom) : Prop := ∀ y ∈ l, P y.2.1 ∧ P y.2.2
section
variable {P : Int → Prop} {φ : Int → Int} {left right : List Atom}
theorem gd_mapA {i : Nat} (h : i < left.length) : gd (left.map (mapA φ)) i = mapA φ (gd left i) := by
  rw [gd_of (by rw [List.length_map]; exact h), List.getElem_map, gd_of h]
theorem clsd_map (h : Ren P φ) (hl : Occ P left) {B : Int} (hB : P B) : clsdB (left.map (mapA φ)) (φ B) = clsdB left B := by
  rw [clsdB, clsdB, List.any_map]
  congr 1
  · rw [Bool.eq_iff_iff, beq_iff_eq, beq_iff_eq]
    constructor
    · intro e; exact h.inj _ _ hB h.zero (by rw [e, h.at0])
    · intro e; rw [e, h.at0]
  · rw [Bool.eq_iff_iff, List.any_eq_true, List.any_eq_true]
    constructor
    · rintro ⟨y, hy, e⟩
      refine ⟨y, hy, ?_⟩
      simp only [Function.comp, mapA, beq_iff_eq] at e ⊢
      exact h.inj _ _ (hl y hy).1 hB e
    · rintro ⟨y, hy, e⟩
      refine ⟨y, hy, ?_⟩
      simp only [Function.comp, mapA, beq_iff_eq] at e ⊢
      rw [e]
theorem useList_map (h : Ren P φ) (hl : Occ P left) {B : Int} (hB : P B) (cl : Bool) : ∀ (u : List Int) (A : Int), P A → (∀ i ∈ u, 0 ≤ i ∧ i < (left.length : Int)) → useList left B cl A u = true → useList (left.map (mapA φ)) (φ B) cl (φ A) u = true
  | [], A, _, _, hu => by rw [useList] at hu; cases hu
  | i :: r, A, hA, hi, hu => by
    have h0 := hi i List.mem_cons_self
    have hm := hl _ (gd_mem (l := left) (i := i.toNat) (by omega))
    have e0 : gd (left.map (mapA φ)) i.toNat = mapA φ (gd left i.toNat) := gd_mapA (by omega)
    rw [useList] at hu ⊢
    by_cases e : (gd left i.toNat).2.1 = A
    rotate_left
    · rw [if_neg e] at hu; cases hu
    rw [if_pos e] at hu
    rw [if_pos (show (gd (left.map (mapA φ)) i.toNat).2.1 = φ A by rw [e0]; exact congrArg φ e)]
    by_cases e2 : (gd left i.toNat).2.2 = B
    · rw [if_pos e2] at hu
      rw [if_pos (show (gd (left.map (mapA φ)) i.toNat).2.2 = φ B by rw [e0]; exact congrArg φ e2)]; exact hu
    · rw [if_neg e2] at hu
      rw [if_neg (show ¬ (gd (left.map (mapA φ)) i.toNat).2.2 = φ B from fun e3 => by rw [e0] at e3; exact e2 (h.inj _ _ hm.2 hB e3))]
      by_cases hc : ((gd left i.toNat).1 == 2 && !cl) = true
      · rw [if_pos hc] at hu; cases hu
      rw [if_neg hc] at hu
      rw [if_neg (show ¬ ((gd (left.map (mapA φ)) i.toNat).1 == 2 && !cl) = true by rw [e0]; exact hc), e0]
      exact useList_map h hl hB cl r _ hm.2 (fun x hx => hi x (List.mem_cons_of_mem _ hx)) hu
theorem allow_map (h : Ren P φ) (hl : Occ P left) {x : Atom} (hx : P x.2.1 ∧ P x.2.2) {u : List Int} (hi : ∀ i ∈ u, 0 ≤ i ∧ i < (left.length : Int)) (hu : allowB left x u = true) : allowB (left.map (mapA φ)) (mapA φ x) u = true := by
  rw [allowB] at hu ⊢
  by_cases hk : x.1 = 1
  · rw [if_pos hk, Bool.and_eq_true, beq_iff_eq, decide_eq_true_eq] at hu
    rw [if_pos (show (mapA φ x).1 = 1 from hk), Bool.and_eq_true, beq_iff_eq, decide_eq_true_eq]
    obtain ⟨i, rfl⟩ := List.length_eq_one_iff.1 hu.1
    have hg : gi [i] 0 = i := rfl
    rw [hg] at hu ⊢
    have h0 := hi i List.mem_cons_self
    exact ⟨rfl, by rw [gd_mapA (by omega), hu.2]⟩
  · rw [if_neg hk] at hu
    rw [if_neg (show ¬ (mapA φ x).1 = 1 from hk)]
    show useList (left.map (mapA φ)) (φ x.2.2) (clsdB (left.map (mapA φ)) (φ x.2.2)) (φ x.2.1) u = true
    rw [clsd_map h hl hx.2]
    exact useList_map h hl hx.2 _ u _ hx.1 hi hu
theorem shares_map (h : Ren P φ) (hl : Occ P left) (hr : Occ P right) {us : List (List Int)} (hs : Shares left right us) : Shares (left.map (mapA φ)) (right.map (mapA φ)) us where
  len := by rw [List.length_map]; exact hs.len
  ok k hk := by
    rw [List.length_map] at hk
    rw [gd_mapA hk]
    exact allow_map h hl (hr _ (gd_mem hk)) (fun i hi => (hs.mem i).1 (flatI_mem.2 ⟨k, by rw [hs.len]; exact hk, hi⟩)) (hs.ok k hk)
  nd := hs.nd
  mem j := by rw [List.length_map]; exact hs.mem j
theorem apart_map (h : Ren P φ) (hl : Occ P left) (ha : Apart left) : Apart (left.map (mapA φ)) := by
  refine ⟨fun y hy => ?_, ?_⟩
  · obtain ⟨x, hx, rfl⟩ := List.mem_map.1 hy
    intro e
    exact ha.1 x hx (h.inj _ _ (hl x hx).1 h.zero (by rw [h.at0]; exact e))
  · rw [List.pairwise_map]
    refine List.Pairwise.imp_of_mem (fun {x y} hx hy hne e => ?_) ha.2
    exact hne (h.inj _ _ (hl x hx).1 (hl y hy).1 e)
end
/-- All terms of atoms are in a set. -/
def TermsIn (M : Nat) (l : List Atom) : Prop := ∀ x ∈ l, hasT M x.2.1 = true ∧ hasT M x.2.2 = true
def FactsIn (M : Nat) (l : List Fact) : Prop := ∀ x ∈ l, hasT M x.2.1 = true ∧ hasT M x.2.2 = true
def renV2 (M : Nat) (f g : Int → Int) (v : Int) : Int := match (List.range 9).find? (fun t => M.testBit t && (f (t : Int) == v)) with | some t => g (t : Int) | none => 0
section
variable {M : Nat} {f g : Int → Int}
theorem hasT_iff {t : Int} : hasT M t = true ↔ 0 ≤ t ∧ t ≤ 8 ∧ M.testBit t.toNat = true := by
  rw [hasT, Bool.and_eq_true, isTermB_iff]; constructor
  · rintro ⟨⟨h1, h2⟩, h3⟩; exact ⟨h1, h2, h3⟩
  · rintro ⟨h1, h2, h3⟩; exact ⟨⟨h1, h2⟩, h3⟩
theorem ren_at (h : Pat M f g) {t : Int} (ht : hasT M t = true) : renV2 M f g (f t) = g t := by
  obtain ⟨h0, h8, hb⟩ := hasT_iff.1 ht
  rw [renV2]
  cases hq : (List.range 9).find? (fun u => M.testBit u && (f (u : Int) == f t)) with
  | none =>
    rw [List.find?_eq_none] at hq
    have := hq t.toNat (List.mem_range.2 (by omega))
    rw [hb, show ((t.toNat : Nat) : Int) = t by omega] at this
    simp at this
  | some u =>
    have h1 := List.mem_range.1 (List.mem_of_find?_eq_some hq)
    have h2 := List.find?_some hq
    simp only [Bool.and_eq_true, beq_iff_eq] at h2
    exact (h (u : Int) t (hasT_iff.2 ⟨by omega, by omega, by rw [Int.toNat_natCast]; exact h2.1⟩) ht).1 h2.2
theorem ren_ren (h : Pat M f g) (h0 : hasT M 0 = true) (f0 : f 0 = 0) (g0 : g 0 = 0) : Ren (fun v => ∃ t, hasT M t = true ∧ f t = v) (renV2 M f g) where
  inj := by
    rintro u v ⟨t, ht, rfl⟩ ⟨s, hs, rfl⟩ e
    rw [ren_at h ht, ren_at h hs] at e
    exact (h t s ht hs).2 e
  zero := ⟨0, h0, f0⟩
  at0 := by have := ren_at h h0; rwa [f0, g0] at this
theorem fill_occ {l : List Atom} (hl : TermsIn M l) : Occ (fun v => ∃ t, hasT M t = true ∧ f t = v) (fillV f l) := fun y hy => by
  obtain ⟨x, hx, rfl⟩ := List.mem_map.1 hy
  have := hl x (List.mem_filter.1 hx).1
  exact ⟨⟨_, this.1, rfl⟩, ⟨_, this.2, rfl⟩⟩
theorem fill_ren (h : Pat M f g) {l : List Atom} (hl : TermsIn M l) : fillV g l = (fillV f l).map (mapA (renV2 M f g)) := by
  rw [fillV, fillV, List.map_map]
  have e : (l.filter fun x => (x.1 == 1) || (g x.2.1 != g x.2.2)) = l.filter fun x => (x.1 == 1) || (f x.2.1 != f x.2.2) := by
    refine List.filter_congr fun x hx => ?_
    congr 1
    have := h _ _ (hl x hx).1 (hl x hx).2
    rw [Bool.eq_iff_iff, bne_iff_ne, bne_iff_ne]
    exact (not_congr this).symm
  rw [e]
  refine List.map_congr_left fun x hx => ?_
  have := hl x (List.mem_filter.1 hx).1
  show _ = (x.1, renV2 M f g (f x.2.1), renV2 M f g (f x.2.2))
  rw [ren_at h this.1, ren_at h this.2]
theorem fact_pat (h : Pat M f g) {x : Fact} (hx : hasT M x.2.1 = true ∧ hasT M x.2.2 = true) : factV f x = factV g x := by
  rw [factV, factV]
  congr 1
  rw [Bool.eq_iff_iff, beq_iff_eq, beq_iff_eq]
  exact h _ _ hx.1 hx.2
theorem PossV.pat {a : Asn} (h : PossV f a) (hp : Pat M f g) (h0 : hasT M 0 = true) (f0 : f 0 = 0) (g0 : g 0 = 0) (h1 : FactsIn M a.1) (h2 : TermsIn M a.2) : PossV g a where
  facts x hx := by rw [← fact_pat hp (h1 x hx)]; exact h.facts x hx
  apart := by rw [fill_ren hp h2]; exact apart_map (ren_ren hp h0 f0 g0) (fill_occ h2) h.apart
theorem MatchV.pat {a b : Asn} (h : MatchV f a b) (hp : Pat M f g) (h0 : hasT M 0 = true) (f0 : f 0 = 0) (g0 : g 0 = 0) (h1 : FactsIn M b.1) (h2 : TermsIn M a.2) (h3 : TermsIn M b.2) : MatchV g a b where
  facts x hx := by rw [← fact_pat hp (h1 x hx)]; exact h.facts x hx
  shares := by
    obtain ⟨us, hs⟩ := h.shares
    rw [fill_ren hp h2, fill_ren hp h3]
    exact ⟨us, shares_map (ren_ren hp h0 f0 g0) (fill_occ h2) (fill_occ h3) hs⟩
end
/-- The case of values. -/
def caseV (M : Nat) (f : Int → Int) : List Int := (List.range 9).map fun t => if M.testBit t = true then (match (List.range 9).find? (fun k => M.testBit k && (f (k : Int) == f (t : Int))) with | some k => (k : Int) | none => -1) else -1
theorem case_at {M : Nat} {f : Int → Int} {t : Nat} (ht : t < 9) (hb : M.testBit t = true) : ∃ k : Nat, gi (caseV M f) t = (k : Int) ∧ k ≤ t ∧ M.testBit k = true ∧ f (k : Int) = f (t : Int) ∧ ∀ j, j < k → M.testBit j = true → ¬ f (j : Int) = f (t : Int) := by
  have hg : gi (caseV M f) t = (match (List.range 9).find? (fun k => M.testBit k && (f (k : Int) == f (t : Int))) with | some k => (k : Int) | none => -1) := by
    rw [gi_of (by simp [caseV]; exact ht)]
    simp only [caseV, List.getElem_map, List.getElem_range, if_pos hb]
  cases hq : (List.range 9).find? (fun k => M.testBit k && (f (k : Int) == f (t : Int))) with
  | none =>
    rw [List.find?_eq_none] at hq
    have := hq t (List.mem_range.2 ht)
    rw [hb] at this
    simp at this
  | some k =>
    rw [hq] at hg
    rw [List.find?_range_eq_some] at hq
    obtain ⟨h1, h2, h3⟩ := hq
    simp only [Bool.and_eq_true, beq_iff_eq] at h1
    refine ⟨k, hg, ?_, h1.1, h1.2, fun j hj hjb e => ?_⟩
    · apply Nat.le_of_not_lt
      intro hlt
      have := h3 t hlt
      rw [hb] at this
      simp at this
    · have := h3 j hj
      rw [hjb, e] at this
      simp at this
theorem case_out {M : Nat} {f : Int → Int} {t : Nat} (ht : t < 9) (hb : M.testBit t = false) : gi (caseV M f) t = -1 := by
  rw [gi_of (by simp [caseV]; exact ht)]
  simp [caseV, hb]
theorem case_shape (M : Nat) (f : Int → Int) : shapeC M (caseV M f) = true := by
  rw [shapeC, Bool.and_eq_true, beq_iff_eq, List.all_eq_true]
  refine ⟨by simp [caseV], fun t ht => ?_⟩
  have ht' := List.mem_range.1 ht
  rw [stepC]
  cases hb : M.testBit t with
  | true =>
    obtain ⟨k, h1, h2, h3, h4, h5⟩ := case_at (f := f) ht' hb
    obtain ⟨k2, g1, g2, g3, g4, g5⟩ := case_at (f := f) (t := k) (by omega) h3
    rw [if_pos rfl, h1, Int.toNat_natCast, g1]
    simp only [Bool.and_eq_true, decide_eq_true_eq, beq_iff_eq]
    refine ⟨by omega, by omega, ?_⟩
    have : ¬ k2 < k := fun hlt => h5 k2 hlt g3 (by rw [g4, h4])
    omega
  | false =>
    rw [if_neg (by decide), case_out ht' hb]; rfl
theorem case_pat (M : Nat) (f : Int → Int) : Pat M (valC (caseV M f)) f := fun t u ht hu => by
  obtain ⟨t0, t8, tb⟩ := hasT_iff.1 ht
  obtain ⟨u0, u8, ub⟩ := hasT_iff.1 hu
  obtain ⟨k, h1, h2, h3, h4, h5⟩ := case_at (f := f) (t := t.toNat) (by omega) tb
  obtain ⟨k2, g1, g2, g3, g4, g5⟩ := case_at (f := f) (t := u.toNat) (by omega) ub
  rw [show ((t.toNat : Nat) : Int) = t by omega] at h4 h5
  rw [show ((u.toNat : Nat) : Int) = u by omega] at g4 g5
  rw [valC, valC, h1, g1]
  constructor
  · intro e
    have : k = k2 := by omega
    subst this
    rw [← h4, ← g4]
  · intro e
    have a1 : ¬ k2 < k := fun hlt => h5 k2 hlt g3 (by rw [g4, e])
    have a2 : ¬ k < k2 := fun hlt => g5 k hlt h3 (by rw [h4, e])
    have : k = k2 := by omega
    rw [this]
theorem shape_zero {M : Nat} {cl : List Int} (h : shapeC M cl = true) (hb : M.testBit 0 = true) : valC cl 0 = 0 := by
  have := step_bit h (t := 0) (by omega) hb
  show gi cl 0 = 0
  omega
/-- The conditions of a case are about values only. -/
theorem poss_val {M : Nat} {a : Asn} {cl : List Int} (ha : asnB a = true) (hs : shapeC M cl = true) (h2 : TermsIn M a.2) : possC cl 8 a = true ↔ PossV (valC cl) a := by
  have hv : a.2.all atomB = true := by simp only [asnB, Bool.and_eq_true] at ha; exact ha.2.2
  have hap : startsO cl 8 0 a.2 = apartB (filledL cl a.2) := starts_apart hv fun x hx => by
    obtain ⟨x0, x8, xb⟩ := hasT_iff.1 (h2 x hx).1
    have := step_bit hs (t := x.2.1.toNat) (by omega) xb
    exact isTermB_iff.2 ⟨this.1, by omega⟩
  rw [possC, Bool.and_eq_true, hap, apartB_iff, List.all_eq_true]
  have key : ∀ f ∈ a.1, okF cl 8 f = factV (valC cl) f := fun f hf => by
    obtain ⟨_, f2, _, f4⟩ := factB_le ((asn_parts ha).1 f hf)
    rw [okF, if_pos ⟨f2, f4⟩]; rfl
  constructor
  · rintro ⟨p1, p2⟩
    exact ⟨fun x hx => by rw [← key x hx]; exact p1 x hx, p2⟩
  · rintro ⟨p1, p2⟩
    exact ⟨fun x hx => by rw [key x hx]; exact p1 x hx, p2⟩
/-- A set of terms that holds those of an assertion, and nil. -/
def Covers (M : Nat) (a : Asn) : Prop := FactsIn M a.1 ∧ TermsIn M a.2
theorem covers_of {M : Nat} {a : Asn} (ha : asnB a = true) (h : ∀ j, (termsM a).testBit j = true → M.testBit j = true) : Covers M a := by
  refine ⟨fun f hf => ?_, fun x hx => ?_⟩
  · obtain ⟨⟨p1, p2⟩, ⟨q1, q2⟩⟩ := fact_bits ha hf
    rw [hasT, hasT, p1, q1, h _ p2, h _ q2]; exact ⟨rfl, rfl⟩
  · obtain ⟨⟨p1, p2⟩, ⟨q1, q2⟩⟩ := atom_bits ha hx
    rw [hasT, hasT, p1, q1, h _ p2, h _ q2]; exact ⟨rfl, rfl⟩
theorem one_bit (m j : Nat) : (termM m 0).testBit j = (m.testBit j || decide (j = 0)) := by
  rw [termM_bit]
  congr 1
  show (isTermB 0 && decide ((0 : Int) = (j : Int))) = _
  rw [show isTermB 0 = true from rfl, Bool.true_and, decide_eq_decide]; omega
theorem both_cov {a b : Asn} (ha : asnB a = true) (hb : asnB b = true) : Covers (bothM a b) a ∧ Covers (bothM a b) b ∧ (bothM a b).testBit 0 = true := by
  refine ⟨covers_of ha fun j hj => ?_, covers_of hb fun j hj => ?_, ?_⟩
  · rw [bothM, Nat.testBit_or, one_bit, hj]; rfl
  · rw [bothM, Nat.testBit_or, hj, Bool.or_true]
  · rw [bothM, Nat.testBit_or, one_bit]; simp
theorem zero_has {M : Nat} (h : M.testBit 0 = true) : hasT M 0 = true := by rw [hasT_iff]; exact ⟨by decide, by decide, h⟩
/-- A test of all cases is a test of all values. -/
theorem cases_val {M : Nat} {a : Asn} (ha : asnB a = true) (hc : Covers M a) (hb : M.testBit 0 = true) (Q : (Int → Int) → Prop) (hQ : ∀ f g, f 0 = 0 → g 0 = 0 → Pat M f g → Q f → Q g) :
    (∀ cl ∈ casesL M a, Q (valC cl)) ↔ ∀ f, f 0 = 0 → PossV f a → Q f := by
  constructor
  · intro h f f0 hp
    have hs := case_shape M f
    have c0 := shape_zero hs hb
    have hpat := case_pat M f
    have := h (caseV M f) (mem_cases.2 ⟨hs, (poss_val ha hs hc.2).2 (hp.pat hpat.symm (zero_has hb) f0 c0 hc.1 hc.2)⟩)
    exact hQ _ f c0 f0 hpat this
  · intro h cl hcl
    obtain ⟨hs, hp⟩ := mem_cases.1 hcl
    exact h _ (shape_zero hs hb) ((poss_val ha hs hc.2).1 hp)
theorem match_val {M : Nat} {a b : Asn} {cl : List Int} (ha : asnB a = true) (hs : shapeC M cl = true) (hp : possC cl 8 a = true) (hc : TermsIn M a.2) : failC a b cl = false ↔ MatchV (valC cl) a b := by
  have hap := ((poss_val ha hs hc).1 hp).apart
  rw [failC, matchC]
  constructor
  · intro h
    by_cases hf : b.1.all (factC cl) = true
    · rw [if_pos hf] at h
      rw [List.all_eq_true] at hf
      cases hm : mtchF (filledL cl a.2) (filledL cl b.2) with
      | none => rw [hm] at h; cases h
      | some us => exact ⟨hf, us, (mtchF_iff hap).1 hm⟩
    · rw [if_neg hf] at h; cases h
  · rintro ⟨hf, us, hm⟩
    rw [if_pos (show b.1.all (factC cl) = true from List.all_eq_true.2 hf), show mtchF (filledL cl a.2) (filledL cl b.2) = some us from (mtchF_iff hap).2 hm]; rfl
/-- Entailment, as a law of values. -/
theorem ent_iff {a b : Asn} (ha : asnB a = true) (hb : asnB b = true) : entB a b = true ↔ ∀ f, f 0 = 0 → PossV f a → MatchV f a b := by
  obtain ⟨ca, cb, c0⟩ := both_cov ha hb
  rw [← cases_val ha ca c0 (fun f => MatchV f a b) fun f g f0 g0 hp h => h.pat hp (zero_has c0) f0 g0 cb.1 ca.2 cb.2]
  rw [entB, ha, hb, Bool.true_and, Bool.true_and, Option.isNone_iff_eq_none, failO, List.find?_eq_none]
  constructor
  · intro h cl hcl
    obtain ⟨hs, hp⟩ := mem_cases.1 hcl
    exact (match_val ha hs hp ca.2).1 (by simpa using h cl hcl)
  · intro h cl hcl
    obtain ⟨hs, hp⟩ := mem_cases.1 hcl
    rw [(match_val ha hs hp ca.2).2 (h cl hcl)]; decide
theorem ent_valid {a b : Asn} (h : entB a b = true) : asnB a = true ∧ asnB b = true := by
  rw [entB, Bool.and_eq_true, Bool.and_eq_true] at h; exact ⟨h.1, h.2.1⟩
theorem fill_kinds {f : Int → Int} {l : List Atom} (h : ∀ x ∈ l, atomB x = true) : Kinds (fillV f l) := fun y hy => by
  obtain ⟨x, hx, rfl⟩ := List.mem_map.1 hy
  have := h x (List.mem_filter.1 hx).1
  rw [atomB, Bool.and_eq_true, Bool.or_eq_true, beq_iff_eq, beq_iff_eq] at this
  exact this.1
theorem ent_refl {a : Asn} (ha : asnB a = true) : entB a a = true :=
  (ent_iff ha ha).2 fun _ _ hp => ⟨hp.facts, _, shares_refl _⟩
theorem match_poss {f : Int → Int} {a b : Asn} (hp : PossV f a) (hm : MatchV f a b) : PossV f b := by
  obtain ⟨us, hs⟩ := hm.shares
  exact ⟨hm.facts, shares_apart hp.apart hs⟩
theorem match_trans {f : Int → Int} {a b d : Asn} (hb : asnB b = true) (hp : PossV f a) (h1 : MatchV f a b) (h2 : MatchV f b d) : MatchV f a d := by
  obtain ⟨us, hu⟩ := h1.shares
  obtain ⟨vs, hv⟩ := h2.shares
  exact ⟨h2.facts, _, shares_trans hp.apart (fill_kinds (asn_parts hb).2) hu hv⟩
theorem ent_trans {a b d : Asn} (h1 : entB a b = true) (h2 : entB b d = true) : entB a d = true := by
  obtain ⟨ha, hb⟩ := ent_valid h1
  obtain ⟨_, hd⟩ := ent_valid h2
  rw [ent_iff ha hb] at h1
  rw [ent_iff hb hd] at h2
  exact (ent_iff ha hd).2 fun f f0 hp => match_trans hb hp (h1 f f0 hp) (h2 f f0 (match_poss hp (h1 f f0 hp)))
end Go.Proofs.Ytdjfdopgjlbloaa
