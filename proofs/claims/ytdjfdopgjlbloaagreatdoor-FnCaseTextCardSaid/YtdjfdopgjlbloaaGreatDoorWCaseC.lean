/- CaseC: texts Case9, Case10, Case11, Case12 in one. -/
import Derived.Test.YtdjfdopgjlbloaaGreatDoorWCaseB
/- Walks: atoms that an atom uses: the reference. -/
namespace Go.Proofs.YtdjfdopgjlbloaaGreatDoor
open Go.RowKit

/-- The bools that stand for the first n numbers of a set. -/
def boolsN (n m : Nat) : List Value := (List.range n).map fun k => .bool (m.testBit k)
theorem bools_at {n m k : Nat} (h : k < n) : (boolsN n m)[k]? = some (.bool (m.testBit k)) := by simp [boolsN, h]
end Go.Proofs.YtdjfdopgjlbloaaGreatDoor
/- The plain law: what the program and the reference check of a case is the same. -/
namespace Go.Proofs.YtdjfdopgjlbloaaGreatDoor
open Go.RowKit

def cntM (n m : Nat) : Nat := ((List.range n).filter fun k => m.testBit k).length
theorem cntM_set {n m k : Nat} (hk : k < n) (hb : m.testBit k = false) : cntM n (m ||| 2 ^ k) = cntM n m + 1 := by
  induction n with
  | zero => omega
  | succ n ih =>
    unfold cntM
    rw [List.range_succ, List.filter_append, List.filter_append, List.length_append, List.length_append]
    by_cases e : k = n
    · subst e
      have h1 : ((List.range k).filter fun j => (m ||| 2 ^ k).testBit j) = (List.range k).filter fun j => m.testBit j := by
        refine List.filter_congr fun j hj => ?_
        have := List.mem_range.1 hj
        rw [testBit_or_pow]; simp; intro h; omega
      rw [h1]
      have h2 : (m ||| 2 ^ k).testBit k = true := by rw [testBit_or_pow]; simp
      simp [hb]
    · have := ih (by omega)
      unfold cntM at this
      have h2 : (m ||| 2 ^ k).testBit n = m.testBit n := by rw [testBit_or_pow]; simp [e]
      have h3 : ([n].filter fun j => (m ||| 2 ^ k).testBit j) = [n].filter fun j => m.testBit j := by simp only [List.filter_cons, h2, List.filter_nil]
      rw [h3]
      omega
end Go.Proofs.YtdjfdopgjlbloaaGreatDoor
/- The plain law: possible cases of the program and of the reference are the same. -/
namespace Go.Proofs.YtdjfdopgjlbloaaGreatDoor
open Go.RowKit

def occT (t : Int) (j : Nat) : Bool := isTermB t && decide (t = (j : Int))
theorem factsM_bit (j : Nat) : ∀ (l : List Fact) (m : Nat), (factsM m l).testBit j = (m.testBit j || l.any fun f => occT f.2.1 j || occT f.2.2 j)
  | [], m => by simp [factsM]
  | f :: l, m => by
    show (factsM (termM (termM m f.2.1) f.2.2) l).testBit j = _
    rw [factsM_bit j l, termM_bit, termM_bit, List.any_cons, ← occT, ← occT, Bool.or_assoc, Bool.or_assoc, ← Bool.or_assoc (occT f.2.1 j)]
theorem atomsM_bit (j : Nat) : ∀ (l : List Atom) (m : Nat), (atomsM m l).testBit j = (m.testBit j || l.any fun f => occT f.2.1 j || occT f.2.2 j)
  | [], m => by simp [atomsM]
  | f :: l, m => by
    show (atomsM (termM (termM m f.2.1) f.2.2) l).testBit j = _
    rw [atomsM_bit j l, termM_bit, termM_bit, List.any_cons, ← occT, ← occT, Bool.or_assoc, Bool.or_assoc, ← Bool.or_assoc (occT f.2.1 j)]
theorem termsM_bit (a : Asn) (j : Nat) : (termsM a).testBit j = ((a.1.any fun f => occT f.2.1 j || occT f.2.2 j) || a.2.any fun f => occT f.2.1 j || occT f.2.2 j) := by
  rw [termsM, atomsM_bit, factsM_bit, Nat.zero_testBit, Bool.false_or]
theorem both_bit (a b : Asn) (j : Nat) : (termsM (a.1 ++ b.1, a.2 ++ b.2)).testBit j = ((termsM a).testBit j || (termsM b).testBit j) := by
  rw [termsM_bit, termsM_bit, termsM_bit]
  simp only [List.any_append]
  cases a.1.any fun f => occT f.2.1 j || occT f.2.2 j <;> cases b.1.any fun f => occT f.2.1 j || occT f.2.2 j <;> cases a.2.any fun f => occT f.2.1 j || occT f.2.2 j <;> cases b.2.any fun f => occT f.2.1 j || occT f.2.2 j <;> rfl
theorem occ_self {t : Int} (h : isTermB t = true) : occT t t.toNat = true := by
  have := isTermB_iff.1 h
  simp [occT, h]; omega
theorem fact_bits {a : Asn} (ha : asnB a = true) {f : Fact} (hf : f ∈ a.1) : (isTermB f.2.1 = true ∧ (termsM a).testBit f.2.1.toNat = true) ∧ (isTermB f.2.2 = true ∧ (termsM a).testBit f.2.2.toNat = true) := by
  simp only [asnB, factsB, Bool.and_eq_true, List.all_eq_true] at ha
  have h1 := ha.1.2 f hf
  simp only [factB, Bool.and_eq_true] at h1
  refine ⟨⟨h1.1, ?_⟩, ⟨h1.2, ?_⟩⟩
  · rw [termsM_bit, Bool.or_eq_true]; left; rw [List.any_eq_true]; exact ⟨f, hf, by rw [occ_self h1.1]; rfl⟩
  · rw [termsM_bit, Bool.or_eq_true]; left; rw [List.any_eq_true]; exact ⟨f, hf, by rw [occ_self h1.2, Bool.or_true]⟩
theorem atom_bits {a : Asn} (ha : asnB a = true) {f : Atom} (hf : f ∈ a.2) : (isTermB f.2.1 = true ∧ (termsM a).testBit f.2.1.toNat = true) ∧ (isTermB f.2.2 = true ∧ (termsM a).testBit f.2.2.toNat = true) := by
  simp only [asnB, factsB, Bool.and_eq_true, List.all_eq_true] at ha
  have h1 := ha.2.2 f hf
  simp only [atomB, Bool.and_eq_true] at h1
  refine ⟨⟨h1.2.1, ?_⟩, ⟨h1.2.2, ?_⟩⟩
  · rw [termsM_bit, Bool.or_eq_true]; right; rw [List.any_eq_true]; exact ⟨f, hf, by rw [occ_self h1.2.1]; rfl⟩
  · rw [termsM_bit, Bool.or_eq_true]; right; rw [List.any_eq_true]; exact ⟨f, hf, by rw [occ_self h1.2.2, Bool.or_true]⟩
/-- Different starts. -/
def stB (m : Nat) : List Atom → Bool
  | [] => true
  | y :: r => if (y.2.1 == 0 || hasT m y.2.1) = true then false else stB (termM m y.2.1) r
theorem starts_st {cl : List Int} : ∀ (l : List Atom) (m : Nat), l.all atomB = true → startsO cl 8 m l = stB m (filledL cl l)
  | [], m, _ => rfl
  | x :: l, m, h => by
    rw [List.all_cons, Bool.and_eq_true] at h
    obtain ⟨t1, t2, t3, t4⟩ := atomB_le' h.1
    have hi : inA cl 8 x = fillC cl x := by rw [inA, decide_eq_true t2, decide_eq_true t4]; rfl
    rw [startsO, hi]
    unfold filledL
    rw [List.filter_cons]
    cases hf : fillC cl x with
    | false => simp only [Bool.false_eq_true, if_false]; exact starts_st l m h.2
    | true =>
      simp only [if_true, List.map_cons, stB]
      show _ = if ((atC cl x).2.1 == 0 || hasT m (atC cl x).2.1) = true then false else stB (termM m (atC cl x).2.1) (filledL cl l)
      rw [← starts_st l _ h.2]; rfl
theorem hasT_term {m : Nat} {t z : Int} (hz : isTermB z = true) : hasT (termM m t) z = (hasT m z || decide (t = z)) := by
  have := isTermB_iff.1 hz
  rw [hasT, hasT, hz, Bool.true_and, Bool.true_and, termM_bit]
  congr 1
  by_cases e : t = z
  · subst e; rw [hz, Bool.true_and]; simp; omega
  · rw [decide_eq_false (show ¬ t = ((z.toNat : Nat) : Int) by omega), decide_eq_false e, Bool.and_false]
theorem stB_iff : ∀ (l : List Atom) (m : Nat), (∀ y ∈ l, isTermB y.2.1 = true) → (stB m l = true ↔ (∀ y ∈ l, y.2.1 ≠ 0 ∧ hasT m y.2.1 = false) ∧ l.Pairwise fun y z => y.2.1 ≠ z.2.1)
  | [], m, _ => by simp [stB]
  | y :: r, m, h => by
    have hr := stB_iff r (termM m y.2.1) fun z hz => h z (List.mem_cons_of_mem _ hz)
    rw [stB, List.pairwise_cons]
    by_cases hc : (y.2.1 == 0 || hasT m y.2.1) = true
    · rw [if_pos hc]
      constructor
      · intro e; cases e
      · rintro ⟨h1, _⟩
        have := h1 y List.mem_cons_self
        rw [this.2, Bool.or_false, beq_iff_eq] at hc
        exact absurd hc this.1
    · rw [if_neg hc, hr]
      simp only [Bool.or_eq_true, beq_iff_eq, not_or, Bool.not_eq_true] at hc
      constructor
      · rintro ⟨h1, h2⟩
        have h3 : ∀ z ∈ r, z.2.1 ≠ 0 ∧ hasT m z.2.1 = false ∧ y.2.1 ≠ z.2.1 := fun z hz => by
          have := h1 z hz
          rw [hasT_term (h z (List.mem_cons_of_mem _ hz)), Bool.or_eq_false_iff, decide_eq_false_iff_not] at this
          exact ⟨this.1, this.2.1, this.2.2⟩
        refine ⟨fun z hz => ?_, ⟨fun z hz => (h3 z hz).2.2, h2⟩⟩
        rcases List.mem_cons.1 hz with rfl | hz
        · exact hc
        · exact ⟨(h3 z hz).1, (h3 z hz).2.1⟩
      · rintro ⟨h1, h2, h3⟩
        refine ⟨fun z hz => ?_, h3⟩
        have h4 := h1 z (List.mem_cons_of_mem _ hz)
        refine ⟨h4.1, ?_⟩
        rw [hasT_term (h z (List.mem_cons_of_mem _ hz)), h4.2, Bool.false_or, decide_eq_false_iff_not]
        exact h2 z hz
theorem apartB_iff (l : List Atom) : apartB l = true ↔ (∀ y ∈ l, y.2.1 ≠ 0) ∧ l.Pairwise fun y z => y.2.1 ≠ z.2.1 := by
  rw [apartB, List.all_eq_true, List.pairwise_iff_getElem]
  constructor
  · intro h
    refine ⟨fun y hy => ?_, fun i j hi hj hij => ?_⟩
    · obtain ⟨i, hi, rfl⟩ := List.mem_iff_getElem.1 hy
      have := h i (List.mem_range.2 hi)
      simp only [apartP, Bool.and_eq_true, bne_iff_ne, gd_of hi] at this
      exact this.1
    · have := h j (List.mem_range.2 hj)
      simp only [apartP, Bool.and_eq_true, List.all_eq_true, bne_iff_ne, gd_of hj] at this
      have h2 := this.2 i (List.mem_range.2 hij)
      rwa [gd_of hi] at h2
  · rintro ⟨h1, h2⟩ i hi
    have hi' := List.mem_range.1 hi
    simp only [apartP, Bool.and_eq_true, List.all_eq_true, bne_iff_ne, gd_of hi']
    refine ⟨h1 _ (List.getElem_mem hi'), fun k hk => ?_⟩
    have hk' := List.mem_range.1 hk
    rw [gd_of (by omega)]
    exact h2 k i (by omega) hi' hk'
theorem starts_apart {cl : List Int} {l : List Atom} (hl : l.all atomB = true) (hc : ∀ x ∈ l, isTermB (gi cl x.2.1.toNat) = true) : startsO cl 8 0 l = apartB (filledL cl l) := by
  rw [starts_st l 0 hl, Bool.eq_iff_iff, apartB_iff, stB_iff _ _ fun y hy => ?_]
  · have h0 : ∀ t, hasT 0 t = false := fun t => by simp [hasT]
    simp only [h0, and_true]
  · obtain ⟨x, hx, rfl⟩ := List.mem_map.1 hy
    exact hc x (List.mem_filter.1 hx).1
theorem step_bit {M : Nat} {cl : List Int} {t : Nat} (h : shapeC M cl = true) (ht : t ≤ 8) (hb : M.testBit t = true) : 0 ≤ gi cl t ∧ gi cl t ≤ (t : Int) := by
  simp only [shapeC, Bool.and_eq_true, List.all_eq_true] at h
  have := h.2 t (List.mem_range.2 (by omega))
  rw [stepC, if_pos hb] at this
  simp only [Bool.and_eq_true, decide_eq_true_eq] at this
  exact ⟨this.1, this.2.1⟩
theorem steps_eq {M M' : Nat} {cl : List Int} {t : Nat} (h : M.testBit t = M'.testBit t) : stepC M cl t = stepS M' cl t := by
  rw [stepC, stepS, h]
  cases M'.testBit t with
  | true =>
    rw [if_pos rfl]
    by_cases h0 : 0 ≤ gi cl t
    · rw [decide_eq_true h0, decide_eq_true (show -1 ≤ gi cl t by omega), decide_eq_false (show ¬ gi cl t < 0 by omega)]; rfl
    · rw [decide_eq_false h0]; rfl
  | false =>
    rw [if_neg (by decide)]
    rw [Bool.eq_iff_iff]
    simp only [beq_iff_eq, Bool.and_eq_true, Bool.or_eq_true, decide_eq_true_eq]
    constructor
    · intro e; rw [e]; exact ⟨by decide, by decide, by omega, .inl (by decide)⟩
    · rintro ⟨h1, h2, h3, h4⟩
      have : ¬ 0 ≤ gi cl t := of_decide_eq_false h1.symm
      omega
theorem case_eq {a b : Asn} {cl : List Int} (ha : asnB a = true) : isCaseB (termsM (a.1 ++ b.1, a.2 ++ b.2)) a cl = readC (termsM b) a cl := by
  unfold isCaseB readC
  obtain ⟨M, hM⟩ : ∃ M, termM (termsM a) 0 ||| termsM b = M := ⟨_, rfl⟩
  have hbit : ∀ j, 1 ≤ j → M.testBit j = (termsM (a.1 ++ b.1, a.2 ++ b.2)).testBit j := fun j hj => by
    rw [← hM, Nat.testBit_or, termM_bit, both_bit]
    have : decide ((0 : Int) = (j : Int)) = false := decide_eq_false (by omega)
    rw [this, Bool.and_false, Bool.or_false]
  have hbit0 : M.testBit 0 = true := by rw [← hM, Nat.testBit_or, termM_bit]; simp [isTermB]
  have hsub : ∀ j, (termsM a).testBit j = true → M.testBit j = true := fun j hj => by rw [← hM, Nat.testBit_or, termM_bit, hj]; rfl
  rw [hM]
  have hsh : shapeC M cl = ((cl.length == 9) && ((gi cl 0 == 0) && (List.range' 1 8).all (stepS (termsM (a.1 ++ b.1, a.2 ++ b.2)) cl))) := by
    unfold shapeC
    congr 1
    rw [show List.range 9 = 0 :: List.range' 1 8 from rfl, List.all_cons]
    congr 1
    · rw [stepC, if_pos hbit0, Bool.eq_iff_iff]
      simp only [Bool.and_eq_true, decide_eq_true_eq, beq_iff_eq]
      constructor
      · rintro ⟨h1, h2, _⟩; omega
      · intro e; rw [e]; exact ⟨by decide, by decide, e⟩
    · rw [Bool.eq_iff_iff, List.all_eq_true, List.all_eq_true]
      constructor
      · intro h t ht; have h1 := (List.mem_range'_1.1 ht).1; rw [← steps_eq (hbit t h1)]; exact h t ht
      · intro h t ht; have h1 := (List.mem_range'_1.1 ht).1; rw [steps_eq (hbit t h1)]; exact h t ht
  cases hs : shapeC M cl with
  | false =>
    rw [hs] at hsh
    rw [Bool.false_and]
    cases h1 : cl.length == 9 <;> cases h2 : gi cl 0 == 0 <;> cases h3 : (List.range' 1 8).all (stepS (termsM (a.1 ++ b.1, a.2 ++ b.2)) cl) <;> simp_all
  | true =>
    have hs' := hs
    rw [hsh] at hs'
    simp only [Bool.and_eq_true] at hs'
    rw [hs'.1, hs'.2.1, hs'.2.2, Bool.true_and, Bool.true_and, Bool.true_and, Bool.true_and]
    have hcl : ∀ t : Int, isTermB t = true → (termsM a).testBit t.toNat = true → 0 ≤ gi cl t.toNat ∧ gi cl t.toNat ≤ 8 := fun t ht hb => by
      have h8 := isTermB_iff.1 ht
      have := step_bit hs (t := t.toNat) (by omega) (hsub _ hb)
      omega
    unfold possC
    congr 1
    · rw [Bool.eq_iff_iff, List.all_eq_true, List.all_eq_true]
      have key : ∀ f ∈ a.1, okF cl 8 f = fitsF cl f := fun f hf => by
        obtain ⟨⟨p1, p2⟩, ⟨q1, q2⟩⟩ := fact_bits ha hf
        have e1 := isTermB_iff.1 p1
        have e2 := isTermB_iff.1 q1
        have c1 := hcl _ p1 p2
        have c2 := hcl _ q1 q2
        rw [okF, if_pos ⟨e1.2, e2.2⟩, fitsF, decide_eq_true c1.1, decide_eq_true c2.1, factC]
        cases gi cl f.2.1.toNat == gi cl f.2.2.toNat <;> cases f.1 <;> rfl
      constructor
      · intro h f hf; rw [key f hf]; exact h f hf
      · intro h f hf; rw [← key f hf]; exact h f hf
    · have hv : a.2.all atomB = true := by simp only [asnB, Bool.and_eq_true] at ha; exact ha.2.2
      rw [starts_apart hv fun x hx => ?_]
      obtain ⟨⟨p1, p2⟩, _⟩ := atom_bits ha hx
      exact isTermB_iff.2 (hcl _ p1 p2)
/-- In a case of two assertions the facts of the second one hold alike. -/
theorem facts_eq {a b : Asn} {cl : List Int} (hb : asnB b = true) (hr : readC (termsM b) a cl = true) : b.1.all (fitsF cl) = b.1.all (factC cl) := by
  simp only [readC, Bool.and_eq_true] at hr
  rw [Bool.eq_iff_iff, List.all_eq_true, List.all_eq_true]
  have key : ∀ f ∈ b.1, fitsF cl f = factC cl f := fun f hf => by
    obtain ⟨⟨p1, p2⟩, ⟨q1, q2⟩⟩ := fact_bits hb hf
    have e1 := isTermB_iff.1 p1
    have e2 := isTermB_iff.1 q1
    have s : ∀ j, (termsM b).testBit j = true → (termM (termsM a) 0 ||| termsM b).testBit j = true := fun j hj => by rw [Nat.testBit_or, hj, Bool.or_true]
    have c1 := step_bit hr.1 (t := f.2.1.toNat) (by omega) (s _ p2)
    have c2 := step_bit hr.1 (t := f.2.2.toNat) (by omega) (s _ q2)
    rw [fitsF, decide_eq_true c1.1, decide_eq_true c2.1, factC]
    cases gi cl f.2.1.toNat == gi cl f.2.2.toNat <;> cases f.1 <;> rfl
  constructor
  · intro h f hf; rw [← key f hf]; exact h f hf
  · intro h f hf; rw [key f hf]; exact h f hf
end Go.Proofs.YtdjfdopgjlbloaaGreatDoor
/- Walks: the check of a case: the reference. -/
namespace Go.Proofs.YtdjfdopgjlbloaaGreatDoor
open Go.RowKit

theorem bools_zero (n : Nat) : List.replicate n (Value.bool false) = boolsN n 0 := by
  apply List.ext_getElem?
  intro i
  by_cases h : i < n
  · rw [bools_at h, List.getElem?_replicate, if_pos h, Nat.zero_testBit]
  · simp [boolsN, h]

theorem info_bool9 : (Tryz.prog.info? 4).map (fun i => (i.zero, i.size, i.bytes)) = some (some (.bool false), 1, 1) := by kernel_rfl
end Go.Proofs.YtdjfdopgjlbloaaGreatDoor
