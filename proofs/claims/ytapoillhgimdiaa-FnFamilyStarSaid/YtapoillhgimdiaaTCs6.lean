/- The plain law of truth: what holds in a state, cell by cell; entailment is sound. -/
import Derived.Test.YtapoillhgimdiaaTCsA
import Derived.Test.YtapoillhgimdiaaTHold7
import Derived.Test.YtapoillhgimdiaaTRens
namespace Go.Proofs.Ytapoillhgimdiaa
open Go.RowKit

/-- A way from an address to another one. -/
def Way (hs : List Int) (t : Int) : Int → List Int → Prop
  | a, [] => a = t
  | a, x :: r => x = a ∧ a ≠ t ∧ alB hs a = true ∧ Way hs t (ct hs a) r
theorem way_iff {hs : List Int} {t : Int} : ∀ (k : Nat) (a : Int) (l : List Int), wayN hs t k a = some l ↔ Way hs t a l ∧ l.length ≤ k
  | 0, a, l => by
    unfold wayN
    by_cases e : a = t
    · rw [if_pos e]
      constructor
      · intro h; cases h; exact ⟨e, Nat.le_refl _⟩
      · rintro ⟨h, hl⟩
        have : l = [] := List.length_eq_zero_iff.1 (by omega)
        rw [this]
    · rw [if_neg e]
      constructor
      · intro h; cases h
      · rintro ⟨h, hl⟩
        have : l = [] := List.length_eq_zero_iff.1 (by omega)
        subst this
        exact absurd h e
  | k + 1, a, l => by
    unfold wayN
    by_cases e : a = t
    · rw [if_pos e]
      constructor
      · intro h; cases h; exact ⟨e, Nat.zero_le _⟩
      · rintro ⟨h, hl⟩
        cases l with
        | nil => rfl
        | cons x r => exact absurd e h.2.1
    · rw [if_neg e]
      by_cases ha : alB hs a = true
      · rw [if_pos ha]
        constructor
        · intro h
          cases hq : wayN hs t k (ct hs a) with
          | none => rw [hq] at h; cases h
          | some r =>
            rw [hq] at h
            simp only [Option.map_some, Option.some.injEq] at h
            subst h
            obtain ⟨h1, h2⟩ := (way_iff k _ r).1 hq
            exact ⟨⟨rfl, e, ha, h1⟩, by simp; omega⟩
        · rintro ⟨h, hl⟩
          cases l with
          | nil => exact absurd h e
          | cons x r =>
            obtain ⟨rfl, _, _, h4⟩ := h
            rw [(way_iff k _ r).2 ⟨h4, by simpa using hl⟩]; rfl
      · rw [if_neg ha]
        constructor
        · intro h; cases h
        · rintro ⟨h, hl⟩
          cases l with
          | nil => exact absurd h e
          | cons x r => exact absurd h.2.2.1 ha
theorem Way.al {hs : List Int} {t : Int} : ∀ {l : List Int} {a : Int}, Way hs t a l → ∀ x ∈ l, alB hs x = true
  | [], _, _, x, hx => absurd hx (by simp)
  | y :: r, a, h, x, hx => by
    obtain ⟨rfl, _, h3, h4⟩ := h
    rcases List.mem_cons.1 hx with rfl | hx
    · exact h3
    · exact Way.al h4 x hx
theorem Way.app {hs : List Int} {s t : Int} {l2 : List Int} (h2 : Way hs t s l2) : ∀ {l1 : List Int} {a : Int}, Way hs s a l1 → t ∉ l1 → Way hs t a (l1 ++ l2)
  | [], a, h, _ => by have : a = s := h; subst this; exact h2
  | x :: r, a, h, hn => by
    obtain ⟨rfl, _, h3, h4⟩ := h
    rw [List.mem_cons, not_or] at hn
    exact ⟨rfl, fun e => hn.1 e.symm, h3, Way.app h2 h4 hn.2⟩
theorem Way.first {hs : List Int} {t a : Int} {l : List Int} (h : Way hs t a l) (hne : a ≠ t) : a ∈ l := by
  cases l with
  | nil => exact absurd h hne
  | cons x r => obtain ⟨rfl, _⟩ := h; exact List.mem_cons_self
/-- The cells of an atom whose terms have values. -/
def cellV (hs : List Int) (y : Atom) : Option (List Int) := if y.1 = 2 then wayN hs y.2.2 8 y.2.1 else if (ct hs y.2.1 == y.2.2) = true then some [y.2.1] else none
def valA (f : Int → Int) (x : Atom) : Atom := (x.1, f x.2.1, f x.2.2)
theorem cells_V {vl hs : List Int} (x : Atom) : cellsB vl hs x = (cellV hs (valA (tv vl) x)).isSome ∧ cellsL vl hs x = (cellV hs (valA (tv vl) x)).getD [] := by
  unfold cellsB cellsL cellV valA
  simp only
  by_cases hk : x.1 = 2
  · rw [if_pos hk, if_pos hk, if_pos hk]; exact ⟨rfl, rfl⟩
  · rw [if_neg hk, if_neg hk, if_neg hk]
    cases ct hs (tv vl x.2.1) == tv vl x.2.2 <;> exact ⟨rfl, rfl⟩
theorem addsC_iff : ∀ (l : List Int) (m r : Nat), (∀ n ∈ l, isAddrB n = true) → (addsC m l = some r ↔ l.Nodup ∧ (∀ n ∈ l, hasB m n = false) ∧ r = l.foldl (fun m n => m ||| 2 ^ n.toNat) m)
  | [], m, r, _ => by
    simp only [addsC, Option.some.injEq, List.foldl_nil]
    constructor
    · intro h; exact ⟨List.nodup_nil, fun n hn => absurd hn (by simp), h.symm⟩
    · intro h; exact h.2.2.symm
  | n :: l, m, r, h => by
    have hn := h n List.mem_cons_self
    have hl := fun x hx => h x (List.mem_cons_of_mem _ hx)
    rw [addsC]
    have hh : ∀ x ∈ l, hasB (m ||| 2 ^ n.toNat) x = (hasB m x || decide (n = x)) := fun x hx => by
      have h1 := isAddrB_iff.1 hn
      have h2 := isAddrB_iff.1 (hl x hx)
      rw [hasB, hasB, hl x hx, Bool.true_and, Bool.true_and, testBit_or_pow]
      congr 1
      rw [decide_eq_decide]; omega
    by_cases hb : hasB m n = true
    · rw [if_pos hb]
      constructor
      · intro h; cases h
      · rintro ⟨_, h2, _⟩
        rw [h2 n List.mem_cons_self] at hb; cases hb
    · rw [if_neg hb, addsC_iff l _ r hl, List.nodup_cons, List.foldl_cons]
      rw [Bool.not_eq_true] at hb
      constructor
      · rintro ⟨h1, h2, h3⟩
        have hn' : n ∉ l := fun hm => by
          have := h2 n hm
          rw [hh n hm] at this
          simp at this
        refine ⟨⟨hn', h1⟩, fun x hx => ?_, h3⟩
        rcases List.mem_cons.1 hx with rfl | hx
        · exact hb
        · have := h2 x hx
          rw [hh x hx, Bool.or_eq_false_iff] at this
          exact this.1
      · rintro ⟨⟨h1, h2⟩, h3, h4⟩
        refine ⟨h2, fun x hx => ?_, h4⟩
        rw [hh x hx, h3 x (List.mem_cons_of_mem _ hx), Bool.false_or, decide_eq_false_iff_not]
        rintro rfl
        exact h1 hx
theorem fold_bit {hs : List Int} : ∀ (l : List Int) (m : Nat) (v : Int), (∀ n ∈ l, isAddrB n = true) → isAddrB v = true → hasB (l.foldl (fun m n => m ||| 2 ^ n.toNat) m) v = (hasB m v || decide (v ∈ l))
  | [], m, v, _, _ => by simp
  | n :: l, m, v, h, hv => by
    have hn := h n List.mem_cons_self
    rw [List.foldl_cons, fold_bit (hs := hs) l _ v (fun x hx => h x (List.mem_cons_of_mem _ hx)) hv]
    have h1 := isAddrB_iff.1 hn
    have h2 := isAddrB_iff.1 hv
    have : hasB (m ||| 2 ^ n.toNat) v = (hasB m v || decide (n = v)) := by
      rw [hasB, hasB, hv, Bool.true_and, Bool.true_and, testBit_or_pow]
      congr 1
      rw [decide_eq_decide]; omega
    rw [this, Bool.or_assoc]
    congr 1
    rw [Bool.eq_iff_iff, Bool.or_eq_true, decide_eq_true_eq, decide_eq_true_eq, decide_eq_true_eq, List.mem_cons]
    exact or_congr ⟨Eq.symm, Eq.symm⟩ Iff.rfl
theorem partP_iff {vl hs : List Int} (hv : validB vl hs = true) : ∀ (l : List Atom) (m r : Nat), (∀ x ∈ l, atomB x = true) → (partP vl hs m l = some r ↔ (∀ x ∈ l, cellsB vl hs x = true) ∧ (l.flatMap (cellsL vl hs)).Nodup ∧ (∀ n ∈ l.flatMap (cellsL vl hs), hasB m n = false) ∧ r = (l.flatMap (cellsL vl hs)).foldl (fun m n => m ||| 2 ^ n.toNat) m)
  | [], m, r, _ => by
    simp only [partP, Option.some.injEq, List.flatMap_nil, List.foldl_nil]
    constructor
    · intro h; exact ⟨fun x hx => absurd hx (by simp), List.nodup_nil, fun n hn => absurd hn (by simp), h.symm⟩
    · intro h; exact h.2.2.2.symm
  | x :: l, m, r, hx => by
    have hxl := fun y hy => hx y (List.mem_cons_of_mem _ hy)
    rw [partP, List.flatMap_cons]
    cases hc : cellsB vl hs x with
    | false =>
      constructor
      · intro h; cases h
      · rintro ⟨h, _⟩
        have := h x List.mem_cons_self
        rw [hc] at this; cases this
    | true =>
      simp only [if_true]
      have hal : ∀ n ∈ cellsL vl hs x, isAddrB n = true := fun n hn => isAddrB_iff.2 (al_addr (cells_mem hv (hx x List.mem_cons_self) hc n hn))
      cases ha : addsC m (cellsL vl hs x) with
      | none =>
        constructor
        · intro h; cases h
        · rintro ⟨_, h2, h3, _⟩
          rw [List.nodup_append] at h2
          rw [(addsC_iff _ _ _ hal).2 ⟨h2.1, fun n hn => h3 n (List.mem_append_left _ hn), rfl⟩] at ha
          cases ha
      | some q =>
        obtain ⟨a1, a2, a3⟩ := (addsC_iff _ _ _ hal).1 ha
        simp only
        rw [partP_iff hv l q r hxl, List.nodup_append, List.foldl_append, ← a3]
        constructor
        · rintro ⟨b1, b2, b3, b4⟩
          have hal2 : ∀ n ∈ l.flatMap (cellsL vl hs), isAddrB n = true := fun n hn => by
            obtain ⟨y, hy, hn⟩ := List.mem_flatMap.1 hn
            exact isAddrB_iff.2 (al_addr (cells_mem hv (hxl y hy) (b1 y hy) n hn))
          have key : ∀ n ∈ l.flatMap (cellsL vl hs), hasB m n = false ∧ n ∉ cellsL vl hs x := fun n hn => by
            have := b3 n hn
            rw [a3, fold_bit (hs := hs) _ _ _ hal (hal2 n hn), Bool.or_eq_false_iff, decide_eq_false_iff_not] at this
            exact this
          refine ⟨fun y hy => ?_, ⟨a1, b2, fun u hu v hv' e => (key v hv').2 (e ▸ hu)⟩, fun n hn => ?_, b4⟩
          · rcases List.mem_cons.1 hy with rfl | hy
            · exact hc
            · exact b1 y hy
          · rcases List.mem_append.1 hn with hn | hn
            · exact a2 n hn
            · exact (key n hn).1
        · rintro ⟨b1, ⟨_, b2, b3⟩, b4, b5⟩
          have hal2 : ∀ n ∈ l.flatMap (cellsL vl hs), isAddrB n = true := fun n hn => by
            obtain ⟨y, hy, hn⟩ := List.mem_flatMap.1 hn
            exact isAddrB_iff.2 (al_addr (cells_mem hv (hxl y hy) (b1 y (List.mem_cons_of_mem _ hy)) n hn))
          refine ⟨fun y hy => b1 y (List.mem_cons_of_mem _ hy), b2, fun n hn => ?_, b5⟩
          rw [a3, fold_bit (hs := hs) _ _ _ hal (hal2 n hn), b4 n (List.mem_append_right _ hn), Bool.false_or, decide_eq_false_iff_not]
          intro hm
          exact b3 n hm n hn rfl
/-- What it is that an assertion holds in a state. -/
structure HoldsP (vl hs : List Int) (a : Asn) : Prop where
  valid : validB vl hs = true
  asn : asnB a = true
  facts : ∀ x ∈ a.1, factV (tv vl) x = true
  cells : ∀ x ∈ a.2, cellsB vl hs x = true
  nd : (a.2.flatMap (cellsL vl hs)).Nodup
  mem : ∀ v, v ∈ a.2.flatMap (cellsL vl hs) ↔ alB hs v = true
theorem used_bits {hs : List Int} {m : Nat} (h : ∀ j, m.testBit j = true → alB hs (j : Int) = true) : m = usedN hs 8 ↔ ∀ v, isAddrB v = true → hasB m v = alB hs v := by
  constructor
  · rintro rfl v hv
    have := isAddrB_iff.1 hv
    rw [hasB, hv, Bool.true_and, usedN_bit, decide_eq_true (by omega), Bool.true_and, show ((v.toNat : Nat) : Int) = v by omega]
  · intro hv
    refine Nat.eq_of_testBit_eq fun j => ?_
    rw [usedN_bit]
    by_cases hj : 1 ≤ j ∧ j ≤ 8
    · have ha : isAddrB (j : Int) = true := isAddrB_iff.2 (by omega)
      have := hv (j : Int) ha
      rw [hasB, ha, Bool.true_and, Int.toNat_natCast] at this
      rw [this, decide_eq_true hj, Bool.true_and]
    · rw [decide_eq_false hj, Bool.false_and]
      cases hb : m.testBit j with
      | false => rfl
      | true => exact absurd (al_addr (h j hb)) (by omega)
theorem holds_iff {vl hs : List Int} {a : Asn} : holdsB vl hs a = true ↔ HoldsP vl hs a := by
  constructor
  · intro h
    cases hp : partO vl hs a with
    | none => rw [holds_none hp] at h; cases h
    | some m =>
      rw [holds_some hp, beq_iff_eq] at h
      obtain ⟨h1, h2, h3, h4⟩ := partO_some hp
      have hat := (asn_parts h2).2
      obtain ⟨p1, p2, p3, p4⟩ := (partP_iff h1 _ _ _ hat).1 h4
      have hal : ∀ n ∈ a.2.flatMap (cellsL vl hs), alB hs n = true := fun n hn => by
        obtain ⟨y, hy, hn⟩ := List.mem_flatMap.1 hn
        exact cells_mem h1 (hat y hy) (p1 y hy) n hn
      refine ⟨h1, h2, fun x hx => (List.all_eq_true.1 h3) x hx, p1, p2, fun v => ⟨hal v, fun hv => ?_⟩⟩
      have hva := isAddrB_iff.2 (al_addr hv)
      have := (used_bits (partO_bits hp)).1 h v hva
      rw [p4, fold_bit (hs := hs) _ _ _ (fun n hn => isAddrB_iff.2 (al_addr (hal n hn))) hva, hv, show hasB 0 v = false by simp [hasB], Bool.false_or, decide_eq_true_eq] at this
      exact this
  · rintro ⟨h1, h2, h3, h4, h5, h6⟩
    have hat := (asn_parts h2).2
    have hp : partP vl hs 0 a.2 = some ((a.2.flatMap (cellsL vl hs)).foldl (fun m n => m ||| 2 ^ n.toNat) 0) := (partP_iff h1 _ _ _ hat).2 ⟨h4, h5, fun n _ => by simp [hasB], rfl⟩
    have ho : partO vl hs a = some ((a.2.flatMap (cellsL vl hs)).foldl (fun m n => m ||| 2 ^ n.toNat) 0) := by
      have hf : a.1.all (factT vl) = true := List.all_eq_true.2 h3
      rw [partO, h1, h2, hf]; exact hp
    rw [holds_some ho, beq_iff_eq, used_bits (partO_bits ho)]
    intro v hv
    rw [fold_bit (hs := hs) _ _ _ (fun n hn => isAddrB_iff.2 (al_addr ((h6 n).1 hn))) hv, show hasB 0 v = false by simp [hasB], Bool.false_or, Bool.eq_iff_iff, decide_eq_true_eq]
    exact h6 v
end Go.Proofs.Ytapoillhgimdiaa
