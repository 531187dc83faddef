/- The plain law: names do not matter for what holds. -/
import Derived.Test.YthoingdcmdhllaaHold7
import Derived.Test.YthoingdcmdhllaaPerms
namespace Go.Proofs.Ythoingdcmdhllaa
open Go.RowKit

theorem nm_zero (ns : List Int) : nm ns 0 = 0 := nm_not (by decide)
theorem nm_eq {ns : List Int} (hg : goodTo ns 8 = true) {u v : Int} (hu : u ≤ 8) (hv : v ≤ 8) : nm ns u = nm ns v ↔ u = v := ⟨nm_inj hg hu hv, fun e => by rw [e]⟩
theorem tvT_le {vl hl : List Int} (h : validB vl hl = true) {t : Int} (h0 : 0 ≤ t) (h8 : t ≤ 8) : 0 ≤ tv vl t ∧ tv vl t ≤ 8 := isTermB_iff.1 (tv_term h h0 h8)
theorem tvT_ren {ns vl hl : List Int} (h : validB vl hl = true) {t : Int} (h0 : 0 ≤ t) (h8 : t ≤ 8) : tv (renV ns vl) t = nm ns (tv vl t) := by
  have hl8 := (valid_len h).1
  unfold tv
  by_cases ht : t = 0
  · rw [if_pos ht, if_pos ht, nm_zero]
  · rw [if_neg ht, if_neg ht, gi_renV (by omega)]
theorem ct_le {vl hl : List Int} (h : validB vl hl = true) (v : Int) : ct hl v ≤ 8 := by
  unfold ct
  split
  · rename_i ha
    have := isAddrB_iff.1 ha
    exact (valid_hat h (by omega)).2
  · decide
theorem way_ren {ns vl hl : List Int} (h : validB vl hl = true) (hg : goodTo ns 8 = true) {t : Int} (ht : t ≤ 8) : ∀ (k : Nat) (a : Int), a ≤ 8 → wayN (renH ns hl) (nm ns t) k (nm ns a) = (wayN hl t k a).map (List.map (nm ns))
  | 0, a, ha => by
    unfold wayN
    by_cases e : a = t
    · rw [if_pos e, if_pos ((nm_eq hg ha ht).2 e)]; rfl
    · rw [if_neg e, if_neg (fun e' => e ((nm_eq hg ha ht).1 e'))]; rfl
  | k + 1, a, ha => by
    unfold wayN
    by_cases e : a = t
    · rw [if_pos e, if_pos ((nm_eq hg ha ht).2 e)]; rfl
    · rw [if_neg e, if_neg (fun e' => e ((nm_eq hg ha ht).1 e')), al_ren h hg, ct_ren (valid_len h).2 hg]
      split
      · rw [way_ren h hg ht k (ct hl a) (ct_le h a)]
        cases wayN hl t k (ct hl a) <;> rfl
      · rfl
theorem cells_ren {ns vl hl : List Int} (h : validB vl hl = true) (hg : goodTo ns 8 = true) {x : Atom} (hx : atomB x = true) :
    cellsB (renV ns vl) (renH ns hl) x = cellsB vl hl x ∧ cellsL (renV ns vl) (renH ns hl) x = (cellsL vl hl x).map (nm ns) := by
  obtain ⟨t1, t2, t3, t4⟩ := atomB_le hx
  have e1 := tvT_ren (ns := ns) h t1 t2
  have e2 := tvT_ren (ns := ns) h t3 t4
  have a1 := tvT_le h t1 t2
  have a2 := tvT_le h t3 t4
  unfold cellsB cellsL
  rw [e1, e2]
  by_cases hk : x.1 = 2
  · simp only [if_pos hk]
    unfold wayB wayL
    rw [way_ren h hg a2.2 8 _ a1.2]
    cases wayN hl (tv vl x.2.2) 8 (tv vl x.2.1) <;> simp
  · simp only [if_neg hk]
    rw [ct_ren (valid_len h).2 hg]
    have e3 : (nm ns (ct hl (tv vl x.2.1)) == nm ns (tv vl x.2.2)) = (ct hl (tv vl x.2.1) == tv vl x.2.2) := by
      rw [Bool.eq_iff_iff, beq_iff_eq, beq_iff_eq]; exact nm_eq hg (ct_le h _) a2.2
    rw [e3]
    refine ⟨rfl, ?_⟩
    split <;> rfl
/-- Two sets are alike under names. -/
def AlikeM (ns : List Int) (m m' : Nat) : Prop := ∀ v : Int, isAddrB v = true → hasB m' (nm ns v) = hasB m v
theorem hasB_or {m : Nat} {n v : Int} (hn : isAddrB n = true) (hv : isAddrB v = true) : hasB (m ||| 2 ^ n.toNat) v = (hasB m v || decide (n = v)) := by
  have h1 := isAddrB_iff.1 hn
  have h2 := isAddrB_iff.1 hv
  rw [hasB, hasB, hv, Bool.true_and, Bool.true_and, testBit_or_pow]
  congr 1
  rw [decide_eq_decide]; omega
theorem alike_or {ns : List Int} (hg : goodTo ns 8 = true) {m m' : Nat} (h : AlikeM ns m m') {n : Int} (hn : isAddrB n = true) : AlikeM ns (m ||| 2 ^ n.toNat) (m' ||| 2 ^ (nm ns n).toNat) := fun v hv => by
  rw [hasB_or (by rw [nm_isAddr hg]; exact hn) (by rw [nm_isAddr hg]; exact hv), hasB_or hn hv, h v hv]
  congr 1
  rw [decide_eq_decide]
  exact nm_eq hg (isAddrB_iff.1 hn).2 (isAddrB_iff.1 hv).2
/-- Two answers are alike. -/
def AlikeO (ns : List Int) : Option Nat → Option Nat → Prop
  | none, none => True
  | some m, some m' => AlikeM ns m m'
  | _, _ => False
theorem adds_ren {ns : List Int} (hg : goodTo ns 8 = true) : ∀ (l : List Int) (m m' : Nat), (∀ n ∈ l, isAddrB n = true) → AlikeM ns m m' → AlikeO ns (addsC m l) (addsC m' (l.map (nm ns)))
  | [], m, m', _, h => h
  | n :: l, m, m', hl, h => by
    have hn := hl n List.mem_cons_self
    rw [List.map_cons, addsC, addsC, h n hn]
    split
    · trivial
    · exact adds_ren hg l _ _ (fun x hx => hl x (List.mem_cons_of_mem _ hx)) (alike_or hg h hn)
theorem part_ren {ns vl hl : List Int} (h : validB vl hl = true) (hg : goodTo ns 8 = true) : ∀ (l : List Atom) (m m' : Nat), l.all atomB = true → AlikeM ns m m' → AlikeO ns (partP vl hl m l) (partP (renV ns vl) (renH ns hl) m' l)
  | [], m, m', _, hm => hm
  | x :: l, m, m', hx, hm => by
    rw [List.all_cons, Bool.and_eq_true] at hx
    obtain ⟨c1, c2⟩ := cells_ren h hg hx.1
    rw [partP, partP, c1, c2]
    cases hc : cellsB vl hl x with
    | false => trivial
    | true =>
      simp only [if_true]
      have ha := adds_ren hg (cellsL vl hl x) m m' (fun n hn => isAddrB_iff.2 (al_addr (cells_mem h hx.1 hc n hn))) hm
      cases h1 : addsC m (cellsL vl hl x) with
      | none =>
        cases h2 : addsC m' ((cellsL vl hl x).map (nm ns)) with
        | none => trivial
        | some r => rw [h1, h2] at ha; exact ha.elim
      | some r =>
        cases h2 : addsC m' ((cellsL vl hl x).map (nm ns)) with
        | none => rw [h1, h2] at ha; exact ha.elim
        | some r' =>
          rw [h1, h2] at ha
          exact part_ren h hg l r r' hx.2 ha
theorem used_has {hs : List Int} {m : Nat} (h : ∀ j, m.testBit j = true → alB hs (j : Int) = true) : m = usedN hs 8 ↔ ∀ v, isAddrB v = true → hasB m v = alB hs v := by
  constructor
  · rintro rfl v hv
    have := isAddrB_iff.1 hv
    rw [hasB, hv, Bool.true_and, usedN_bit, decide_eq_true (by omega), Bool.true_and, show ((v.toNat : Nat) : Int) = v by omega]
  · intro hv
    refine Nat.eq_of_testBit_eq fun j => ?_
    rw [usedN_bit]
    by_cases hj : 1 ≤ j ∧ j ≤ 8
    · have ha : isAddrB (j : Int) = true := isAddrB_iff.2 (by omega)
      have := hv (j : Int) ha
      rw [hasB, ha, Bool.true_and, Int.toNat_natCast] at this
      rw [this, decide_eq_true hj, Bool.true_and]
    · rw [decide_eq_false hj, Bool.false_and]
      cases hb : m.testBit j with
      | false => rfl
      | true => exact absurd (al_addr (h j hb)) (by omega)
theorem fact_ren {ns vl hl : List Int} (h : validB vl hl = true) (hg : goodTo ns 8 = true) {f : Fact} (hf : factB f = true) : factT (renV ns vl) f = factT vl f := by
  obtain ⟨t1, t2, t3, t4⟩ := factB_le hf
  rw [factT, factT, tvT_ren h t1 t2, tvT_ren h t3 t4]
  congr 1
  rw [Bool.eq_iff_iff, beq_iff_eq, beq_iff_eq]
  exact nm_eq hg (tvT_le h t1 t2).2 (tvT_le h t3 t4).2
/-- Names do not matter for what holds. -/
theorem holds_ren {ns vl hl : List Int} (h : validB vl hl = true) (hg : goodTo ns 8 = true) (a : Asn) : holdsB (renV ns vl) (renH ns hl) a = holdsB vl hl a := by
  have hv' := ren_valid hg h
  cases ha : asnB a with
  | false =>
    rw [holds_none (show partO (renV ns vl) (renH ns hl) a = none by simp [partO, ha]), holds_none (show partO vl hl a = none by simp [partO, ha])]
  | true =>
    have hall : a.1.all (factT (renV ns vl)) = a.1.all (factT vl) := by
      rw [Bool.eq_iff_iff, List.all_eq_true, List.all_eq_true]
      have hfs := factsB_all (asn_facts ha)
      rw [List.all_eq_true] at hfs
      constructor
      · intro hx f hf; rw [← fact_ren h hg (hfs f hf)]; exact hx f hf
      · intro hx f hf; rw [fact_ren h hg (hfs f hf)]; exact hx f hf
    have hat : a.2.all atomB = true := by simp only [asnB, Bool.and_eq_true] at ha; exact ha.2.2
    cases hf : a.1.all (factT vl) with
    | false =>
      rw [holds_none (show partO (renV ns vl) (renH ns hl) a = none by simp [partO, hall, hf]), holds_none (show partO vl hl a = none by simp [partO, hf])]
    | true =>
      have e1 : partO vl hl a = partP vl hl 0 a.2 := by simp [partO, h, ha, hf]
      have e2 : partO (renV ns vl) (renH ns hl) a = partP (renV ns vl) (renH ns hl) 0 a.2 := by simp [partO, hv', ha, hall, hf]
      have hp := part_ren h hg a.2 0 0 hat (fun v _ => by simp [hasB])
      rw [← e1, ← e2] at hp
      cases h1 : partO vl hl a with
      | none =>
        cases h2 : partO (renV ns vl) (renH ns hl) a with
        | none => rw [holds_none h1, holds_none h2]
        | some r => rw [h1, h2] at hp; exact hp.elim
      | some r =>
        cases h2 : partO (renV ns vl) (renH ns hl) a with
        | none => rw [h1, h2] at hp; exact hp.elim
        | some r' =>
          rw [h1, h2] at hp
          rw [holds_some h1, holds_some h2, Bool.eq_iff_iff, beq_iff_eq, beq_iff_eq, used_has (partO_bits h1), used_has (partO_bits h2)]
          constructor
          · intro hx v hv
            have := hx (nm ns v) (by rw [nm_isAddr hg]; exact hv)
            rw [hp v hv, al_ren h hg] at this
            exact this
          · intro hx v hv
            have hb := isAddrB_iff.1 hv
            obtain ⟨j, hj, hje⟩ := good_surj hg (p := v.toNat) (by omega) (by omega)
            have hja : isAddrB ((j : Int) + 1) = true := isAddrB_iff.2 (by omega)
            have hnm : nm ns ((j : Int) + 1) = v := by
              rw [nm, if_pos hja, show ((j : Int) + 1 - 1).toNat = j by omega, hje]; omega
            rw [← hnm, hp _ hja, al_ren h hg]
            exact hx _ hja
end Go.Proofs.Ythoingdcmdhllaa
