/- The plain law of products: a state of a product splits in two. -/
import Derived.Test.YtapoillhgimdiaaTPart
import Derived.Test.YtapoillhgimdiaaTCs7
import Derived.Test.YtapoillhgimdiaaTFam3
set_option linter.unusedVariables false
namespace Go.Proofs.Ytapoillhgimdiaa
open Go.RowKit

theorem wTo_gi {hs : List Int} {M : Nat} (hl : hs.length = 8) : ∀ (k : Nat), k ≤ 8 → ∀ i, gi (wTo hs M k) i = if i < k ∧ hasB M ((i : Int) + 1) = false then -1 else gi hs i
  | 0, _, i => by rw [if_neg (by omega)]; rfl
  | k + 1, hk, i => by
    have ih := wTo_gi (hs := hs) (M := M) hl k (by omega) i
    rw [wTo]
    by_cases hb : hasB M ((k : Int) + 1) = true
    · rw [if_pos hb, ih]
      by_cases e : i = k
      · subst e
        rw [if_neg (by omega), if_neg (by rw [hb]; simp)]
      · by_cases h : hasB M ((i : Int) + 1) = false
        · by_cases hik : i < k
          · rw [if_pos ⟨hik, h⟩, if_pos ⟨by omega, h⟩]
          · rw [if_neg (fun x => hik x.1), if_neg (fun x => by omega)]
        · rw [if_neg (fun x => h x.2), if_neg (fun x => h x.2)]
    · have hb2 : hasB M ((k : Int) + 1) = false := by simpa using hb
      rw [if_neg hb]
      have hlen : k < (wTo hs M k).length := by rw [wTo_len, hl]; omega
      have hset : gi ((wTo hs M k).set k (-1)) i = if k = i then -1 else gi (wTo hs M k) i := by
        unfold gi
        rw [List.getD_eq_getElem?_getD, List.getD_eq_getElem?_getD, List.getElem?_set]
        by_cases e : k = i
        · subst e; rw [if_pos rfl, if_pos hlen, if_pos rfl]; rfl
        · rw [if_neg e, if_neg e]
      rw [hset, ih]
      by_cases e : k = i
      · subst e
        rw [if_pos rfl, if_pos ⟨by omega, hb2⟩]
      · rw [if_neg e]
        by_cases h : hasB M ((i : Int) + 1) = false
        · by_cases hik : i < k
          · rw [if_pos ⟨hik, h⟩, if_pos ⟨by omega, h⟩]
          · rw [if_neg (fun x => hik x.1), if_neg (fun x => by omega)]
        · rw [if_neg (fun x => h x.2), if_neg (fun x => h x.2)]
theorem flatMap_cong {α β : Type} {f g : α → List β} : ∀ {l : List α}, (∀ x ∈ l, f x = g x) → l.flatMap f = l.flatMap g
  | [], _ => rfl
  | x :: l, h => by rw [List.flatMap_cons, List.flatMap_cons, h x List.mem_cons_self, flatMap_cong fun y hy => h y (List.mem_cons_of_mem _ hy)]
theorem hasB_not {m : Nat} {v : Int} (hv : isAddrB v = true) : hasB (65535 ^^^ m) v = !hasB m v := by
  have h := isAddrB_iff.1 hv
  have e : (65535 : Nat).testBit v.toNat = true := by
    obtain ⟨n, rfl⟩ := Int.eq_ofNat_of_zero_le (show 0 ≤ v by omega)
    have hn : n = 1 ∨ n = 2 ∨ n = 3 ∨ n = 4 ∨ n = 5 ∨ n = 6 ∨ n = 7 ∨ n = 8 := by omega
    rcases hn with rfl | rfl | rfl | rfl | rfl | rfl | rfl | rfl <;> decide
  rw [hasB, hasB, hv, Bool.true_and, Bool.true_and, Nat.testBit_xor, e, Bool.true_xor]
section
variable {vl hs : List Int} {m : Nat}
theorem drop_ct (hl : hs.length = 8) {v : Int} (h : hasB m v = false) : ct (wTo hs (65535 ^^^ m) 8) v = ct hs v := by
  cases ha : isAddrB v with
  | false => rw [ct, ct, ha]; rfl
  | true =>
    have hv := isAddrB_iff.1 ha
    rw [ct, ct, ha, if_pos rfl, if_pos rfl, wTo_gi hl 8 (Nat.le_refl _), if_neg]
    rintro ⟨h1, h2⟩
    rw [show (((v - 1).toNat : Nat) : Int) + 1 = v by omega, hasB_not ha, h] at h2
    cases h2
theorem drop_ct_in (hl : hs.length = 8) {v : Int} (ha : isAddrB v = true) (h : hasB m v = true) : ct (wTo hs (65535 ^^^ m) 8) v = -1 := by
  have hv := isAddrB_iff.1 ha
  rw [ct, ha, if_pos rfl, wTo_gi hl 8 (Nat.le_refl _), if_pos]
  refine ⟨by omega, ?_⟩
  rw [show (((v - 1).toNat : Nat) : Int) + 1 = v by omega, hasB_not ha, h]; rfl
theorem drop_al (hl : hs.length = 8) {v : Int} : alB (wTo hs (65535 ^^^ m) 8) v = true ↔ alB hs v = true ∧ hasB m v = false := by
  cases h : hasB m v with
  | false => rw [alB, alB, drop_ct hl h]; simp
  | true =>
    have ha : isAddrB v = true := by rw [hasB, Bool.and_eq_true] at h; exact h.1
    rw [alB, drop_ct_in hl ha h]; simp
theorem drop_way (hl : hs.length = 8) {t : Int} : ∀ (l : List Int) (a : Int), Way hs t a l → (∀ x ∈ l, hasB m x = false) → Way (wTo hs (65535 ^^^ m) 8) t a l
  | [], a, h, _ => h
  | x :: r, a, h, hn => by
    obtain ⟨h1, h2, h3, h4⟩ := h
    have hx := hn x List.mem_cons_self
    rw [h1] at hx
    refine ⟨h1, h2, (drop_al hl).2 ⟨h3, hx⟩, ?_⟩
    rw [drop_ct hl hx]
    exact drop_way hl r _ h4 fun y hy => hn y (List.mem_cons_of_mem _ hy)
theorem drop_cellV (hl : hs.length = 8) {y : Atom} {l : List Int} (h : cellV hs y = some l) (hn : ∀ x ∈ l, hasB m x = false) : cellV (wTo hs (65535 ^^^ m) 8) y = some l := by
  rw [cellV] at h ⊢
  by_cases hk : y.1 = 2
  · rw [if_pos hk] at h ⊢
    obtain ⟨h1, h2⟩ := (way_iff _ _ _).1 h
    exact (way_iff _ _ _).2 ⟨drop_way hl _ _ h1 hn, h2⟩
  · rw [if_neg hk] at h ⊢
    split at h
    · rename_i hc
      cases h
      rw [drop_ct hl (hn _ List.mem_cons_self), if_pos hc]
    · cases h
theorem drop_cells (hl : hs.length = 8) {x : Atom} (h : cellsB vl hs x = true) (hn : ∀ n ∈ cellsL vl hs x, hasB m n = false) : cellsB vl (wTo hs (65535 ^^^ m) 8) x = true ∧ cellsL vl (wTo hs (65535 ^^^ m) 8) x = cellsL vl hs x := by
  rw [(cells_V x).1, Option.isSome_iff_exists] at h
  obtain ⟨l, hv⟩ := h
  rw [(cells_V x).2, hv] at hn
  have h2 := drop_cellV (m := m) hl hv hn
  rw [(cells_V x).1, (cells_V x).2, (cells_V x).2, h2, hv]
  exact ⟨rfl, rfl⟩
theorem fold_test : ∀ (l : List Int) (m j : Nat), (l.foldl (fun m n => m ||| 2 ^ n.toNat) m).testBit j = (m.testBit j || l.any fun n => decide (n.toNat = j))
  | [], m, j => by simp
  | n :: l, m, j => by rw [List.foldl_cons, fold_test l, testBit_or_pow, List.any_cons, Bool.or_assoc]
theorem chosC_fold : ∀ (l : List Int) (m : Nat), (∀ n ∈ l, alB hs n = true) → l.Nodup → (∀ n ∈ l, hasB m n = false) → chosC hs m l = some (l.foldl (fun m n => m ||| 2 ^ n.toNat) m)
  | [], m, _, _, _ => rfl
  | n :: l, m, h, hn, hm => by
    rw [List.nodup_cons] at hn
    have ha := h n List.mem_cons_self
    rw [chosC, if_pos ⟨ha, hm n List.mem_cons_self⟩, List.foldl_cons]
    refine chosC_fold l _ (fun x hx => h x (List.mem_cons_of_mem _ hx)) hn.2 fun x hx => ?_
    have hax := isAddrB_iff.2 (al_addr (h x (List.mem_cons_of_mem _ hx)))
    have h1 := isAddrB_iff.1 hax
    have h2 := al_addr ha
    have hmx := hm x (List.mem_cons_of_mem _ hx)
    rw [hasB, hax, Bool.true_and] at hmx ⊢
    rw [testBit_or_pow, hmx, Bool.false_or, decide_eq_false_iff_not]
    intro e
    have : n = x := by omega
    subst this
    exact hn.1 hx
theorem chos_mask {a : Asn} (h : partO vl hs a = some m) : chosO vl hs (maskL m) = some m := by
  have hv := (partO_some h).1
  have hb := partO_bits h
  have hmem : ∀ n : Int, n ∈ maskL m ↔ ∃ k : Nat, 1 ≤ k ∧ k ≤ 8 ∧ m.testBit k = true ∧ n = (k : Int) := fun n => by
    rw [maskL, sel, List.mem_map]
    constructor
    · rintro ⟨k, hk, rfl⟩
      rw [List.mem_filter, List.mem_range'_1] at hk
      exact ⟨k, hk.1.1, by omega, hk.2, rfl⟩
    · rintro ⟨k, h1, h2, h3, rfl⟩
      exact ⟨k, List.mem_filter.2 ⟨List.mem_range'_1.2 ⟨h1, by omega⟩, h3⟩, rfl⟩
  rw [chosO, if_pos hv, chosC_fold (maskL m) 0 (fun n hn => ?_) ?_ (fun n _ => by simp [hasB])]
  · congr 1
    refine Nat.eq_of_testBit_eq fun j => ?_
    rw [fold_test, Nat.zero_testBit, Bool.false_or, Bool.eq_iff_iff, List.any_eq_true]
    constructor
    · rintro ⟨n, hn, e⟩
      obtain ⟨k, h1, h2, h3, rfl⟩ := (hmem n).1 hn
      rw [decide_eq_true_eq] at e
      have : k = j := by omega
      rw [← this]; exact h3
    · intro hj
      have := al_addr (hb j hj)
      exact ⟨(j : Int), (hmem _).2 ⟨j, by omega, by omega, hj, rfl⟩, by simp⟩
  · exact sel_nodup _ _ _
  · obtain ⟨k, _, _, h3, rfl⟩ := (hmem n).1 hn
    exact hb k h3
/-- A state of a product: the first holds in a part, the second in the rest. -/
theorem star_split {a b : Asn} (ha : asnB a = true) (hb : asnB b = true) (h : holdsB vl hs (starA a b) = true) :
    ∃ m, partO vl hs a = some m ∧ chosO vl hs (maskL m) = some m ∧ holdsB vl (wTo hs (65535 ^^^ m) 8) b = true := by
  have hp := holds_iff.1 h
  have hl := (valid_len hp.valid).2
  have hat := (asn_parts ha).2
  have hbt := (asn_parts hb).2
  obtain ⟨C, hC⟩ : ∃ C, C = a.2.flatMap (cellsL vl hs) := ⟨_, rfl⟩
  obtain ⟨D, hD⟩ : ∃ D, D = b.2.flatMap (cellsL vl hs) := ⟨_, rfl⟩
  have hfl : (starA a b).2.flatMap (cellsL vl hs) = C ++ D := by rw [hC, hD]; exact List.flatMap_append
  have hnd := hp.nd
  have hmm := hp.mem
  rw [hfl] at hnd hmm
  obtain ⟨n1, n2, n3⟩ := List.nodup_append.1 hnd
  have hCa : ∀ n ∈ C, isAddrB n = true := fun n hn => isAddrB_iff.2 (al_addr ((hmm n).1 (List.mem_append_left _ hn)))
  obtain ⟨m, hm⟩ : ∃ m, m = C.foldl (fun m n => m ||| 2 ^ n.toNat) 0 := ⟨_, rfl⟩
  have hmb : ∀ v, isAddrB v = true → hasB m v = decide (v ∈ C) := fun v hv => by
    rw [hm, fold_bit (hs := hs) C 0 v hCa hv, show hasB 0 v = false by simp [hasB], Bool.false_or]
  have hpo : partO vl hs a = some m := by
    have hf : a.1.all (factT vl) = true := List.all_eq_true.2 fun x hx => hp.facts x (List.mem_append_left _ hx)
    rw [partO, hp.valid, ha, hf]
    refine (partP_iff hp.valid _ _ _ hat).2 ⟨fun x hx => hp.cells x (List.mem_append_left _ hx), by rw [← hC]; exact n1, fun n _ => by simp [hasB], by rw [← hC]; exact hm⟩
  refine ⟨m, hpo, chos_mask hpo, ?_⟩
  have hDn : ∀ n ∈ D, hasB m n = false := fun n hn => by
    rw [hmb n (isAddrB_iff.2 (al_addr ((hmm n).1 (List.mem_append_right _ hn)))), decide_eq_false_iff_not]
    exact fun hc => n3 n hc n hn rfl
  have hcb : ∀ x ∈ b.2, cellsB vl (wTo hs (65535 ^^^ m) 8) x = true ∧ cellsL vl (wTo hs (65535 ^^^ m) 8) x = cellsL vl hs x := fun x hx =>
    drop_cells hl (hp.cells x (List.mem_append_right _ hx)) fun n hn => hDn n (by rw [hD]; exact List.mem_flatMap.2 ⟨x, hx, hn⟩)
  have hD2 : b.2.flatMap (cellsL vl (wTo hs (65535 ^^^ m) 8)) = D := by
    rw [hD]
    exact flatMap_cong fun x hx => (hcb x hx).2
  rw [holds_iff]
  refine ⟨?_, hb, fun x hx => hp.facts x (List.mem_append_right _ hx), fun x hx => (hcb x hx).1, by rw [hD2]; exact n2, fun v => ?_⟩
  · have hv := hp.valid
    rw [validB] at hv ⊢
    simp only [Bool.and_eq_true, beq_iff_eq, List.all_eq_true] at hv ⊢
    refine ⟨hv.1, by rw [wTo_len]; exact hv.2.1, hv.2.2.1, fun v hvm => ?_⟩
    obtain ⟨i, hi, rfl⟩ := List.mem_iff_getElem.1 hvm
    have hi8 : i < 8 := by rw [wTo_len, hl] at hi; exact hi
    have e := wTo_gi (M := 65535 ^^^ m) hl 8 (Nat.le_refl _) i
    rw [gi_of hi] at e
    rw [e]
    split
    · decide
    · rw [gi_of (show i < hs.length by omega)]
      exact hv.2.2.2 _ (List.getElem_mem _)
  · rw [hD2, drop_al hl]
    constructor
    · intro hvd
      exact ⟨(hmm v).1 (List.mem_append_right _ hvd), hDn v hvd⟩
    · rintro ⟨h1, h2⟩
      rcases List.mem_append.1 ((hmm v).2 h1) with hc | hd
      · rw [hmb v (hCa v hc), decide_eq_false_iff_not] at h2
        exact absurd hc h2
      · exact hd
end
end Go.Proofs.Ytapoillhgimdiaa
