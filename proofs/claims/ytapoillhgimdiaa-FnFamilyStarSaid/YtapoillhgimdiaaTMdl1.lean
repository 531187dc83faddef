/- The plain law of models: the state that a case gives satisfies the assertion. -/
import Derived.Test.YtapoillhgimdiaaTCs7
namespace Go.Proofs.Ytapoillhgimdiaa
open Go.RowKit

/-- The values that a case gives, and the next new one. -/
def mvTo (cl : List Int) : Nat → List Int × Int
  | 0 => (List.replicate 8 0, 1)
  | k + 1 => if gi cl (k + 1) = (k : Int) + 1 then ((mvTo cl k).1.set k (mvTo cl k).2, (mvTo cl k).2 + 1)
    else if 0 < gi cl (k + 1) then ((mvTo cl k).1.set k (gi (mvTo cl k).1 (gi cl (k + 1) - 1).toNat), (mvTo cl k).2) else mvTo cl k
def modV (cl : List Int) : List Int := (mvTo cl 8).1
/-- The heap of filled atoms. -/
def modH (vl : List Int) (l : List Atom) : List Int := l.foldl (fun hs y => hs.set (tv vl y.2.1 - 1).toNat (tv vl y.2.2)) (List.replicate 8 (-1))
theorem gi_setM {l : List Int} {i j : Nat} {x : Int} (h : i < l.length) : gi (l.set i x) j = if i = j then x else gi l j := by
  unfold gi
  rw [List.getD_eq_getElem?_getD, List.getD_eq_getElem?_getD, List.getElem?_set]
  by_cases e : i = j
  · subst e; rw [if_pos rfl, if_pos h, if_pos rfl]; rfl
  · rw [if_neg e, if_neg e]
structure MvP (cl : List Int) (k : Nat) (s : List Int × Int) : Prop where
  len : s.1.length = 8
  lo : 1 ≤ s.2
  hi : s.2 ≤ (k : Int) + 1
  rng : ∀ i, 0 ≤ gi s.1 i ∧ gi s.1 i < s.2
  pos : ∀ i, i < k → gi cl (i + 1) = (i : Int) + 1 → 1 ≤ gi s.1 i
  inj : ∀ i j, i < k → j < k → gi cl (i + 1) = (i : Int) + 1 → gi cl (j + 1) = (j : Int) + 1 → gi s.1 i = gi s.1 j → i = j
  cls : ∀ i, i < k → 0 < gi cl (i + 1) → gi cl (i + 1) ≤ (i : Int) + 1 → gi s.1 i = gi s.1 (gi cl (i + 1) - 1).toNat
  nul : ∀ i, i < k → gi cl (i + 1) ≤ 0 → gi s.1 i = 0
  oth : ∀ i, k ≤ i → gi s.1 i = 0
theorem gi_zero8 (i : Nat) : gi (List.replicate 8 0) i = 0 := by
  unfold gi
  rw [List.getD_eq_getElem?_getD, List.getElem?_replicate]
  split <;> rfl
theorem mvp : ∀ (cl : List Int) (k : Nat), k ≤ 8 → MvP cl k (mvTo cl k)
  | cl, 0, _ => by
    refine ⟨by simp [mvTo], by simp [mvTo], by simp [mvTo], fun i => ?_, fun i h => by omega, fun i j h => by omega, fun i h => by omega, fun i h => by omega, fun i _ => gi_zero8 i⟩
    show 0 ≤ gi (List.replicate 8 0) i ∧ gi (List.replicate 8 0) i < 1
    rw [gi_zero8]; omega
  | cl, k + 1, hk => by
    have h := mvp cl k (by omega)
    obtain ⟨s, hs⟩ : ∃ s, mvTo cl k = s := ⟨_, rfl⟩
    have hk8 : k < s.1.length := by rw [hs] at h; rw [h.len]; omega
    rw [mvTo, hs]
    rw [hs] at h
    by_cases h1 : gi cl (k + 1) = (k : Int) + 1
    · rw [if_pos h1]
      have hg : ∀ j, gi (s.1.set k s.2) j = if k = j then s.2 else gi s.1 j := fun j => gi_setM hk8
      refine ⟨by simp [h.len], by have := h.lo; simp only; omega, by have := h.hi; simp only; omega, fun i => ?_, fun i hi hc => ?_, fun i j hi hj ci cj e => ?_, fun i hi c0 c1 => ?_, fun i hi c0 => ?_, fun i hi => ?_⟩
      · simp only; rw [hg]; have := h.rng i; have := h.lo; split <;> omega
      · simp only; rw [hg]; have := h.lo
        split
        · exact this
        · exact h.pos i (by omega) hc
      · simp only at e; rw [hg, hg] at e
        have ri := h.rng i
        have rj := h.rng j
        by_cases e1 : k = i
        · by_cases e2 : k = j
          · omega
          · rw [if_pos e1, if_neg e2] at e; omega
        · by_cases e2 : k = j
          · rw [if_neg e1, if_pos e2] at e; omega
          · rw [if_neg e1, if_neg e2] at e
            exact h.inj i j (by omega) (by omega) ci cj e
      · simp only; rw [hg, hg]
        by_cases e1 : k = i
        · rw [if_pos e1, if_pos (by subst e1; omega)]
        · rw [if_neg e1, if_neg (by omega)]
          exact h.cls i (by omega) c0 c1
      · simp only; rw [hg]
        have : ¬ k = i := fun e => by subst e; omega
        rw [if_neg this]
        exact h.nul i (by omega) c0
      · simp only; rw [hg, if_neg (by omega)]; exact h.oth i (by omega)
    · rw [if_neg h1]
      by_cases h2 : 0 < gi cl (k + 1)
      · rw [if_pos h2]
        have hg : ∀ j, gi (s.1.set k (gi s.1 (gi cl (k + 1) - 1).toNat)) j = if k = j then gi s.1 (gi cl (k + 1) - 1).toNat else gi s.1 j := fun j => gi_setM hk8
        refine ⟨by simp [h.len], h.lo, by have := h.hi; simp only; omega, fun i => ?_, fun i hi hc => ?_, fun i j hi hj ci cj e => ?_, fun i hi c0 c1 => ?_, fun i hi c0 => ?_, fun i hi => ?_⟩
        · simp only; rw [hg]; split
          · exact h.rng _
          · exact h.rng _
        · simp only; rw [hg]
          have : ¬ k = i := fun e => by subst e; exact h1 hc
          rw [if_neg this]
          exact h.pos i (by omega) hc
        · have n1 : ¬ k = i := fun e => by subst e; exact h1 ci
          have n2 : ¬ k = j := fun e => by subst e; exact h1 cj
          simp only at e
          rw [hg, hg, if_neg n1, if_neg n2] at e
          exact h.inj i j (by omega) (by omega) ci cj e
        · simp only; rw [hg, hg]
          by_cases e1 : k = i
          · subst e1
            rw [if_pos rfl, if_neg (by omega)]
          · rw [if_neg e1, if_neg (by omega)]
            exact h.cls i (by omega) c0 c1
        · simp only; rw [hg]
          have : ¬ k = i := fun e => by subst e; omega
          rw [if_neg this]
          exact h.nul i (by omega) c0
        · simp only; rw [hg, if_neg (by omega)]; exact h.oth i (by omega)
      · rw [if_neg h2]
        refine ⟨h.len, h.lo, by have := h.hi; omega, h.rng, fun i hi hc => ?_, fun i j hi hj ci cj e => ?_, fun i hi c0 c1 => ?_, fun i hi c0 => ?_, fun i hi => h.oth i (by omega)⟩
        · have : ¬ i = k := fun e => by subst e; exact h1 hc
          exact h.pos i (by omega) hc
        · have n1 : ¬ i = k := fun e => by subst e; exact h1 ci
          have n2 : ¬ j = k := fun e => by subst e; exact h1 cj
          exact h.inj i j (by omega) (by omega) ci cj e
        · have : ¬ i = k := fun e => by subst e; exact h2 c0
          exact h.cls i (by omega) c0 c1
        · by_cases e : i = k
          · subst e; exact h.oth i (Nat.le_refl _)
          · exact h.nul i (by omega) c0
theorem step_rep {M : Nat} {cl : List Int} {t : Nat} (h : shapeC M cl = true) (ht : t ≤ 8) (hb : M.testBit t = true) : gi cl (gi cl t).toNat = gi cl t := by
  simp only [shapeC, Bool.and_eq_true, List.all_eq_true] at h
  have := h.2 t (List.mem_range.2 (by omega))
  rw [stepC, if_pos hb] at this
  simp only [Bool.and_eq_true, decide_eq_true_eq, beq_iff_eq] at this
  exact this.2.2
theorem tv_nat (vl : List Int) (i : Nat) : tv vl ((i : Int) + 1) = gi vl i := by
  rw [tv, if_neg (by omega), show ((i : Int) + 1 - 1).toNat = i by omega]
theorem tvm_cls {M : Nat} {cl : List Int} {t : Int} (h : shapeC M cl = true) (ht : hasT M t = true) : tv (modV cl) t = tv (modV cl) (valC cl t) := by
  obtain ⟨t0, t8, hb⟩ := hasT_iff.1 ht
  have hs := step_bit h (t := t.toNat) (by omega) hb
  have hm := mvp cl 8 (Nat.le_refl _)
  show tv (modV cl) t = tv (modV cl) (gi cl t.toNat)
  by_cases e : t = 0
  · subst e
    have : gi cl (0 : Int).toNat = 0 := by simp at hs ⊢; omega
    rw [this]
  · obtain ⟨i, rfl⟩ : ∃ i : Nat, t = (i : Int) + 1 := ⟨(t - 1).toNat, by omega⟩
    have hti : ((i : Int) + 1).toNat = i + 1 := by omega
    rw [hti] at hs ⊢
    rw [tv_nat]
    by_cases c0 : gi cl (i + 1) = 0
    · rw [c0, show tv (modV cl) 0 = 0 from by rw [tv, if_pos rfl]]
      exact hm.nul i (by omega) (by omega)
    · rw [tv, if_neg c0]
      exact hm.cls i (by omega) (by omega) (by omega)
theorem tvm_rep {M : Nat} {cl : List Int} {t u : Int} (h : shapeC M cl = true) (ht : hasT M t = true) (hu : hasT M u = true) (e : tv (modV cl) (valC cl t) = tv (modV cl) (valC cl u)) : valC cl t = valC cl u := by
  have key : ∀ {t : Int}, hasT M t = true → (valC cl t = 0) ∨ ∃ i : Nat, i < 8 ∧ valC cl t = (i : Int) + 1 ∧ gi cl (i + 1) = (i : Int) + 1 := fun {t} ht => by
    obtain ⟨t0, t8, hb⟩ := hasT_iff.1 ht
    have hs := step_bit h (t := t.toNat) (by omega) hb
    have hr := step_rep h (t := t.toNat) (by omega) hb
    by_cases c0 : gi cl t.toNat = 0
    · exact .inl c0
    · right
      obtain ⟨i, hi⟩ : ∃ i : Nat, gi cl t.toNat = (i : Int) + 1 := ⟨(gi cl t.toNat - 1).toNat, by omega⟩
      refine ⟨i, by omega, hi, ?_⟩
      rw [hi, show ((i : Int) + 1).toNat = i + 1 by omega] at hr
      exact hr
  have hm := mvp cl 8 (Nat.le_refl _)
  have tz : tv (modV cl) 0 = 0 := by rw [tv, if_pos rfl]
  rcases key ht with h1 | ⟨i, i8, hi, ri⟩
  · rcases key hu with h2 | ⟨j, j8, hj, rj⟩
    · rw [h1, h2]
    · rw [h1, hj, tz, tv_nat] at e
      have := hm.pos j j8 rj
      rw [show gi (mvTo cl 8).1 j = 0 from e.symm] at this; omega
  · rcases key hu with h2 | ⟨j, j8, hj, rj⟩
    · rw [h2, hi, tz, tv_nat] at e
      have := hm.pos i i8 ri
      rw [show gi (mvTo cl 8).1 i = 0 from e] at this; omega
    · rw [hi, hj, tv_nat, tv_nat] at e
      rw [hi, hj, hm.inj i j i8 j8 ri rj e]
/-- The values of a model tell the same terms apart as the case. -/
theorem mod_pat {M : Nat} {cl : List Int} (h : shapeC M cl = true) : Pat M (tv (modV cl)) (valC cl) := fun t u ht hu => by
  constructor
  · intro e
    rw [tvm_cls h ht, tvm_cls h hu] at e
    exact tvm_rep h ht hu e
  · intro e
    rw [tvm_cls h ht, tvm_cls h hu, e]
section
variable {key : Atom → Nat} {val : Atom → Int}
theorem mh_out : ∀ (l : List Atom) (h0 : List Int) {i : Nat}, (∀ y ∈ l, ¬ key y = i) → gi (l.foldl (fun hs y => hs.set (key y) (val y)) h0) i = gi h0 i
  | [], _, _, _ => rfl
  | y :: l, h0, i, h => by
    rw [List.foldl_cons, mh_out l _ fun z hz => h z (List.mem_cons_of_mem _ hz)]
    have hy := h y List.mem_cons_self
    unfold gi
    rw [List.getD_eq_getElem?_getD, List.getD_eq_getElem?_getD, List.getElem?_set_ne hy]
theorem mh_len : ∀ (l : List Atom) (h0 : List Int), (l.foldl (fun hs y => hs.set (key y) (val y)) h0).length = h0.length
  | [], _ => rfl
  | y :: l, h0 => by rw [List.foldl_cons, mh_len l, List.length_set]
theorem mh_in : ∀ (l : List Atom) (h0 : List Int) {y : Atom}, l.Pairwise (fun y z => key y ≠ key z) → y ∈ l → key y < h0.length → gi (l.foldl (fun hs y => hs.set (key y) (val y)) h0) (key y) = val y
  | [], _, _, _, h, _ => absurd h (List.not_mem_nil)
  | z :: l, h0, y, hp, hy, hk => by
    rw [List.pairwise_cons] at hp
    rw [List.foldl_cons]
    rcases List.mem_cons.1 hy with rfl | hy
    · rw [mh_out l _ fun z hz => (hp.1 z hz).symm, gi_setM hk, if_pos rfl]
    · exact mh_in l _ hp.2 hy (by rw [List.length_set]; exact hk)
end
/-- The state of a case. -/
theorem model_holds {M : Nat} {a : Asn} {cl : List Int} (ha : asnB a = true) (hc : Covers M a) (h0 : M.testBit 0 = true) (hs : shapeC M cl = true) (hp : possC cl 8 a = true) :
    holdsB (modV cl) (modH (modV cl) (filledL cl a.2)) a = true := by
  have hm := mvp cl 8 (Nat.le_refl _)
  have hpat := mod_pat (M := M) hs
  have hposs := (poss_val ha hs hc.2).1 hp
  have hz : valC cl 0 = 0 := shape_zero hs h0
  have hposs2 := hposs.pat hpat.symm (zero_has h0) hz (tv_zero _) hc.1 hc.2
  obtain ⟨vl, hvl⟩ : ∃ vl, modV cl = vl := ⟨_, rfl⟩
  rw [hvl] at hpat hposs2 ⊢
  have hlen : vl.length = 8 := by rw [← hvl]; exact hm.len
  have hrng : ∀ i, 0 ≤ gi vl i ∧ gi vl i ≤ 8 := fun i => by
    have := hm.rng i
    have := hm.hi
    rw [← hvl]
    show 0 ≤ gi (mvTo cl 8).1 i ∧ gi (mvTo cl 8).1 i ≤ 8
    omega
  have htv : ∀ t, 0 ≤ tv vl t ∧ tv vl t ≤ 8 := fun t => by
    rw [tv]; split
    · omega
    · exact hrng _
  -- the filled atoms by value
  have hfill : (filledL cl a.2).map (valA (tv vl)) = fillV (tv vl) a.2 := by
    rw [fill_val, fillV, fillV, List.map_map]
    have e : (a.2.filter fun x => (x.1 == 1) || (valC cl x.2.1 != valC cl x.2.2)) = a.2.filter fun x => (x.1 == 1) || (tv vl x.2.1 != tv vl x.2.2) := by
      refine List.filter_congr fun x hx => ?_
      congr 1
      rw [Bool.eq_iff_iff, bne_iff_ne, bne_iff_ne]
      exact (not_congr (hpat _ _ (hc.2 x hx).1 (hc.2 x hx).2)).symm
    rw [e]
    refine List.map_congr_left fun x hx => ?_
    have hx2 := hc.2 x (List.mem_filter.1 hx).1
    have e1 := tvm_cls hs hx2.1
    have e2 := tvm_cls hs hx2.2
    rw [hvl] at e1 e2
    show (x.1, tv vl (valC cl x.2.1), tv vl (valC cl x.2.2)) = _
    rw [← e1, ← e2]
  obtain ⟨L, hL⟩ : ∃ L, fillV (tv vl) a.2 = L := ⟨_, rfl⟩
  rw [hL] at hfill
  have hap := hposs2.apart
  rw [hL] at hap
  have hLv : ∀ y ∈ L, (1 ≤ y.2.1 ∧ y.2.1 ≤ 8) ∧ (0 ≤ y.2.2 ∧ y.2.2 ≤ 8) := fun y hy => by
    have hne := hap.1 y hy
    rw [← hfill] at hy
    obtain ⟨x, _, rfl⟩ := List.mem_map.1 hy
    have h1 := htv x.2.1
    have h2 := htv x.2.2
    have h3 : tv vl x.2.1 ≠ 0 := hne
    exact ⟨⟨by show 1 ≤ tv vl x.2.1; omega, h1.2⟩, h2⟩
  have hH : modH vl (filledL cl a.2) = L.foldl (fun hs y => hs.set (y.2.1 - 1).toNat y.2.2) (List.replicate 8 (-1)) := by
    rw [← hfill, List.foldl_map]; rfl
  obtain ⟨hs', hhs⟩ : ∃ h, modH vl (filledL cl a.2) = h := ⟨_, rfl⟩
  rw [hhs] at hH ⊢
  have hlen2 : hs'.length = 8 := by rw [hH, mh_len]; rfl
  have hpw : L.Pairwise (fun y z => (y.2.1 - 1).toNat ≠ (z.2.1 - 1).toNat) := by
    refine List.Pairwise.imp_of_mem ?_ hap.2
    intro y z hy hz hne e
    have := hLv y hy
    have := hLv z hz
    exact hne (by omega)
  have hin : ∀ y ∈ L, gi hs' (y.2.1 - 1).toNat = y.2.2 := fun y hy => by
    have := hLv y hy
    rw [hH]
    exact mh_in L _ hpw hy (by rw [List.length_replicate]; omega)
  have hct : ∀ y ∈ L, ct hs' y.2.1 = y.2.2 := fun y hy => by
    have := hLv y hy
    rw [ct, if_pos (isAddrB_iff.2 (by omega))]
    exact hin y hy
  have hal : ∀ v, alB hs' v = true ↔ ∃ y ∈ L, y.2.1 = v := fun v => by
    constructor
    · intro h
      have hv := al_addr h
      apply Classical.byContradiction
      intro hn
      have h1 : gi hs' (v - 1).toNat = -1 := by
        rw [hH, mh_out L _ fun y hy e => hn ⟨y, hy, by have := hLv y hy; omega⟩]
        unfold gi
        rw [List.getD_eq_getElem?_getD, List.getElem?_replicate, if_pos (by omega)]
        rfl
      rw [alB, ct, if_pos (isAddrB_iff.2 hv), h1] at h
      exact absurd h (by decide)
    · rintro ⟨y, hy, rfl⟩
      have := hLv y hy
      rw [alB, hct y hy, decide_eq_true_eq]
      omega
  have hk := fill_kinds (f := tv vl) (asn_parts ha).2
  rw [hL] at hk
  have hff := fill_fill (f := tv vl) (l := a.2)
  rw [hL] at hff
  have hcell : ∀ y ∈ L, cellV hs' y = some [y.2.1] := fun y hy => by
    rw [cellV]
    rcases hk y hy with h1 | h2
    · rw [if_neg (by omega), hct y hy, if_pos (by simp)]
    · rw [if_pos h2]
      have hne : ¬ y.2.1 = y.2.2 := by
        rcases hff y hy with h | h
        · omega
        · exact h
      rw [wayN, if_neg hne, if_pos ((hal _).2 ⟨y, hy, rfl⟩), hct y hy, wayN_here rfl]
      rfl
  have hflat : a.2.flatMap (cellsL vl hs') = L.map fun y => y.2.1 := by
    rw [cellL_fill _ (asn_parts ha).2, hL]
    have : ∀ l : List Atom, (∀ y ∈ l, y ∈ L) → l.flatMap (cellL hs') = l.map fun y => y.2.1 := fun l => by
      induction l with
      | nil => intro _; rfl
      | cons y l ih =>
        intro h
        rw [List.flatMap_cons, ih fun z hz => h z (List.mem_cons_of_mem _ hz), cellL, hcell y (h y List.mem_cons_self)]
        rfl
    exact this L fun _ h => h
  rw [holds_iff]
  refine ⟨?_, ha, hposs2.facts, fun x hx => ?_, ?_, fun v => ?_⟩
  · rw [validB, hlen, hlen2]
    simp only [beq_self_eq_true, Bool.true_and, Bool.and_eq_true, List.all_eq_true]
    refine ⟨fun v hv => ?_, fun v hv => ?_⟩
    · obtain ⟨i, hi, rfl⟩ := List.mem_iff_getElem.1 hv
      have := hrng i
      rw [gi_of hi] at this
      exact isTermB_iff.2 this
    · obtain ⟨i, hi, rfl⟩ := List.mem_iff_getElem.1 hv
      rw [heapB_iff]
      by_cases h : ∃ y ∈ L, (y.2.1 - 1).toNat = i
      · obtain ⟨y, hy, e⟩ := h
        have h1 := hin y hy
        rw [e, gi_of hi] at h1
        have := hLv y hy
        omega
      · have h1 : gi hs' i = -1 := by
          rw [hH, mh_out L _ fun y hy e => h ⟨y, hy, e⟩]
          unfold gi
          rw [List.getD_eq_getElem?_getD, List.getElem?_replicate, if_pos (by omega)]
          rfl
        rw [gi_of hi] at h1
        omega
  · rw [(cells_V x).1]
    by_cases hf : ((x.1 == 1) || (tv vl x.2.1 != tv vl x.2.2)) = true
    · have hy : valA (tv vl) x ∈ L := by rw [← hL]; exact List.mem_map.2 ⟨x, List.mem_filter.2 ⟨hx, hf⟩, rfl⟩
      rw [hcell _ hy]; rfl
    · rw [Bool.or_eq_true, not_or, beq_iff_eq, bne_iff_ne, ne_eq, Decidable.not_not] at hf
      have hk2 : x.1 = 2 := by
        have := (asn_parts ha).2 x hx
        rw [atomB, Bool.and_eq_true, Bool.or_eq_true, beq_iff_eq, beq_iff_eq] at this
        exact this.1.resolve_left hf.1
      rw [cellV, if_pos (show (valA (tv vl) x).1 = 2 from hk2), wayN_here (show (valA (tv vl) x).2.1 = (valA (tv vl) x).2.2 from hf.2)]; rfl
  · rw [hflat]
    unfold List.Nodup
    rw [List.pairwise_map]
    exact hap.2
  · rw [hflat, hal, List.mem_map]
end Go.Proofs.Ytapoillhgimdiaa
