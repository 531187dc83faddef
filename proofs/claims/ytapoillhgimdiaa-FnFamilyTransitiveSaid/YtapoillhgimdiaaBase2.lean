/- Base2: texts W7, W8, W9, Garb, W10, W11 in one. -/
import Derived.Test.YtapoillhgimdiaaBase1
import Derived.Deep.RegionHeld3
/- Walks: ReachCells of the program and of the reference. -/
namespace Go.Proofs.Ytapoillhgimdiaa
open Go.RowKit

/-- What ReachCells returns. -/
def reachL (vl hl : List Int) (from_ : Int) : List Int := if validB vl hl = true ∧ isTermB from_ = true then sel (fun n => (reachF hl 0 from_).testBit n) 1 8 else []

theorem bit0_reach (hs : List Int) (m : Nat) (v : Int) : (reachF hs m v).testBit 0 = m.testBit 0 := by
  refine reach_ind (hs := hs) (fun m _ r => r.testBit 0 = m.testBit 0) (fun _ _ _ => rfl) (fun m v r ha _ ih => ?_) m v
  rw [ih, testBit_or_pow]
  have := al_addr ha
  have : ¬ v.toNat = 0 := by omega
  simp [this]

theorem sel_from0 {p : Nat → Bool} {k : Nat} (h : p 0 = false) : sel p 0 (k + 1) = sel p 1 k := by
  unfold sel
  rw [List.range'_succ, List.filter_cons, if_neg (by simp [h])]

theorem own_empty_at (w : World) (B e g : Nat) (hg : w.heap.size = g) (hB : B ≤ g) : (w.alloc (.cells #[] e)).ownsRow B e 1 (.slice (some ⟨g, 0, none⟩) 0 0) 0 (ints []) := by
  subst hg
  have := World.ownsRow_lit (size := 1) w #[] 0 hB (by unfold maxLen; omega) rfl (e := e)
  simpa [ints] using this

theorem own_empty (w : World) (B e : Nat) (hB : B ≤ w.heap.size) : (w.alloc (.cells #[] e)).ownsRow B e 1 (.slice (some ⟨w.heap.size, 0, none⟩) 0 0) 0 (ints []) := by
  have := World.ownsRow_lit (size := 1) w #[] 0 hB (by unfold maxLen; omega) rfl (e := e)
  simpa [ints] using this

end Go.Proofs.Ytapoillhgimdiaa
/- Walks: AliasTerms of the program and of the reference. -/
namespace Go.Proofs.Ytapoillhgimdiaa
open Go.RowKit

/-- What AliasTerms returns. -/
def aliasP (vl : List Int) (t : Int) (n : Nat) : Bool := tv vl (n : Int) == tv vl t
def aliasL (vl hl : List Int) (t : Int) : List Int := if validB vl hl = true ∧ isTermB t = true then sel (aliasP vl t) 0 9 else []

end Go.Proofs.Ytapoillhgimdiaa
/- Walks: AliasTerms of the reference; UsedCells; CycleCells. -/
namespace Go.Proofs.Ytapoillhgimdiaa
open Go.RowKit


/-- What UsedCells returns. -/
def usedP (hl : List Int) (n : Nat) : Bool := alB hl (n : Int)
def usedL (vl hl : List Int) : List Int := if validB vl hl = true then sel (usedP hl) 1 8 else []

end Go.Proofs.Ytapoillhgimdiaa
/- Reached cells from several starts; garbage; cycles: in plain Lean. -/
namespace Go.Proofs.Ytapoillhgimdiaa

/-- Closed under contents. -/
def closedB (hs : List Int) (m : Nat) : Prop := ∀ v, alB hs v = true → m.testBit v.toNat = true → alB hs (ct hs v) = true → m.testBit (ct hs v).toNat = true

theorem hasB_al {hs : List Int} {m : Nat} {v : Int} (h : alB hs v = true) : hasB m v = m.testBit v.toNat := by
  have : isAddrB v = true := isAddrB_iff.2 (al_addr h)
  simp [hasB, this]

theorem reach_sub {hs : List Int} {m : Nat} (hm : closedB hs m) (a : Nat) (v : Int) (hv : alB hs v = true → m.testBit v.toNat = true) (j : Nat) (hj : (reachF hs a v).testBit j = true) : a.testBit j = true ∨ m.testBit j = true := by
  refine reach_ind (hs := hs) (fun a v r => (alB hs v = true → m.testBit v.toNat = true) → r.testBit j = true → a.testBit j = true ∨ m.testBit j = true) (fun _ _ _ _ h => .inl h) (fun a v r ha _ ih hv hr => ?_) a v hv hj
  rcases ih (fun h => hm v ha (hv ha) h) hr with h | h
  · rw [testBit_or_pow] at h
    simp only [Bool.or_eq_true, decide_eq_true_eq] at h
    rcases h with h | h
    · exact .inl h
    · subst h; exact .inr (hv ha)
  · exact .inr h

theorem reach_grow (hs : List Int) (a : Nat) (v : Int) (j : Nat) (hj : a.testBit j = true) : (reachF hs a v).testBit j = true :=
  reach_ind (hs := hs) (fun a _ r => a.testBit j = true → r.testBit j = true) (fun _ _ _ h => h) (fun a v r _ _ ih h => ih (by rw [testBit_or_pow, h]; rfl)) a v hj

theorem reach_closed {hs : List Int} {m : Nat} (hm : closedB hs m) (v : Int) : closedB hs (reachF hs m v) := by
  refine reach_ind (hs := hs) (fun a v r => (∀ x, alB hs x = true → a.testBit x.toNat = true → alB hs (ct hs x) = true → a.testBit (ct hs x).toNat = true ∨ ct hs x = v) → closedB hs r) ?_ ?_ m v (fun x h1 h2 h3 => .inl (hm x h1 h2 h3))
  · intro a v hn h x h1 h2 h3
    rcases h x h1 h2 h3 with h | h
    · exact h
    · subst h
      have hh : hasB a (ct hs x) = true := by
        cases hc : hasB a (ct hs x) with
        | true => rfl
        | false => exact absurd ⟨h3, hc⟩ hn
      rwa [hasB_al h3] at hh
  · intro a v r ha hh ih h
    refine ih fun x h1 h2 h3 => ?_
    rw [testBit_or_pow] at h2
    simp only [Bool.or_eq_true, decide_eq_true_eq] at h2
    rcases h2 with h2 | h2
    · rcases h x h1 h2 h3 with h | h
      · left; rw [testBit_or_pow, h]; rfl
      · left; rw [testBit_or_pow, h]; simp
    · have : x = v := by have := al_addr h1; have := al_addr ha; omega
      subst this; right; rfl

theorem reach_union {hs : List Int} {m : Nat} (hm : closedB hs m) (a : Nat) (v : Int) (j : Nat) : (reachF hs (m ||| a) v).testBit j = (m.testBit j || (reachF hs a v).testBit j) := by
  refine reach_ind (hs := hs) (fun a v r => (reachF hs (m ||| a) v).testBit j = (m.testBit j || r.testBit j)) ?_ ?_ a v
  · intro a v hn
    rw [reachF_no, Nat.testBit_or]
    rintro ⟨h1, h2⟩
    refine hn ⟨h1, ?_⟩
    rw [hasB_al h1] at h2 ⊢
    rw [Nat.testBit_or] at h2
    simp only [Bool.or_eq_false_iff] at h2
    exact h2.2
  · intro a v r ha hh ih
    rw [hasB_al ha] at hh
    cases hv : m.testBit v.toNat with
    | false =>
      rw [reachF_yes ha (by rw [hasB_al ha, Nat.testBit_or, hv, hh]; rfl), Nat.or_assoc]
      exact ih
    | true =>
      rw [reachF_no (by rw [hasB_al ha, Nat.testBit_or, hv]; simp), Nat.testBit_or]
      have hr : (reachF hs (m ||| (a ||| 2 ^ v.toNat)) (ct hs v)).testBit j = (m ||| (a ||| 2 ^ v.toNat)).testBit j := by
        rw [Bool.eq_iff_iff]
        constructor
        · intro h
          rcases reach_sub hm _ _ (fun h => hm v ha hv h) j h with h | h
          · exact h
          · rw [Nat.testBit_or, h]; rfl
        · exact reach_grow hs _ _ j
      rw [hr, Nat.testBit_or, testBit_or_pow] at ih
      rw [← ih]
      by_cases e : v.toNat = j
      · subst e; simp [hv]
      · simp [e]

/-- What the reference marks from the first k program variables. -/
def markAll (vl hl : List Int) : Nat → Nat
  | 0 => 0
  | k + 1 => reachF hl (markAll vl hl k) (tv vl ((k : Int) + 1))
theorem closed_zero (hs : List Int) : closedB hs 0 := fun v _ h => by simp at h
theorem mark_closed (vl hl : List Int) : ∀ k, closedB hl (markAll vl hl k)
  | 0 => closed_zero hl
  | k + 1 => reach_closed (mark_closed vl hl k) _
theorem mark_lt (vl hl : List Int) : ∀ k, markAll vl hl k < 65536
  | 0 => by simp [markAll]
  | k + 1 => reachF_lt _ _ (mark_lt vl hl k)
theorem mark_succ (vl hl : List Int) (k j : Nat) : (markAll vl hl (k + 1)).testBit j = ((markAll vl hl k).testBit j || (reachF hl 0 (tv vl ((k : Int) + 1))).testBit j) := by
  have := reach_union (mark_closed vl hl k) 0 (tv vl ((k : Int) + 1)) j
  rw [Nat.or_zero] at this
  exact this

/-- What the program has left after the first k program variables. -/
def garbN (vl hl : List Int) : Nat → Nat
  | 0 => usedN hl 8
  | k + 1 => garbN vl hl k &&& (65535 - reachF hl 0 (tv vl ((k : Int) + 1)))
theorem garbN_lt (vl hl : List Int) : ∀ k, garbN vl hl k < 65536
  | 0 => usedN_lt hl 8 (by omega)
  | k + 1 => Nat.lt_of_le_of_lt Nat.and_le_left (garbN_lt vl hl k)
theorem garbN_bit (vl hl : List Int) : ∀ k j, j < 16 → (garbN vl hl k).testBit j = ((usedN hl 8).testBit j && !((markAll vl hl k).testBit j))
  | 0, j, _ => by simp [garbN, markAll]
  | k + 1, j, hj => by
    have ih := garbN_bit vl hl k j hj
    have hr := reachF_lt (hs := hl) 0 (tv vl ((k : Int) + 1)) (by omega)
    have h2 : (65535 - reachF hl 0 (tv vl ((k : Int) + 1))).testBit j = !((reachF hl 0 (tv vl ((k : Int) + 1))).testBit j) := by
      have := Nat.testBit_two_pow_sub_succ (n := 16) hr j
      have e : 2 ^ 16 - (reachF hl 0 (tv vl ((k : Int) + 1)) + 1) = 65535 - reachF hl 0 (tv vl ((k : Int) + 1)) := by omega
      rw [e] at this
      rw [this]; simp [hj]
    unfold garbN
    rw [Nat.testBit_and, ih, h2, mark_succ]
    cases (usedN hl 8).testBit j <;> cases (markAll vl hl k).testBit j <;> simp

/-- What GarbageCells returns. -/
def garbageP (vl hl : List Int) (n : Nat) : Bool := alB hl (n : Int) && !((markAll vl hl 4).testBit n)
def garbageL (vl hl : List Int) : List Int := if validB vl hl = true then sel (garbageP vl hl) 1 8 else []
theorem garb_sel (vl hl : List Int) : sel (fun n => (garbN vl hl 4).testBit n) 1 8 = sel (garbageP vl hl) 1 8 :=
  sel_congr fun i h1 h2 => by
    rw [garbN_bit vl hl 4 i (by omega), usedN_bit]
    have : decide (1 ≤ i ∧ i ≤ 8) = true := by simp; omega
    rw [this]; rfl

/-- What CycleCells returns. -/
def cycI (hl : List Int) (n : Int) : Bool := hasB (reachF hl 0 (ct hl n)) n
def cycleP (hl : List Int) (n : Nat) : Bool := alB hl (n : Int) && cycI hl (n : Int)
def cycleL (vl hl : List Int) : List Int := if validB vl hl = true then sel (cycleP hl) 1 8 else []

theorem filter_take_succ (p : Int → Bool) (l : List Int) (k : Nat) (h : k < l.length) : (l.take (k + 1)).filter p = (l.take k).filter p ++ (if p (gi l k) = true then [gi l k] else []) := by
  rw [List.take_succ_eq_append_getElem h, List.filter_append, gi_of h]
  congr 1
  simp only [List.filter_cons, List.filter_nil]
theorem filter_take_yes {p : Int → Bool} {l : List Int} {k : Nat} (h : k < l.length) (hp : p (gi l k) = true) : (l.take (k + 1)).filter p = (l.take k).filter p ++ [gi l k] := by rw [filter_take_succ p l k h, if_pos hp]
theorem filter_take_no {p : Int → Bool} {l : List Int} {k : Nat} (h : k < l.length) (hp : p (gi l k) = false) : (l.take (k + 1)).filter p = (l.take k).filter p := by rw [filter_take_succ p l k h, if_neg (by simp [hp]), List.append_nil]
theorem sel_filter (p : Nat → Bool) (q : Int → Bool) (a k : Nat) : (sel p a k).filter q = sel (fun n => p n && q (n : Int)) a k := by
  unfold sel
  rw [List.filter_map, List.filter_filter]
  congr 1
  apply List.filter_congr
  intro x _
  simp [Bool.and_comm]

end Go.Proofs.Ytapoillhgimdiaa
/- Walks: GarbageCells and CycleCells of the program. -/
namespace Go.Proofs.Ytapoillhgimdiaa
open Go.RowKit

end Go.Proofs.Ytapoillhgimdiaa
/- Walks: GarbageCells and CycleCells of the reference. -/
namespace Go.Proofs.Ytapoillhgimdiaa
open Go.RowKit

theorem flags_form {w : World} {B m : Nat} {v : Value} (h : w.ownsRow B 4 1 v 9 (flagsOf m)) : ∃ g cap, v = .slice (some ⟨g, 0, none⟩) 9 cap := by
  rcases h.2 with ⟨_, h⟩ | ⟨g, cap, _, rfl, _⟩
  · omega
  · exact ⟨g, cap, rfl⟩

/-- A readable list that came in is not in a block of the call's own. -/
theorem RInts.apart {w : World} {v : Value} {l : List Int} (h : RInts w v l) (hl : 0 < l.length) : ∀ k, v.ownBlock = some k → k < w.heap.size := by
  obtain ⟨b, o, cap, rfl, _, _, hc⟩ := h.ne hl
  intro k hk
  simp [Value.ownBlock] at hk
  have := World.block_lt_of_cell? w _ (hc 0 hl)
  simp at this; omega

end Go.Proofs.Ytapoillhgimdiaa
