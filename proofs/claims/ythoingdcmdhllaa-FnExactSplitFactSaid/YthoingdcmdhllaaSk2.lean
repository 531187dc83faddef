/- Walks: the first case, the first failing case: the reference. -/
import Derived.Test.YthoingdcmdhllaaSk1
import Derived.Test.YthoingdcmdhllaaItr4
namespace Go.Proofs.Ythoingdcmdhllaa
open Go.RowKit

/-- A beginning of a case, with -1 behind it. -/
structure ClsP (M : Nat) (p q : List Int) (t : Nat) : Prop where
  hp : p.length = t
  hq : q.length = 9
  ag : ∀ i, i < t → gi q i = gi p i
  neg : ∀ i, t ≤ i → i < 9 → gi q i = -1
  st : ∀ i, i < t → stepC M q i = true
section
variable {M : Nat} {p q : List Int} {t : Nat} {a : Asn}
theorem ClsP.le8 (h : ClsP M p q t) : ∀ i, i < 9 → gi q i ≤ 8 := fun i hi => by
  by_cases hlt : i < t
  · have := h.st i hlt
    rw [stepC] at this
    split at this
    · simp only [Bool.and_eq_true, decide_eq_true_eq] at this; omega
    · rw [beq_iff_eq] at this; omega
  · rw [h.neg i (by omega) hi]; decide
theorem ClsP.skip (h : ClsP M p q t) (ht : t < 9) (hb : M.testBit t = false) : ClsP M (p ++ [-1]) q (t + 1) where
  hp := by simp [h.hp]
  hq := h.hq
  ag i hi := by
    by_cases e : i = t
    · subst e; rw [h.neg i (Nat.le_refl _) ht, ← h.hp, gi_snoc]
    · rw [h.ag i (by omega), gi_snoc_lt (by rw [h.hp]; omega)]
  neg i h1 h2 := h.neg i (by omega) h2
  st i hi := by
    by_cases e : i = t
    · subst e; rw [stepC, if_neg (by rw [hb]; decide), h.neg i (Nat.le_refl _) ht]; rfl
    · exact h.st i (by omega)
theorem ClsP.next (h : ClsP M p q t) (ht : t < 9) (hb : M.testBit t = true) {k : Nat} (hk : (k < t ∧ gi q k = (k : Int)) ∨ k = t) : ClsP M (p ++ [(k : Int)]) (q.set t (k : Int)) (t + 1) where
  hp := by simp [h.hp]
  hq := by rw [List.length_set]; exact h.hq
  ag i hi := by
    have := agree_set (p := p) (q := q) h.hq (by rw [h.hp]; exact ht) (fun i hi => h.ag i (by rw [← h.hp]; exact hi)) (k : Int) i (by simp [h.hp]; omega)
    rwa [h.hp] at this
  neg i h1 h2 := by rw [gi_set_neq (by omega)]; exact h.neg i (by omega) h2
  st i hi := by
    by_cases e : i = t
    · subst e
      rw [stepC, if_pos hb, gi_set_self (by rw [h.hq]; exact ht), Int.toNat_natCast]
      simp only [Bool.and_eq_true, decide_eq_true_eq, beq_iff_eq]
      refine ⟨by omega, by omega, ?_⟩
      rcases hk with ⟨h1, h2⟩ | rfl
      · rw [gi_set_neq (by omega)]; exact h2
      · exact gi_set_self (by rw [h.hq]; exact ht) _
    · have hs := h.st i (by omega)
      rw [stepC, gi_set_neq (by omega)]
      rw [stepC] at hs
      split
      · rename_i hb'
        rw [if_pos hb'] at hs
        simp only [Bool.and_eq_true, decide_eq_true_eq, beq_iff_eq] at hs ⊢
        refine ⟨hs.1, hs.2.1, ?_⟩
        rw [gi_set_neq (by omega)]; exact hs.2.2
      · rename_i hb'
        rw [if_neg hb'] at hs
        exact hs
theorem ClsP.shape (h : ClsP M p q 9) : shapeC M q = true := by
  rw [shapeC, h.hq, Bool.and_eq_true]
  exact ⟨rfl, List.all_eq_true.2 fun i hi => h.st i (List.mem_range.1 hi)⟩
theorem ClsP.cut (h : ClsP M p q t) {n : Nat} (ha : asnB a = true) (hf : (a.1.all (fitsF q) && earlyE q 0 a.2) = false) : restL M a n p = [] :=
  rest_cutS ha (fun i hi => h.ag i (by rw [← h.hp]; exact hi)) (fun i h1 h2 => by rw [h.neg i (by rw [← h.hp]; exact h1) h2]; decide) hf
/-- The reference's tests of a whole case. -/
theorem end_poss (ha : asnB a = true) (hs : shapeC M q = true) (hcov : ∀ j, (termsM a).testBit j = true → M.testBit j = true) : possC q 8 a = (a.1.all (fitsF q) && apartB (filledL q a.2)) := by
  have hcl : ∀ t : Int, isTermB t = true → (termsM a).testBit t.toNat = true → 0 ≤ gi q t.toNat ∧ gi q t.toNat ≤ 8 := fun t ht hb => by
    have h8 := isTermB_iff.1 ht
    have := step_bit hs (t := t.toNat) (by omega) (hcov _ hb)
    omega
  unfold possC
  congr 1
  · rw [Bool.eq_iff_iff, List.all_eq_true, List.all_eq_true]
    have key : ∀ f ∈ a.1, okF q 8 f = fitsF q f := fun f hf => by
      obtain ⟨⟨p1, p2⟩, ⟨q1, q2⟩⟩ := fact_bits ha hf
      have e1 := isTermB_iff.1 p1
      have e2 := isTermB_iff.1 q1
      have c1 := hcl _ p1 p2
      have c2 := hcl _ q1 q2
      rw [okF, if_pos ⟨e1.2, e2.2⟩, fitsF, decide_eq_true c1.1, decide_eq_true c2.1, factC]
      cases gi q f.2.1.toNat == gi q f.2.2.toNat <;> cases f.1 <;> rfl
    exact ⟨fun h f hf => by rw [← key f hf]; exact h f hf, fun h f hf => by rw [key f hf]; exact h f hf⟩
  · rw [starts_apart (asn_all ha).2 fun x hx => ?_]
    obtain ⟨⟨p1, p2⟩, _⟩ := atom_bits ha hx
    exact isTermB_iff.2 (hcl _ p1 p2)
theorem ClsP.fin (h : ClsP M p q 9) (ha : asnB a = true) (hcov : ∀ j, (termsM a).testBit j = true → M.testBit j = true) (hf : a.1.all (fitsF q) = true) : restL M a 0 p = if apartB (filledL q a.2) = true then [q] else [] := by
  have e := agree_eq h.hq h.hp (fun i hi => h.ag i (by rw [← h.hp]; exact hi))
  subst e
  rw [rest_zero, end_poss ha h.shape hcov, hf, Bool.true_and]
end
theorem find_pre {α : Type} {P : α → Bool} {l m xs : List α} (h : l ++ m <+: xs) (hl : l.find? P = none) {x : α} (hm : m.find? P = some x) : xs.find? P = some x := by
  obtain ⟨t, rfl⟩ := h
  rw [List.find?_append, List.find?_append, hl, hm]; rfl
theorem find_none_app {α : Type} {P : α → Bool} {l m : List α} (hl : l.find? P = none) (hm : m.find? P = none) : (l ++ m).find? P = none := by
  rw [List.find?_append, hl, hm]; rfl
def openL (k : Nat) : List Int := 0 :: reps (-1) k
set_option maxHeartbeats 1600000 in
theorem l5Open_any (w : World) : Calls Try.prog 172 #[] w fun e w' => ∃ v, e = .returned v ∧ w'.ownsRow w.heap.size 3 1 v 9 (ints (openL 8)) ∧ Below w.heap.size w w' := by
  have hown : (w.alloc (.cells #[.int .i64 0] 3)).ownsRow w.heap.size 3 1 (.slice (some ⟨w.heap.size, 0, none⟩) 1 1) 1 (ints (openL 0)) := World.ownsRow_lit (size := 1) w #[.int .i64 0] 1 (Nat.le_refl _) (by unfold maxLen; omega) rfl
  have HO := Lib.hid hown
  clear hown
  go_enter Try.func172, Try.ntmps172
  go_wp2
  go_loopg [1] 8 (fun q x wr => ∃ k : Nat, k + q = 8 ∧ wr.ownsRow w.heap.size 3 1 x (k + 1) (ints (openL k)) ∧ Below w.heap.size w wr)
  case atStart => exact ⟨0, by omega, HO.out, below_alloc _ _⟩
  case round =>
    obtain ⟨k, hk, ho, hb⟩ := hrel
    have HK := Lib.hid hk
    obtain ⟨a, c, rfl, _⟩ := row_form ho
    by_cases hk8 : k < 8
    · have hki : (k : Int) + 1 ≤ 8 := by omega
      have hl : (openL k).length = k + 1 := by simp [openL, reps]
      have HO2 := Lib.hid ho
      have hs := hb.size
      clear hk
      go_wp2_with (at_builtin; go_must (refine app_int _ rfl _ _ rfl w.heap.size _ (openL k) rfl (by rw [hl]; exact own_keep HO2.out (below_alloc _ _)) ⟨wr.heap.size, 0, none⟩ (-1) rfl (cell_new1 _ _ _) (by omega) (by simp; omega) ?_; intro v' w7 own7 hf7))
      have he : openL k ++ [-1] = openL (k + 1) := by simp [openL, reps, List.replicate_succ']
      have hl2 : (openL (k + 1)).length = k + 1 + 1 := by simp [openL, reps]
      rw [he, hl2] at own7
      have HN := Lib.hid (And.intro own7 (below_own (own_keep HO2.out (below_alloc _ (.cells #[.int .i64 (-1)] 3))) hf7 (bt hb (below_alloc _ _)) (by simp; omega)))
      clear own7 hf7 he hl2
      go_roundg (gk - 1)
      case rel => exact ⟨k + 1, by have := HK.out; omega, HN.out.1, HN.out.2⟩
      case measure => have := HK.out; omega
    · obtain rfl : k = 8 := by have := HK.out; omega
      go_wp2
      go_ret
      exact ⟨_, rfl, ho, hb⟩
end Go.Proofs.Ythoingdcmdhllaa
