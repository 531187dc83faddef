/- strings.Split at a sign of one byte cuts as cutL does. -/
import Derived.Test.YtdjfdopgjlbloaaDoorPrsI
import Derived.Test.YtdjfdopgjlbloaaDoorShfP
namespace Go.Proofs.YtdjfdopgjlbloaaDoor
open Go.RowKit

theorem idx_none {c : UInt8} : ∀ {s : List UInt8}, c ∉ s → Lib.indexByte s c = -1
  | [], _ => rfl
  | b :: s, h => by
    rw [List.mem_cons, not_or] at h
    have hb : (b == c) = false := beq_eq_false_iff_ne.2 fun e => h.1 e.symm
    rw [Lib.indexByte, hb, idx_none h.2]; rfl
theorem idx_app {c : UInt8} : ∀ {x : List UInt8} (s : List UInt8), c ∉ x → Lib.indexByte (x ++ c :: s) c = x.length
  | [], s, _ => by rw [List.nil_append, Lib.indexByte]; simp
  | b :: x, s, h => by
    rw [List.mem_cons, not_or] at h
    have hb : (b == c) = false := beq_eq_false_iff_ne.2 fun e => h.1 e.symm
    rw [List.cons_append, Lib.indexByte, hb, idx_app s h.2]
    have : ((x.length : Int) == -1) = false := beq_eq_false_iff_ne.2 (by omega)
    rw [this]; simp
theorem idxB (t : List UInt8) (c : UInt8) : Lib.indexB (btx t) (btx [c]) = Lib.indexByte t c := Lib.index_one t c
theorem split_cut (c : UInt8) : ∀ (n : Nat) (t : List UInt8), t.length ≤ n → Lib.splitB (btx [c]) 0 (Lib.countB (btx t) (btx [c])) (btx t) = (cutL c t).map btx ∧ Lib.countB (btx t) (btx [c]) + 1 = (cutL c t).length := fun n => by
  induction n with
  | zero =>
    intro t ht
    have : t = [] := List.length_eq_zero_iff.1 (by omega)
    subst this
    have h : Lib.indexB (btx []) (btx [c]) = -1 := by rw [idxB]; rfl
    rw [Lib.countB_miss _ _ h, Lib.splitB_zero]
    exact ⟨rfl, rfl⟩
  | succ n ih =>
    intro t ht
    by_cases hc : c ∈ t
    · obtain ⟨x, r, rfl, hx⟩ := List.eq_append_cons_of_mem hc
      have h : Lib.indexB (btx (x ++ c :: r)) (btx [c]) = (x.length : Nat) := by rw [idxB, idx_app r hx]
      have e1 : (btx (x ++ c :: r)).extract (x.length + (btx [c]).size) (btx (x ++ c :: r)).size = btx r := by
        rw [btx_extract, piece, show (btx (x ++ c :: r)).size = (x ++ c :: r).length from rfl, List.take_length, show (btx [c]).size = 1 from rfl]
        congr 1; simp
      have e2 : (btx (x ++ c :: r)).extract 0 (x.length + 0) = btx x := by
        rw [btx_extract, piece, Nat.add_zero]; simp
      have hr := ih r (by simp at ht; omega)
      rw [Lib.countB_hit _ _ x.length (Nat.le_refl _) h, e1, Nat.add_comm 1, Lib.splitB_hit _ _ _ _ x.length h, e1, e2, cutL_app r hx]
      exact ⟨by rw [List.map_cons, hr.1], by rw [List.length_cons, hr.2]⟩
    · have h : Lib.indexB (btx t) (btx [c]) = -1 := by rw [idxB, idx_none hc]
      rw [Lib.countB_miss _ _ h, Lib.splitB_zero, cutL_none hc]
      exact ⟨rfl, rfl⟩
end Go.Proofs.YtdjfdopgjlbloaaDoor
