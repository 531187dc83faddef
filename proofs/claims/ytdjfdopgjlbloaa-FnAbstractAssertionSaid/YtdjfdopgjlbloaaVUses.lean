/- Walks: how often a term occurs in atoms (l14Uses, occurrences). -/
import Derived.Test.YtdjfdopgjlbloaaVTdy
import Derived.Handy
set_option linter.unusedVariables false
set_option linter.unusedSimpArgs false
namespace Go.Proofs.Ytdjfdopgjlbloaa
open Go.RowKit

theorem uses_nat {l : List Atom} {k : Nat} {t : Int} (h : k < l.length) (b1 b2 : Bool) (h1 : ((gd l k).2.1 == t) = b1) (h2 : ((gd l k).2.2 == t) = b2) : usesN (l.take (k + 1)) t = usesN (l.take k) t + (b1.toNat + b2.toNat) := by
  rw [uses_step h]
  congr 1
  congr 1
  · subst h1; by_cases e : (gd l k).2.1 = t
    · rw [if_pos e, beq_iff_eq.2 e]; rfl
    · rw [if_neg e, beq_eq_false_iff_ne.2 e]; rfl
  · subst h2; by_cases e : (gd l k).2.2 = t
    · rw [if_pos e, beq_iff_eq.2 e]; rfl
    · rw [if_neg e, beq_eq_false_iff_ne.2 e]; rfl
theorem uses_le {l : List Atom} (k : Nat) (t : Int) : usesN (l.take k) t ≤ 2 * k := by
  have h1 := usesN_le (l.take k) t
  have h2 : (l.take k).length ≤ k := by rw [List.length_take]; omega
  omega
set_option maxRecDepth 100000 in
set_option maxHeartbeats 1600000 in
theorem l14Uses_any {S1 S2 : Nat → Prop} (v1 v2 : Value) (a : Asn) (t : Int) (w : World) (h1 : RL w S1 v1 a.1) (h2 : RL w S2 v2 a.2) (hl : (a.2.length : Int) ≤ 8) :
    Calls Try.prog 82 #[.agg #[v1, v2], .int .i64 t] w fun e w' => e = .returned (.int .i64 (usesN a.2 t : Int)) ∧ Below w.heap.size w w' := by
  obtain ⟨a1, l⟩ := a
  simp only at h1 h2 hl
  obtain ⟨p1, c1, rfl⟩ := h1.form
  obtain ⟨p2, c2, rfl⟩ := h2.form
  have hbA := heap_alloc_new w (.cells #[.slice p1 a1.length c1, .slice p2 l.length c2] 26)
  have hb0 : Below w.heap.size w (w.alloc (.cells #[.slice p1 a1.length c1, .slice p2 l.length c2] 26)) := below_alloc _ _
  have b0 := box1 hbA
  have bl := box_lt hbA
  have H1 := Lib.hid (And.intro hb0 (h2.keep hb0))
  clear h1 h2 hb0 b0 bl
  obtain ⟨W, hW⟩ : ∃ W, w.alloc (.cells #[.slice p1 a1.length c1, .slice p2 l.length c2] 26) = W := ⟨_, rfl⟩
  rw [hW] at hbA H1
  have hb1 := box1 hbA
  have hbl := box_lt hbA
  have HW := Lib.hid hW
  clear hW hbA
  go_enter Try.func82, Try.ntmps82
  go_upto_region 1 with fail
  rw [HW.out]
  clear HW
  go_wp2
  go_loopg [5, 6] l.length (fun q n i wr => ∃ (k c : Nat), k + q = l.length ∧ i = .int .i64 k ∧ n = .int .i64 (c : Int) ∧ c = usesN (l.take k) t ∧ wr = W)
  case atStart => exact ⟨0, 0, by omega, rfl, rfl, rfl, rfl⟩
  case round =>
    obtain ⟨k, c, hk, rfl, rfl, hc, rfl⟩ := hrel
    have hcl : c ≤ 2 * k := by rw [hc]; exact uses_le _ _
    have HK := Lib.hid (And.intro hk hc)
    clear hk hc
    by_cases hk8 : k < l.length
    · have hki : (k : Int) < (l.length : Int) := by omega
      obtain ⟨qa, qc, hqe, _, _, hqf⟩ := H1.out.2.atomAt
      simp only [Value.slice.injEq] at hqe
      obtain ⟨rfl, _, rfl⟩ := hqe
      obtain ⟨bb, oo, rfl, _, hz1, hp1, hp2, hp3⟩ := hqf k hk8
      have hst := fun b1 b2 => uses_nat (t := t) hk8 b1 b2
      obtain ⟨X, hX⟩ : ∃ X, gd l k = X := ⟨_, rfl⟩
      obtain ⟨X1, X2, X3⟩ := X
      rw [hX] at hp1 hp2 hp3 hst
      simp only at hp1 hp2 hp3 hst
      have hci : (0 : Int) ≤ (c : Int) := by omega
      have hcj : (c : Int) ≤ 16 := by omega
      have HS := Lib.hid hst
      clear hqf hX hst hcl
      cases e1 : (X2 == t) <;> cases e2 : (X3 == t)
      all_goals
        have HN := Lib.hid (HS.out _ _ e1 e2)
        go_wp2
        go_roundg (gk - 1)
        case rel => exact ⟨k + 1, _, by have := HK.out.1; omega, by go_num, by first | rfl | go_num | (congr 1), by rw [HN.out, ← HK.out.2]; rfl, rfl⟩
        case measure => have := HK.out.1; omega
    · obtain rfl : k = l.length := by have := HK.out.1; omega
      have hce : c = usesN l t := by have := HK.out.2; rw [List.take_length] at this; exact this
      have HC := Lib.hid hce
      clear hce hcl
      go_wp2
      go_ret
      exact ⟨by rw [← HC.out]; rfl, H1.out.1⟩
set_option maxRecDepth 100000 in
set_option maxHeartbeats 1600000 in
theorem occ_any {S2 : Nat → Prop} (v2 : Value) (l : List Atom) (t : Int) (w : World) (h2 : RL w S2 v2 l) (hl : (l.length : Int) ≤ 8) :
    Calls Try.prog 50 #[v2, .int .i64 t] w fun e w' => e = .returned (.int .i64 (usesN l t : Int)) ∧ Below w.heap.size w w' := by
  obtain ⟨p2, c2, rfl⟩ := h2.form
  have H1 := Lib.hid h2
  clear h2
  go_enter Try.func50, Try.ntmps50
  go_wp2
  go_loopg [5, 10] l.length (fun q n i wr => ∃ (k c : Nat), k + q = l.length ∧ i = .int .i64 k ∧ n = .int .i64 (c : Int) ∧ c = usesN (l.take k) t ∧ Below w.heap.size w wr)
  case atStart => exact ⟨0, 0, by omega, rfl, rfl, rfl, Below.refl _ _⟩
  case round =>
    obtain ⟨k, c, hk, rfl, rfl, hc, hW⟩ := hrel
    have hcl : c ≤ 2 * k := by rw [hc]; exact uses_le _ _
    have HK := Lib.hid (And.intro hk hc)
    clear hk hc
    by_cases hk8 : k < l.length
    · have hki : (k : Int) < (l.length : Int) := by omega
      obtain ⟨qa, qc, hqe, _, _, hqf⟩ := (H1.out.keep hW).atomAt
      simp only [Value.slice.injEq] at hqe
      obtain ⟨rfl, _, rfl⟩ := hqe
      obtain ⟨bb, oo, rfl, _, hz1, hp1, hp2, hp3⟩ := hqf k hk8
      have hst := fun b1 b2 => uses_nat (t := t) hk8 b1 b2
      obtain ⟨X, hX⟩ : ∃ X, gd l k = X := ⟨_, rfl⟩
      obtain ⟨X1, X2, X3⟩ := X
      rw [hX] at hp1 hp2 hp3 hst
      simp only at hp1 hp2 hp3 hst
      have hci : (0 : Int) ≤ (c : Int) := by omega
      have hcj : (c : Int) ≤ 16 := by omega
      have HS := Lib.hid hst
      have HB := Lib.hid (ba hW (.cells #[.int .i64 X1, .int .i64 X2, .int .i64 X3] 56))
      clear hqf hX hst hcl hW
      cases e1 : (X2 == t) <;> cases e2 : (X3 == t)
      all_goals
        have HN := Lib.hid (HS.out _ _ e1 e2)
        go_wp2
        go_roundg (gk - 1)
        case rel => exact ⟨k + 1, _, by have := HK.out.1; omega, by go_num, by first | rfl | go_num | (congr 1), by rw [HN.out, ← HK.out.2]; rfl, HB.out⟩
        case measure => have := HK.out.1; omega
    · obtain rfl : k = l.length := by have := HK.out.1; omega
      have hce : c = usesN l t := by have := HK.out.2; rw [List.take_length] at this; exact this
      have HC := Lib.hid hce
      have HB := Lib.hid hW
      clear hce hcl hW
      go_wp2
      go_ret
      exact ⟨by rw [← HC.out]; rfl, HB.out⟩
end Go.Proofs.Ytdjfdopgjlbloaa
