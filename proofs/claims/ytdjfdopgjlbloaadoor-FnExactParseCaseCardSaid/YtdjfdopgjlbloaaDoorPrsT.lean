/- Plain: what the reference reads of a text that a proof has. -/
import Derived.Test.YtdjfdopgjlbloaaDoorPrsU
namespace Go.Proofs.YtdjfdopgjlbloaaDoor
open Go.RowKit

/-- A row of numbers as the reference reads it. -/
def ReadRow (c : UInt8) (t : List UInt8) (l : List Int) : Prop := (t = [] → l = []) ∧ (t ≠ [] → ReadTo (cutL c t) (min (cutL c t).length 9) l)
theorem ReadRow.same {c : UInt8} {l m : List Int} (hl : ∀ n ∈ l, -1 ≤ n ∧ n ≤ 8) (h9 : l.length ≤ 9) (h1 : c ≠ 45) (h2 : c.toNat < 48) (h : ReadRow c (numsT c l) m) : m = l := by
  by_cases h0 : l = []
  · subst h0; exact h.1 rfl
  · have hr := h.2 (nums_ne h0)
    rw [cut_nums (fun n hn => (hl n hn).2) h1 h2 h0] at hr
    exact ReadTo.back hl h9 hr
theorem read_same {t : List UInt8} {p q : Pf} (hp : Shaped p) (ht : textB p = t) (h1 : ReadRow 44 (gd (cutL 32 t) 0) q.1) (hl : q.2.length + 1 = (cutL 32 t).length) (h2 : ∀ i, i < q.2.length → ReadRow 43 (gd (cutL 32 t) (i + 1)) (gd q.2 i)) : q = p := by
  have hc := hp.cut
  rw [ht] at hc
  rw [hc] at h1 hl h2
  have e1 : q.1 = p.1 := ReadRow.same hp.cl (by rw [hp.c9]; exact Nat.le_refl _) (by decide) (by decide) h1
  have el : q.2.length = p.2.length := by simpa using hl
  have e2 : q.2 = p.2 := gd_ext el fun i hi => by
    have hr := h2 i hi
    have hi2 : i < p.2.length := by omega
    have hg : gd (numsT 44 p.1 :: p.2.map (numsT 43)) (i + 1) = numsT 43 (gd p.2 i) := by
      rw [gd_of (by simpa using hi2), List.getElem_cons_succ, List.getElem_map, gd_of hi2]
    rw [hg] at hr
    exact ReadRow.same (fun n hn => by have := hp.ul _ (gd_mem hi2) n hn; omega) (hp.u9 _ (gd_mem hi2)) (by decide) (by decide) hr
  exact Prod.ext e1 e2
theorem parse_yes {t : List UInt8} {q : Pf} (h0 : t ≠ []) (h : fmtB q = t) : parseO t = some q := parse_iff.2 ((fmt_iff h0).1 h)
theorem parse_no {t : List UInt8} {q : Pf} (h1 : ReadRow 44 (gd (cutL 32 t) 0) q.1) (hl : q.2.length + 1 = (cutL 32 t).length) (h2 : ∀ i, i < q.2.length → ReadRow 43 (gd (cutL 32 t) (i + 1)) (gd q.2 i)) (h : fmtB q ≠ t) : parseO t = none := by
  cases hp : parseO t with
  | none => rfl
  | some p =>
    obtain ⟨hs, ht⟩ := parse_iff.1 hp
    obtain rfl := read_same hs ht h1 hl h2
    exact absurd (by rw [fmtB, if_pos (shaped_iff.2 hs), ht]) h
theorem parse_nil : parseO [] = none := by
  cases hp : parseO [] with
  | none => rfl
  | some p => obtain ⟨hs, ht⟩ := parse_iff.1 hp; exact absurd ht (text_ne hs)
theorem parse_long {t : List UInt8} (h : 200 < t.length) : parseO t = none := by
  cases hp : parseO t with
  | none => rfl
  | some p => obtain ⟨hs, ht⟩ := parse_iff.1 hp; have := text_len hs; rw [ht] at this; omega
theorem parse_many {t : List UInt8} (h : 7 < (cutL 32 t).length) : parseO t = none := by rw [parseO, if_neg (by omega)]
theorem sum_nine : ∀ (l : List (List Int)), (∀ u ∈ l, u.length ≤ 9) → (l.map (Mk.size (α := List Int))).sum ≤ 9 * l.length
  | [], _ => by simp
  | x :: l, h => by
    have h1 := sum_nine l fun u hu => h u (List.mem_cons_of_mem _ hu)
    have h2 : Mk.size x ≤ 9 := h x List.mem_cons_self
    rw [List.map_cons, List.sum_cons, List.length_cons]; omega
theorem parse_size {t : List UInt8} {p : Pf} (h : parseO t = some p) : Mk.size (p : CPf) ≤ 1048576 := by
  obtain ⟨hs, _⟩ := parse_iff.1 h
  have h1 := hs.c9
  have h2 := sum_nine p.2 hs.u9
  have h3 := hs.u6
  show p.1.length + (p.2.length + (p.2.map (Mk.size (α := List Int))).sum) ≤ 1048576
  omega
theorem hdL_gd (l : List (List UInt8)) : hdL l = gd l 0 := by cases l <;> rfl
theorem gd_tail {α : Type} [Inhabited α] (l : List α) (k : Nat) : gd l.tail k = gd l (k + 1) := by cases l <;> simp [gd]
theorem parse_nocls {t : List UInt8} {ps : List (List UInt8)} (hp : cutL 32 t = ps) (h : clsO (gd ps 0) = none) : parseO t = none := by
  rw [parseO, hp]
  split
  · rw [hdL_gd, h]; rfl
  · rfl
theorem parse_nouse {t : List UInt8} {ps : List (List UInt8)} (hp : cutL 32 t = ps) {k : Nat} (hk : k + 1 < ps.length) (h : useO (gd ps (k + 1)) = none) : parseO t = none := by
  rw [parseO, hp]
  split
  · have hn : optL useO ps.tail = none := optL_none (k := k) (by rw [List.length_tail]; omega) (by rw [gd_tail]; exact h)
    rw [hn]
    cases clsO (hdL ps) <;> rfl
  · rfl
theorem parse_done {t : List UInt8} {ps : List (List UInt8)} (hp : cutL 32 t = ps) (h7 : ps.length ≤ 7) {c : List Int} (hc : clsO (gd ps 0) = some c) {us : List (List Int)} (hu : optL useO ps.tail = some us) : parseO t = some (c, us) := by
  rw [parseO, hp, if_pos h7, hdL_gd, hc, hu]; rfl
/-- What the program and the reference parse. -/
def parseR (t : List UInt8) : CPf := (parseO t).getD ([], [])
def parseB (t : List UInt8) : Bool := (parseO t).isSome
theorem parseR_none {t : List UInt8} (h : parseO t = none) : parseR t = ([], []) := by rw [parseR, h]; rfl
theorem parseR_some {t : List UInt8} {p : Pf} (h : parseO t = some p) : parseR t = p := by rw [parseR, h]; rfl
theorem parseB_none {t : List UInt8} (h : parseO t = none) : parseB t = false := by rw [parseB, h]; rfl
theorem parseB_some {t : List UInt8} {p : Pf} (h : parseO t = some p) : parseB t = true := by rw [parseB, h]; rfl
theorem parseR_size (t : List UInt8) : Mk.size (parseR t) ≤ 1048576 := by
  cases h : parseO t with
  | none => rw [parseR_none h]; show 0 + (0 + 0) ≤ 1048576; omega
  | some p => rw [parseR_some h]; exact parse_size h
end Go.Proofs.YtdjfdopgjlbloaaDoor
