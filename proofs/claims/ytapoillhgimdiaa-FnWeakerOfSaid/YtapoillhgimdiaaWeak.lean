/- Walks: the weaker one of two assertions. -/
import Derived.Test.YtapoillhgimdiaaEnt1
import Derived.Test.YtapoillhgimdiaaFam3
import Derived.Test.YtapoillhgimdiaaData2
namespace Go.Proofs.Ytapoillhgimdiaa
open Go.RowKit

def weakOk (a b : Asn) : Bool := entB a b || entB b a
def weakR (a b : Asn) : Asn := if entB a b = true then b else if entB b a = true then a else ([], [])
theorem ent_left {a b : Asn} (h : entB a b = true) : asnB a = true := by
  rw [entB, Bool.and_eq_true] at h; exact h.1
theorem ent_right {a b : Asn} (h : entB a b = true) : asnB b = true := by
  rw [entB, Bool.and_eq_true, Bool.and_eq_true] at h; exact h.2.1
theorem RL.set2 {α : Type} [Dat α] {w : World} {B : Nat} {v : Value} {l : List α} (h : RL w (fun k => B ≤ k) v l) {R : Nat} (hR : R < B) (x y : Value) :
    RL ((w.setCell ⟨R, 0, none⟩ x).setCell ⟨R, 1, none⟩ y) (fun k => B ≤ k) v l :=
  (h.kept (fr_set w _ _) fun k _ h e => by have h2 : B ≤ k := h; have e2 : k = R := e; omega).kept (fr_set _ _ _) fun k _ h e => by have h2 : B ≤ k := h; have e2 : k = R := e; omega
set_option maxRecDepth 100000 in
set_option maxHeartbeats 3200000 in
theorem weakerI_any {S1 S2 S3 S4 : Nat → Prop} (v1 v2 u1 u2 : Value) (a b : Asn) (w : World) (h1 : RL w S1 v1 a.1) (h2 : RL w S2 v2 a.2) (k1 : RL w S3 u1 b.1) (k2 : RL w S4 u2 b.2) :
    Calls Try.prog 42 #[.agg #[v1, v2], .agg #[u1, u2]] w fun e w' => ∃ x1 x2, e = .returned (.tuple #[.agg #[x1, x2], .bool (weakOk a b)]) ∧ (OA w' w.heap.size x1 x2 (weakR a b)) ∧ Below w.heap.size w w' := by
  obtain ⟨p1, c1, rfl⟩ := h1.form
  obtain ⟨p2, c2, rfl⟩ := h2.form
  obtain ⟨p3, c3, rfl⟩ := k1.form
  obtain ⟨p4, c4, rfl⟩ := k2.form
  obtain ⟨w0, hw0⟩ : ∃ w0, w0 = (((w.alloc (.cells #[.slice p1 a.1.length c1, .slice p2 a.2.length c2] 33)).alloc (.cells #[.slice p3 b.1.length c3, .slice p4 b.2.length c4] 33)).alloc (.cells #[.slice none 0 0, .slice none 0 0] 33)) := ⟨_, rfl⟩
  have hc0 : w0.cell? ⟨w.heap.size, 0, none⟩ = some (.slice p1 a.1.length c1) := by rw [hw0]; simp [go_sem]
  have hc1 : w0.cell? ⟨w.heap.size, 1, none⟩ = some (.slice p2 a.2.length c2) := by rw [hw0]; simp [go_sem]
  have hd0 : w0.cell? ⟨w.heap.size + 1, 0, none⟩ = some (.slice p3 b.1.length c3) := by rw [hw0]; simp [go_sem]
  have hd1 : w0.cell? ⟨w.heap.size + 1, 1, none⟩ = some (.slice p4 b.2.length c4) := by rw [hw0]; simp [go_sem]
  have hA : w0.heap[w.heap.size + 2]? = some (.cells #[.slice none 0 0, .slice none 0 0] 33 (0, 0)) := by
    rw [hw0]
    have := heap_alloc_new ((w.alloc (.cells #[.slice p1 a.1.length c1, .slice p2 a.2.length c2] 33)).alloc (.cells #[.slice p3 b.1.length c3, .slice p4 b.2.length c4] 33)) (.cells #[.slice none 0 0, .slice none 0 0] 33)
    simpa using this
  have hz : w0.heap.size = w.heap.size + 3 := by rw [hw0]; simp
  have hW : Below w.heap.size w w0 := by rw [hw0]; exact ba (ba (below_alloc _ _) _) _
  have q1 := h1.keep hW
  have q2 := h2.keep hW
  have q3 := k1.keep hW
  have q4 := k2.keep hW
  have HZ := Lib.hid (And.intro hz hw0)
  clear h1 h2 k1 k2 hz hw0
  obtain ⟨e1, he1⟩ : ∃ x, entB a b = x := ⟨_, rfl⟩
  obtain ⟨e2, he2⟩ : ∃ x, entB b a = x := ⟨_, rfl⟩
  have hok : weakOk a b = (e1 || e2) := by rw [weakOk, he1, he2]
  have hR : weakR a b = if e1 = true then b else if e2 = true then a else ([], []) := by rw [weakR, he1, he2]
  have hs1 : e1 = true → asSz b := fun h => asn_sz (ent_right (he1.trans h))
  have hs2 : e2 = true → asSz a := fun h => asn_sz (ent_right (he2.trans h))
  have HE1 := Lib.hid he1
  have HE2 := Lib.hid he2
  have HF := Lib.hid (And.intro hok hR)
  have HS1 := Lib.hid hs1
  have HS2 := Lib.hid hs2
  clear he1 he2 hok hR hs1 hs2
  go_enter Try.func42, Try.ntmps42
  go_wp2_with fail
  rw [← HZ.out.2]
  refine (cb (entailsI_any _ _ _ _ a b _ q1 q2 q3 q4) HE1.out).mono ?_
  rintro e w1 ⟨rfl, hb⟩
  have hlt := HZ.out.1
  have hsz1 := hb.size
  replace hc0 := cell_keep hb hc0
  replace hc1 := cell_keep hb hc1
  replace hd0 := cell_keep hb hd0
  replace hd1 := cell_keep hb hd1
  replace hA := box_keep hA hb
  replace q1 := q1.keep hb
  replace q2 := q2.keep hb
  replace q3 := q3.keep hb
  replace q4 := q4.keep hb
  replace hW := bt hW hb
  clear hb
  cases e1 with
  | true =>
    have hS := HS1.out rfl
    have HSz := Lib.hid hS
    clear hS
    go_wp2_with fail
    refine (copyAssertion_any _ _ b _ q3 q4 HSz.out.1 HSz.out.2).mono ?_
    rintro e w8 ⟨x1, x2, rfl, HO0, hb8⟩
    have rx1 := HO0.one
    have rx2 := HO0.two
    obtain ⟨d1, m1, rfl⟩ := rx1.form
    obtain ⟨d2, m2, rfl⟩ := rx2.form
    have hA1 := box_keep hA hb8
    have ha0 := box0 hA1
    have ha1 := box1 hA1
    have haz : ∀ i, w8.frozen? ⟨w.heap.size + 2, i, none⟩ = false := boxz hA1
    have hl8 := box_lt hA1
    have r := box_two (.slice d1 b.1.length m1) (.slice d2 b.2.length m2) ha0 ha1
    have HO := Lib.hid (HO0.res (w := w) (R := w.heap.size + 2) (by omega) (by omega) (bt hW hb8) (.slice d1 b.1.length m1) (.slice d2 b.2.length m2))
    clear rx1 rx2 hA1 HO0
    go_wp2
    refine bodyPost_ret (v := .tuple #[.agg #[.slice d1 b.1.length m1, .slice d2 b.2.length m2], .bool true]) (by simp [results, Try.results42, go_sem, r.1, r.2]) rfl ?_
    exact ⟨_, _, by rw [HF.out.1]; rfl, by rw [HF.out.2]; exact HO.out.1, HO.out.2⟩
  | false =>
    go_wp2_with fail
    refine (cb (entailsI_any _ _ _ _ b a _ q3 q4 q1 q2) HE2.out).mono ?_
    rintro e w2 ⟨rfl, hb⟩
    have hsz2 := hb.size
    replace hc0 := cell_keep hb hc0
    replace hc1 := cell_keep hb hc1
    replace hA := box_keep hA hb
    replace q1 := q1.keep hb
    replace q2 := q2.keep hb
    replace hW := bt hW hb
    clear hb
    cases e2 with
    | true =>
      have hS := HS2.out rfl
      have HSz := Lib.hid hS
      clear hS
      go_wp2_with fail
      refine (copyAssertion_any _ _ a _ q1 q2 HSz.out.1 HSz.out.2).mono ?_
      rintro e w8 ⟨x1, x2, rfl, HO0, hb8⟩
      have rx1 := HO0.one
      have rx2 := HO0.two
      obtain ⟨d1, m1, rfl⟩ := rx1.form
      obtain ⟨d2, m2, rfl⟩ := rx2.form
      have hA1 := box_keep hA hb8
      have ha0 := box0 hA1
      have ha1 := box1 hA1
      have haz : ∀ i, w8.frozen? ⟨w.heap.size + 2, i, none⟩ = false := boxz hA1
      have hl8 := box_lt hA1
      have r := box_two (.slice d1 a.1.length m1) (.slice d2 a.2.length m2) ha0 ha1
      have HO := Lib.hid (HO0.res (w := w) (R := w.heap.size + 2) (by omega) (by omega) (bt hW hb8) (.slice d1 a.1.length m1) (.slice d2 a.2.length m2))
      clear rx1 rx2 hA1 HO0
      go_wp2
      refine bodyPost_ret (v := .tuple #[.agg #[.slice d1 a.1.length m1, .slice d2 a.2.length m2], .bool true]) (by simp [results, Try.results42, go_sem, r.1, r.2]) rfl ?_
      exact ⟨_, _, by rw [HF.out.1]; rfl, by rw [HF.out.2]; exact HO.out.1, HO.out.2⟩
    | false =>
      have ha0 := box0 hA
      have ha1 := box1 hA
      have haz : ∀ i, w2.frozen? ⟨w.heap.size + 2, i, none⟩ = false := boxz hA
      have hl8 := box_lt hA
      have r := box_two (.slice none 0 0) (.slice none 0 0) ha0 ha1
      have hbb := (hW.setCell (p := ⟨w.heap.size + 2, 0, none⟩) (by simp) (.slice none 0 0)).setCell (p := ⟨w.heap.size + 2, 1, none⟩) (by simp) (.slice none 0 0)
      go_wp2
      refine bodyPost_ret (v := .tuple #[.agg #[.slice none 0 0, .slice none 0 0], .bool false]) (by simp [results, Try.results42, go_sem, r.1, r.2]) rfl ?_
      exact ⟨_, _, by rw [HF.out.1]; rfl, by rw [HF.out.2]; exact oa_nil _ _, hbb⟩
set_option maxRecDepth 100000 in
set_option maxHeartbeats 3200000 in
theorem weakerS_any {S1 S2 S3 S4 : Nat → Prop} (v1 v2 u1 u2 : Value) (a b : Asn) (w : World) (h1 : RL w S1 v1 a.1) (h2 : RL w S2 v2 a.2) (k1 : RL w S3 u1 b.1) (k2 : RL w S4 u2 b.2) :
    Calls Try.prog 43 #[.agg #[v1, v2], .agg #[u1, u2]] w fun e w' => ∃ x1 x2, e = .returned (.tuple #[.agg #[x1, x2], .bool (weakOk a b)]) ∧ (RL w' (fun k => w.heap.size ≤ k) x1 (weakR a b).1 ∧ RL w' (fun k => w.heap.size ≤ k) x2 (weakR a b).2) ∧ Below w.heap.size w w' := by
  obtain ⟨p1, c1, rfl⟩ := h1.form
  obtain ⟨p2, c2, rfl⟩ := h2.form
  obtain ⟨p3, c3, rfl⟩ := k1.form
  obtain ⟨p4, c4, rfl⟩ := k2.form
  obtain ⟨w0, hw0⟩ : ∃ w0, w0 = (((w.alloc (.cells #[.slice p1 a.1.length c1, .slice p2 a.2.length c2] 33)).alloc (.cells #[.slice p3 b.1.length c3, .slice p4 b.2.length c4] 33)).alloc (.cells #[.slice none 0 0, .slice none 0 0] 33)) := ⟨_, rfl⟩
  have hc0 : w0.cell? ⟨w.heap.size, 0, none⟩ = some (.slice p1 a.1.length c1) := by rw [hw0]; simp [go_sem]
  have hc1 : w0.cell? ⟨w.heap.size, 1, none⟩ = some (.slice p2 a.2.length c2) := by rw [hw0]; simp [go_sem]
  have hd0 : w0.cell? ⟨w.heap.size + 1, 0, none⟩ = some (.slice p3 b.1.length c3) := by rw [hw0]; simp [go_sem]
  have hd1 : w0.cell? ⟨w.heap.size + 1, 1, none⟩ = some (.slice p4 b.2.length c4) := by rw [hw0]; simp [go_sem]
  have hA : w0.heap[w.heap.size + 2]? = some (.cells #[.slice none 0 0, .slice none 0 0] 33 (0, 0)) := by
    rw [hw0]
    have := heap_alloc_new ((w.alloc (.cells #[.slice p1 a.1.length c1, .slice p2 a.2.length c2] 33)).alloc (.cells #[.slice p3 b.1.length c3, .slice p4 b.2.length c4] 33)) (.cells #[.slice none 0 0, .slice none 0 0] 33)
    simpa using this
  have hz : w0.heap.size = w.heap.size + 3 := by rw [hw0]; simp
  have hW : Below w.heap.size w w0 := by rw [hw0]; exact ba (ba (below_alloc _ _) _) _
  have q1 := h1.keep hW
  have q2 := h2.keep hW
  have q3 := k1.keep hW
  have q4 := k2.keep hW
  have HZ := Lib.hid (And.intro hz hw0)
  clear h1 h2 k1 k2 hz hw0
  obtain ⟨e1, he1⟩ : ∃ x, entB a b = x := ⟨_, rfl⟩
  obtain ⟨e2, he2⟩ : ∃ x, entB b a = x := ⟨_, rfl⟩
  have hok : weakOk a b = (e1 || e2) := by rw [weakOk, he1, he2]
  have hR : weakR a b = if e1 = true then b else if e2 = true then a else ([], []) := by rw [weakR, he1, he2]
  have hs1 : e1 = true → asSz b := fun h => asn_sz (ent_right (he1.trans h))
  have hs2 : e2 = true → asSz a := fun h => asn_sz (ent_right (he2.trans h))
  have HE1 := Lib.hid he1
  have HE2 := Lib.hid he2
  have HF := Lib.hid (And.intro hok hR)
  have HS1 := Lib.hid hs1
  have HS2 := Lib.hid hs2
  clear he1 he2 hok hR hs1 hs2
  go_enter Try.func43, Try.ntmps43
  go_wp2_with fail
  rw [← HZ.out.2]
  refine (cb (entailsS_any _ _ _ _ a b _ q1 q2 q3 q4) HE1.out).mono ?_
  rintro e w1 ⟨rfl, hb⟩
  have hlt := HZ.out.1
  have hsz1 := hb.size
  replace hc0 := cell_keep hb hc0
  replace hc1 := cell_keep hb hc1
  replace hd0 := cell_keep hb hd0
  replace hd1 := cell_keep hb hd1
  replace hA := box_keep hA hb
  replace q1 := q1.keep hb
  replace q2 := q2.keep hb
  replace q3 := q3.keep hb
  replace q4 := q4.keep hb
  replace hW := bt hW hb
  clear hb
  cases e1 with
  | true =>
    have hS := HS1.out rfl
    have HSz := Lib.hid hS
    clear hS
    go_wp2_with fail
    refine (l3Copy_any _ _ b _ q3 q4 HSz.out).mono ?_
    rintro e w8 ⟨x1, x2, rfl, rx1, rx2, hb8⟩
    obtain ⟨d1, m1, rfl⟩ := rx1.form
    obtain ⟨d2, m2, rfl⟩ := rx2.form
    have hA1 := box_keep hA hb8
    have ha0 := box0 hA1
    have ha1 := box1 hA1
    have haz : ∀ i, w8.frozen? ⟨w.heap.size + 2, i, none⟩ = false := boxz hA1
    have hl8 := box_lt hA1
    have r := box_two (.slice d1 b.1.length m1) (.slice d2 b.2.length m2) ha0 ha1
    have HO := Lib.hid (And.intro (And.intro ((rx1.set2 (R := w.heap.size + 2) (by omega) (.slice d1 b.1.length m1) (.slice d2 b.2.length m2)).more fun k _ h => (Nat.le_trans (by omega) h : w.heap.size ≤ k)) ((rx2.set2 (R := w.heap.size + 2) (by omega) (.slice d1 b.1.length m1) (.slice d2 b.2.length m2)).more fun k _ h => (Nat.le_trans (by omega) h : w.heap.size ≤ k))) (((bt hW hb8).setCell (p := ⟨w.heap.size + 2, 0, none⟩) (by simp) (.slice d1 b.1.length m1)).setCell (p := ⟨w.heap.size + 2, 1, none⟩) (by simp) (.slice d2 b.2.length m2)))
    clear rx1 rx2 hA1
    go_wp2
    refine bodyPost_ret (v := .tuple #[.agg #[.slice d1 b.1.length m1, .slice d2 b.2.length m2], .bool true]) (by simp [results, Try.results43, go_sem, r.1, r.2]) rfl ?_
    exact ⟨_, _, by rw [HF.out.1]; rfl, by rw [HF.out.2]; exact HO.out.1, HO.out.2⟩
  | false =>
    go_wp2_with fail
    refine (cb (entailsS_any _ _ _ _ b a _ q3 q4 q1 q2) HE2.out).mono ?_
    rintro e w2 ⟨rfl, hb⟩
    have hsz2 := hb.size
    replace hc0 := cell_keep hb hc0
    replace hc1 := cell_keep hb hc1
    replace hA := box_keep hA hb
    replace q1 := q1.keep hb
    replace q2 := q2.keep hb
    replace hW := bt hW hb
    clear hb
    cases e2 with
    | true =>
      have hS := HS2.out rfl
      have HSz := Lib.hid hS
      clear hS
      go_wp2_with fail
      refine (l3Copy_any _ _ a _ q1 q2 HSz.out).mono ?_
      rintro e w8 ⟨x1, x2, rfl, rx1, rx2, hb8⟩
      obtain ⟨d1, m1, rfl⟩ := rx1.form
      obtain ⟨d2, m2, rfl⟩ := rx2.form
      have hA1 := box_keep hA hb8
      have ha0 := box0 hA1
      have ha1 := box1 hA1
      have haz : ∀ i, w8.frozen? ⟨w.heap.size + 2, i, none⟩ = false := boxz hA1
      have hl8 := box_lt hA1
      have r := box_two (.slice d1 a.1.length m1) (.slice d2 a.2.length m2) ha0 ha1
      have HO := Lib.hid (And.intro (And.intro ((rx1.set2 (R := w.heap.size + 2) (by omega) (.slice d1 a.1.length m1) (.slice d2 a.2.length m2)).more fun k _ h => (Nat.le_trans (by omega) h : w.heap.size ≤ k)) ((rx2.set2 (R := w.heap.size + 2) (by omega) (.slice d1 a.1.length m1) (.slice d2 a.2.length m2)).more fun k _ h => (Nat.le_trans (by omega) h : w.heap.size ≤ k))) (((bt hW hb8).setCell (p := ⟨w.heap.size + 2, 0, none⟩) (by simp) (.slice d1 a.1.length m1)).setCell (p := ⟨w.heap.size + 2, 1, none⟩) (by simp) (.slice d2 a.2.length m2)))
      clear rx1 rx2 hA1
      go_wp2
      refine bodyPost_ret (v := .tuple #[.agg #[.slice d1 a.1.length m1, .slice d2 a.2.length m2], .bool true]) (by simp [results, Try.results43, go_sem, r.1, r.2]) rfl ?_
      exact ⟨_, _, by rw [HF.out.1]; rfl, by rw [HF.out.2]; exact HO.out.1, HO.out.2⟩
    | false =>
      have ha0 := box0 hA
      have ha1 := box1 hA
      have haz : ∀ i, w2.frozen? ⟨w.heap.size + 2, i, none⟩ = false := boxz hA
      have hl8 := box_lt hA
      have r := box_two (.slice none 0 0) (.slice none 0 0) ha0 ha1
      have hbb := (hW.setCell (p := ⟨w.heap.size + 2, 0, none⟩) (by simp) (.slice none 0 0)).setCell (p := ⟨w.heap.size + 2, 1, none⟩) (by simp) (.slice none 0 0)
      go_wp2
      refine bodyPost_ret (v := .tuple #[.agg #[.slice none 0 0, .slice none 0 0], .bool false]) (by simp [results, Try.results43, go_sem, r.1, r.2]) rfl ?_
      exact ⟨_, _, by rw [HF.out.1]; rfl, by rw [HF.out.2]; exact ⟨.inl ⟨_, _, rfl, rfl, by decide, by simp⟩, .inl ⟨_, _, rfl, rfl, by decide, by simp⟩⟩, hbb⟩
theorem weak_size {a b : Asn} (ha : Mk.size a ≤ 1048576) (hb : Mk.size b ≤ 1048576) : Mk.size (weakR a b) ≤ 1048576 := by
  rw [weakR]; split
  · exact hb
  · split
    · exact ha
    · exact Nat.zero_le _
end Go.Proofs.Ytapoillhgimdiaa
