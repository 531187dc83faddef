/- Fam3: texts StarI, StarS, StarI2 in one. -/
import Derived.Test.YtapoillhgimdiaaTFam2
import Derived.Deep.RegionHeld3
/- Walks: the program's separating conjunction. -/
namespace Go.Proofs.Ytapoillhgimdiaa
open Go.RowKit

def starA (a b : Asn) : Asn := (a.1 ++ b.1, a.2 ++ b.2)
def starOk (a b : Asn) : Bool := asnB a && (asnB b && asnB (starA a b))
def starR (a b : Asn) : Asn := if starOk a b = true then starA a b else ([], [])
theorem asn_sz {a : Asn} (h : asnB a = true) : asSz a := by
  simp only [asnB, factsB, Bool.and_eq_true, decide_eq_true_eq] at h
  unfold asSz; omega
theorem oa_nil (w : World) (B : Nat) : OA w B (.slice none 0 0) (.slice none 0 0) (([], []) : Asn) := ⟨[], [], OL.nil _ _, OL.nil _ _, by simp⟩

theorem OL.set2 {α : Type} [Own α] [Tid α] {w : World} {B : Nat} {v : Value} {l : List α} {fp : List Nat} (h : OL w B v l fp) {t : Nat} (ht : ∀ k ∈ fp, ¬ k = t) (x y : Value) :
    OL ((w.setCell ⟨t, 0, none⟩ x).setCell ⟨t, 1, none⟩ y) B v l fp :=
  (h.okept (fr_set _ _ _) fun k hk e => ht k hk e).okept (fr_set _ _ _) fun k hk e => ht k hk e

/-- A struct of two owned lists lies in block t. -/
def Pack (w0 W : World) (t : Nat) (x y : Value) (a : Asn) : Prop :=
  (W.cell? ⟨t, 0, none⟩ = some x ∧ W.cell? ⟨t, 1, none⟩ = some y) ∧ (OA W w0.heap.size x y a ∧ (Below w0.heap.size w0 W ∧ (t < W.heap.size ∧ w0.heap.size ≤ t)))
theorem packA {w0 w5 w6 : World} {B1 B2 t : Nat} {x y u v : Value} {l1 : List Fact} {l2 : List Atom} {f1 f2 : List Nat} {T : TypeId} (o1 : OL w5 B1 x l1 f1) (n1 : f1.Nodup) (o2 : OL w6 B2 y l2 f2) (n2 : f2.Nodup) (hb : Below w5.heap.size w5 w6) (hb6 : Below w0.heap.size w0 w6)
    (h1 : w0.heap.size ≤ B1) (h2 : w5.heap.size ≤ B2) (hT : w6.heap[t]? = some (.cells #[u, v] T (0, 0))) (t1 : ∀ k ∈ f1, ¬ k = t) (t2 : ∀ k ∈ f2, ¬ k = t) (h0 : w0.heap.size ≤ t) (h5 : w0.heap.size ≤ w5.heap.size) :
    Pack w0 ((w6.setCell ⟨t, 0, none⟩ x).setCell ⟨t, 1, none⟩ y) t x y (l1, l2) := by
  have r := box_two x y (box0 hT) (box1 hT)
  have hl := box_lt hT
  refine ⟨r, ⟨f1, f2, ((o1.keep hb).set2 t1 x y).mono h1, (o2.set2 t2 x y).mono (by omega), List.nodup_append.2 ⟨n1, n2, fun p hp q hq e => ?_⟩⟩, (hb6.setCell h0 _).setCell h0 _, by simpa using hl, h0⟩
  have q1 := (o1.lt p hp).2
  have q2 := (o2.lt q hq).1
  omega
theorem packC {w0 w5 w6 : World} {B1 B2 : Nat} {x y : Value} {l1 : List Fact} {l2 : List Atom} {f1 f2 : List Nat} (T : TypeId) (o1 : OL w5 B1 x l1 f1) (n1 : f1.Nodup) (o2 : OL w6 B2 y l2 f2) (n2 : f2.Nodup) (hb : Below w5.heap.size w5 w6) (hb6 : Below w0.heap.size w0 w6)
    (h1 : w0.heap.size ≤ B1) (h2 : w5.heap.size ≤ B2) (h5 : w0.heap.size ≤ w5.heap.size) : Pack w0 (w6.alloc (.cells #[x, y] T)) w6.heap.size x y (l1, l2) := by
  have hz := hb6.size
  refine ⟨⟨by simp, by simp⟩, ⟨f1, f2, ((o1.keep hb).keep (below_alloc _ _)).mono h1, (o2.keep (below_alloc _ _)).mono (by omega), List.nodup_append.2 ⟨n1, n2, fun p hp q hq e => ?_⟩⟩, ba hb6 _, by simp, hz⟩
  have q1 := (o1.lt p hp).2
  have q2 := (o2.lt q hq).1
  omega

set_option maxRecDepth 100000 in
set_option maxHeartbeats 3200000 in
theorem starAssertionsI_any {S1 S2 S3 S4 : Nat → Prop} (v1 v2 u1 u2 : Value) (a b : Asn) (w : World) (h1 : RL w S1 v1 a.1) (h2 : RL w S2 v2 a.2) (k1 : RL w S3 u1 b.1) (k2 : RL w S4 u2 b.2) :
    Calls Try.prog 155 #[.agg #[v1, v2], .agg #[u1, u2]] w fun e w' => ∃ x1 x2, e = .returned (.tuple #[.agg #[x1, x2], .bool (starOk a b)]) ∧ OA w' w.heap.size x1 x2 (starR a b) ∧ Below w.heap.size w w' := by
  obtain ⟨p1, c1, rfl⟩ := h1.form
  obtain ⟨p2, c2, rfl⟩ := h2.form
  obtain ⟨p3, c3, rfl⟩ := k1.form
  obtain ⟨p4, c4, rfl⟩ := k2.form
  obtain ⟨w0, hw0⟩ : ∃ w0, w0 = (((w.alloc (.cells #[.slice p1 a.1.length c1, .slice p2 a.2.length c2] 33)).alloc (.cells #[.slice p3 b.1.length c3, .slice p4 b.2.length c4] 33)).alloc (.cells #[.slice none 0 0, .slice none 0 0] 33)) := ⟨_, rfl⟩
  have hc0 : w0.cell? ⟨w.heap.size, 0, none⟩ = some (.slice p1 a.1.length c1) := by rw [hw0]; simp [go_sem]
  have hc1 : w0.cell? ⟨w.heap.size, 1, none⟩ = some (.slice p2 a.2.length c2) := by rw [hw0]; simp [go_sem]
  have hd0 : w0.cell? ⟨w.heap.size + 1, 0, none⟩ = some (.slice p3 b.1.length c3) := by rw [hw0]; simp [go_sem]
  have hd1 : w0.cell? ⟨w.heap.size + 1, 1, none⟩ = some (.slice p4 b.2.length c4) := by rw [hw0]; simp [go_sem]
  have hA : w0.heap[w.heap.size + 2]? = some (.cells #[.slice none 0 0, .slice none 0 0] 33 (0, 0)) := by
    rw [hw0]
    have := heap_alloc_new ((w.alloc (.cells #[.slice p1 a.1.length c1, .slice p2 a.2.length c2] 33)).alloc (.cells #[.slice p3 b.1.length c3, .slice p4 b.2.length c4] 33)) (.cells #[.slice none 0 0, .slice none 0 0] 33)
    simpa using this
  have hz : w0.heap.size = w.heap.size + 3 := by rw [hw0]; simp
  have hW : Below w.heap.size w w0 := by rw [hw0]; exact ba (ba (below_alloc _ _) _) _
  have q1 := h1.keep hW
  have q2 := h2.keep hW
  have q3 := k1.keep hW
  have q4 := k2.keep hW
  have HZ := Lib.hid (And.intro hz hw0)
  clear h1 h2 k1 k2 hz hw0
  cases ha : asnB a
  · have hf : starOk a b = false := by simp [starOk, ha]
    have hL : starR a b = ([], []) := by simp [starR, hf]
    have HF := Lib.hid (And.intro hf (And.intro hL ha))
    clear hf hL ha
    go_enter Try.func155, Try.ntmps155
    go_wp2_with fail
    rw [← HZ.out.2]
    refine (cb (asnValidI_any _ _ a _ q1 q2) HF.out.2.2).mono ?_
    rintro e w1 ⟨rfl, hb⟩
    have hA1 := box_keep hA hb
    have ha0 := box0 hA1
    have ha1 := box1 hA1
    have haz : ∀ i, w1.frozen? ⟨w.heap.size + 2, i, none⟩ = false := boxz hA1
    have r := box_two (.slice none 0 0) (.slice none 0 0) ha0 ha1
    have hbb := ((bt hW hb).setCell (p := ⟨w.heap.size + 2, 0, none⟩) (by simp) (.slice none 0 0)).setCell (p := ⟨w.heap.size + 2, 1, none⟩) (by simp) (.slice none 0 0)
    go_wp2
    refine bodyPost_ret (v := .tuple #[.agg #[.slice none 0 0, .slice none 0 0], .bool false]) (by simp [results, Try.results155, go_sem, r.1, r.2]) rfl ?_
    exact ⟨_, _, by rw [HF.out.1], by rw [HF.out.2.1]; exact oa_nil _ _, hbb⟩
  have HVA := Lib.hid ha
  cases hb : asnB b
  · have hf : starOk a b = false := by simp [starOk, hb]
    have hL : starR a b = ([], []) := by simp [starR, hf]
    have HF := Lib.hid (And.intro hf (And.intro hL hb))
    clear hf hL ha hb
    go_enter Try.func155, Try.ntmps155
    go_wp2_with fail
    rw [← HZ.out.2]
    refine (cb (asnValidI_any _ _ a _ q1 q2) HVA.out).mono ?_
    rintro e w1 ⟨rfl, hb1⟩
    replace hd0 := cell_keep hb1 hd0
    replace hd1 := cell_keep hb1 hd1
    have hz1 := World.block_lt_of_cell? w1 _ hd0
    simp only at hz1
    go_wp2_with fail
    refine (cb (asnValidI_any _ _ b _ (q3.keep hb1) (q4.keep hb1)) HF.out.2.2).mono ?_
    rintro e w2 ⟨rfl, hb2⟩
    have hb := bt hb1 hb2
    have hA1 := box_keep hA hb
    have ha0 := box0 hA1
    have ha1 := box1 hA1
    have haz : ∀ i, w2.frozen? ⟨w.heap.size + 2, i, none⟩ = false := boxz hA1
    have r := box_two (.slice none 0 0) (.slice none 0 0) ha0 ha1
    have hbb := ((bt hW hb).setCell (p := ⟨w.heap.size + 2, 0, none⟩) (by simp) (.slice none 0 0)).setCell (p := ⟨w.heap.size + 2, 1, none⟩) (by simp) (.slice none 0 0)
    go_wp2
    refine bodyPost_ret (v := .tuple #[.agg #[.slice none 0 0, .slice none 0 0], .bool false]) (by simp [results, Try.results155, go_sem, r.1, r.2]) rfl ?_
    exact ⟨_, _, by rw [HF.out.1], by rw [HF.out.2.1]; exact oa_nil _ _, hbb⟩
  have hsa := asn_sz ha
  have hsb := asn_sz hb
  have HVB := Lib.hid hb
  clear ha hb
  have HSZ := Lib.hid (And.intro hsa hsb)
  clear hsa hsb
  go_enter Try.func155, Try.ntmps155
  go_wp2_with fail
  rw [← HZ.out.2]
  refine (cb (asnValidI_any _ _ a _ q1 q2) HVA.out).mono ?_
  rintro e w1 ⟨rfl, hb1⟩
  replace hd0 := cell_keep hb1 hd0
  replace hd1 := cell_keep hb1 hd1
  have hz1 := World.block_lt_of_cell? w1 _ hd0
  simp only at hz1
  go_wp2_with fail
  refine (cb (asnValidI_any _ _ b _ (q3.keep hb1) (q4.keep hb1)) HVB.out).mono ?_
  rintro e w2 ⟨rfl, hb2⟩
  have hb := bt hb1 hb2
  replace hc0 := cell_keep hb hc0
  replace hc1 := cell_keep hb hc1
  replace hd0 := cell_keep hb2 hd0
  replace hd1 := cell_keep hb2 hd1
  replace hA := box_keep hA hb
  replace q1 := q1.keep hb
  replace q2 := q2.keep hb
  replace q3 := q3.keep hb
  replace q4 := q4.keep hb
  replace hW := bt hW hb
  have hzA := box_lt hA
  have HA := Lib.hid hA
  clear hA hb1 hb2 hb
  go_wp2_with fail
  go_region_held3 (fun w' => (w'.cell? ⟨w.heap.size, 0, none⟩ = some (.slice p1 a.1.length c1) ∧ w'.cell? ⟨w.heap.size, 1, none⟩ = some (.slice p2 a.2.length c2)) ∧ (w'.cell? ⟨w.heap.size + 1, 0, none⟩ = some (.slice p3 b.1.length c3) ∧ w'.cell? ⟨w.heap.size + 1, 1, none⟩ = some (.slice p4 b.2.length c4)))
    (exact ⟨⟨(by repeat (first | with_reducible exact hc0 | (with_reducible refine (fr_set _ _ _).cell (by first | (simp; done) | (simp; omega) | omega) ?_) | exact cell_keep Bl hc0)), (by repeat (first | with_reducible exact hc1 | (with_reducible refine (fr_set _ _ _).cell (by first | (simp; done) | (simp; omega) | omega) ?_) | exact cell_keep Bl hc1))⟩, ⟨(by repeat (first | with_reducible exact hd0 | (with_reducible refine (fr_set _ _ _).cell (by first | (simp; done) | (simp; omega) | omega) ?_) | exact cell_keep Bl hd0)), (by repeat (first | with_reducible exact hd1 | (with_reducible refine (fr_set _ _ _).cell (by first | (simp; done) | (simp; omega) | omega) ?_) | exact cell_keep Bl hd1))⟩⟩)
    (first
      | (go_at_call 198; go_must (refine (joinFacts_any _ _ a.1 b.1 _ (q1.keep Bl) (q3.keep Bl) (by have := HSZ.out.1.1; have := HSZ.out.2.1; omega)).mono ?_; rintro e w5 ⟨x1, rfl, ⟨f1, o1, n1⟩, hb5'⟩; obtain ⟨d1, m1, k1, rfl⟩ := o1.read.forms; have hb5 : Below w2.heap.size w2 w5 := bt Bl hb5'; have hz5 := hb5.size; (first | have hT5 : w5.heap[w2.heap.size]? = some (.cells #[.slice none 0 0, .slice none 0 0] 33 (0, 0)) := box_keep (heap_alloc_new w2 (.cells #[.slice none 0 0, .slice none 0 0] 33)) hb5' | have hT5 : w5.heap[w2.heap.size]? = some (.cells #[.slice none 0 0, .slice none 0 0] 33 (0, 0)) := box_keep (heap_alloc_new w2.drew (.cells #[.slice none 0 0, .slice none 0 0] 33)) hb5' | skip)))
      | (go_at_call 199; go_must (refine (joinAtoms_any _ _ a.2 b.2 _ (q2.keep Bl) (q4.keep Bl) (by have := HSZ.out.1.2; have := HSZ.out.2.2; omega)).mono ?_; rintro e w6 ⟨y1, rfl, ⟨f2, o2, n2⟩, hb6'⟩; obtain ⟨d2, m2, k2, rfl⟩ := o2.read.forms; have hb6 : Below w2.heap.size w2 w6 := bt Bl hb6'; have hb56 : Below w5.heap.size w5 w6 := bt Bl hb6'; (first | have hT6 := box_keep hT5 hb56 | have hT6 := box_keep (heap_alloc_new w5 (.cells #[.slice none 0 0, .slice none 0 0] 33)) hb6' | skip); (first | (have ht0 := box0 hT6; have ht1 := box1 hT6; have htz := boxz hT6; have htl := box_lt hT6) | skip))))
  all_goals
    first
      | (have _h := hT5
         clear _h
         have V := packA (t := w2.heap.size) o1 n1 o2 n2 hb56 hb6 (by simp) (by simp) hT6 (fun k hk => by have := (o1.lt k hk).1; simp at this; omega) (fun k hk => by have := (o2.lt k hk).1; have := box_lt hT5; omega) (Nat.le_refl _) hz5
         obtain ⟨W, hWd⟩ : ∃ W, W = (w6.setCell ⟨w2.heap.size, 0, none⟩ (.slice d1 m1 k1)).setCell ⟨w2.heap.size, 1, none⟩ (.slice d2 m2 k2) := ⟨_, rfl⟩
         rw [← hWd] at V ⊢
         clear hWd
         obtain ⟨t, ht⟩ : ∃ t, t = w2.heap.size := ⟨_, rfl⟩
         rw [← ht] at V ⊢
         have HP := Lib.hid V
         clear V o1 o2 n1 n2 hb5 hb5' hb6 hb6' hb56 hz5 hT6 ht0 ht1 htz htl hT5 ht)
      | (have _h := hT6
         clear _h
         have V := packA (t := w5.heap.size) o1 n1 o2 n2 hb56 hb6 (by simp) (by simp) hT6 (fun k hk => by have := (o1.lt k hk).2; omega) (fun k hk => by have := (o2.lt k hk).1; simp at this; omega) hz5 hz5
         generalize (w6.setCell ⟨w5.heap.size, 0, none⟩ (.slice d1 m1 k1)).setCell ⟨w5.heap.size, 1, none⟩ (.slice d2 m2 k2) = W at *
         generalize w5.heap.size = t at *
         have HP := Lib.hid V
         clear V o1 o2 n1 n2 hb5 hb5' hb6 hb6' hb56 hz5 hT6 ht0 ht1 htz htl)
      | (have V := packC 33 o1 n1 o2 n2 hb56 hb6 (by simp) (by simp) hz5
         generalize w6.alloc (.cells #[.slice d1 m1 k1, .slice d2 m2 k2] 33) = W at *
         generalize w6.heap.size = t at *
         have HP := Lib.hid V
         clear V o1 o2 n1 n2 hb5 hb5' hb6 hb6' hb56 hz5)
    obtain ⟨⟨hx0, hx1⟩, hOA, hbW, htW, _⟩ := HP.out
    have hzW := hbW.size
    have HOA := Lib.hid hOA
    have HAW := Lib.hid (box_keep HA.out hbW)
    have rx1 := hOA.one
    have rx2 := hOA.two
    clear hOA
    cases hv : asnB (starA a b)
    · have hf : starOk a b = false := by simp [starOk, HVA.out, HVB.out, hv]
      have hL : starR a b = ([], []) := by simp [starR, hf]
      have HF := Lib.hid (And.intro hf (And.intro hL hv))
      clear hf hL hv
      go_wp2_with fail
      refine (cb (asnValidI_any _ _ (starA a b) _ rx1 rx2) HF.out.2.2).mono ?_
      rintro e w8 ⟨rfl, hb8⟩
      have hA1 := box_keep HAW.out hb8
      have ha0 := box0 hA1
      have ha1 := box1 hA1
      have haz : ∀ i, w8.frozen? ⟨w.heap.size + 2, i, none⟩ = false := boxz hA1
      have hl8 := box_lt hA1
      have r := box_two (.slice none 0 0) (.slice none 0 0) ha0 ha1
      have hbb := ((bt (bt hW hbW) hb8).setCell (p := ⟨w.heap.size + 2, 0, none⟩) (by simp) (.slice none 0 0)).setCell (p := ⟨w.heap.size + 2, 1, none⟩) (by simp) (.slice none 0 0)
      clear rx1 rx2 hA1
      go_wp2
      refine bodyPost_ret (v := .tuple #[.agg #[.slice none 0 0, .slice none 0 0], .bool false]) (by simp [results, Try.results155, go_sem, r.1, r.2]) rfl ?_
      exact ⟨_, _, by rw [HF.out.1], by rw [HF.out.2.1]; exact oa_nil _ _, hbb⟩
    · have hf : starOk a b = true := by simp [starOk, HVA.out, HVB.out, hv]
      have hL : starR a b = starA a b := by simp [starR, hf]
      have HF := Lib.hid (And.intro hf (And.intro hL hv))
      clear hf hL hv
      go_wp2_with fail
      refine (cb (asnValidI_any _ _ (starA a b) _ rx1 rx2) HF.out.2.2).mono ?_
      rintro e w8 ⟨rfl, hb8⟩
      have hA1 := box_keep HAW.out hb8
      have ha0 := box0 hA1
      have ha1 := box1 hA1
      have haz : ∀ i, w8.frozen? ⟨w.heap.size + 2, i, none⟩ = false := boxz hA1
      have hl8 := box_lt hA1
      have hz8 := hb8.size
      have ht8 : t < w8.heap.size := by omega
      replace hx0 := cell_keep hb8 hx0
      replace hx1 := cell_keep hb8 hx1
      have r := box_two (.slice d1 m1 k1) (.slice d2 m2 k2) ha0 ha1
      have HO := Lib.hid ((HOA.out.keep hb8).res (w := w) (R := w.heap.size + 2) hzA (by omega) (bt (bt hW hbW) hb8) (.slice d1 m1 k1) (.slice d2 m2 k2))
      clear rx1 rx2 hA1
      go_wp2
      refine bodyPost_ret (v := .tuple #[.agg #[.slice d1 m1 k1, .slice d2 m2 k2], .bool true]) (by simp [results, Try.results155, go_sem, r.1, r.2]) rfl ?_
      exact ⟨_, _, by rw [HF.out.1], by rw [HF.out.2.1]; exact HO.out.1, HO.out.2⟩
end Go.Proofs.Ytapoillhgimdiaa
/- Walks: the products of two families, in the reference. -/
namespace Go.Proofs.Ytapoillhgimdiaa
open Go.RowKit

/-- The products of two families, in their order; those of the first i, and of the next with the first k. -/
def prodL (a b : List Asn) : List Asn := a.flatMap fun x => b.map (starA x)
def prodOk (a b : List Asn) : Bool := famB a && (famB b && famB (prodL a b))
def prodR (a b : List Asn) : List Asn := if prodOk a b = true then prodL a b else []
theorem prodL_len (a b : List Asn) : (prodL a b).length = a.length * b.length := by
  induction a with
  | nil => simp [prodL]
  | cons x a ih =>
    have : prodL (x :: a) b = b.map (starA x) ++ prodL a b := rfl
    rw [this, List.length_append, ih, List.length_map, List.length_cons, Nat.succ_mul]; omega
def prodTo (a b : List Asn) (i k : Nat) : List Asn := prodL (a.take i) b ++ (b.take k).map (starA (gd a i))
theorem prodTo_zero (a b : List Asn) : prodTo a b 0 0 = [] := by simp [prodTo, prodL]
theorem prodTo_succ {a b : List Asn} {i k : Nat} (hk : k < b.length) : prodTo a b i (k + 1) = prodTo a b i k ++ [starA (gd a i) (gd b k)] := by
  rw [prodTo, prodTo, take_gd hk, List.map_append, ← List.append_assoc]; rfl
theorem prodTo_row {a b : List Asn} {i : Nat} (hi : i < a.length) : prodTo a b i b.length = prodTo a b (i + 1) 0 := by
  rw [prodTo, prodTo, List.take_length, List.take_zero, List.map_nil, List.append_nil, take_gd hi]
  simp [prodL]
theorem prodTo_all (a b : List Asn) : prodTo a b a.length 0 = prodL a b := by
  rw [prodTo, List.take_length, List.take_zero, List.map_nil, List.append_nil]
theorem prodTo_len {a b : List Asn} (ha : a.length ≤ 12) (hb : b.length ≤ 12) (i k : Nat) : (prodTo a b i k).length ≤ 156 := by
  rw [prodTo, List.length_append, prodL_len, List.length_map, List.length_take, List.length_take]
  have : min i a.length * b.length ≤ 12 * 12 := Nat.mul_le_mul (by omega) hb
  omega

set_option maxRecDepth 100000 in
set_option maxHeartbeats 6400000 in
theorem familyStarS_any {S1 S2 : Nat → Prop} (v1 v2 : Value) (a b : List Asn) (w : World) (h1 : RL w S1 v1 a) (h2 : RL w S2 v2 b) :
    Calls Try.prog 71 #[v1, v2] w fun e w' => ∃ v, e = .returned (.tuple #[v, .bool (prodOk a b)]) ∧ RL w' (fun _ => True) v (prodR a b) ∧ Below w.heap.size w w' := by
  have hm1 := h1.len
  have hm2 := h2.len
  obtain ⟨p1, c1, rfl, _, _, hf1⟩ := h1.asnAt
  obtain ⟨p2, c2, rfl, _, _, hf2⟩ := h2.asnAt
  have F1 := Lib.hid hf1
  have F2 := Lib.hid hf2
  clear hf1 hf2
  cases ha : famB a
  · have hf : prodOk a b = false := by simp [prodOk, ha]
    have hL : prodR a b = [] := by simp [prodR, hf]
    have HF := Lib.hid (And.intro hf (And.intro hL ha))
    clear hf hL ha
    go_enter Try.func71, Try.ntmps71
    go_wp2_with fail
    refine (cb (famValidS_any _ a _ (h1.alloc _)) HF.out.2.2).mono ?_
    rintro e w1 ⟨rfl, hb1⟩
    go_wp2
    go_ret2
    exact ⟨_, by rw [HF.out.1]; rfl, by rw [HF.out.2.1]; exact .inl ⟨_, _, rfl, rfl, by decide, by simp⟩, bt (below_alloc _ _) hb1⟩
  cases hb : famB b
  · have hf : prodOk a b = false := by simp [prodOk, hb]
    have hL : prodR a b = [] := by simp [prodR, hf]
    have HF := Lib.hid (And.intro hf (And.intro hL (And.intro ha hb)))
    clear hf hL ha hb
    go_enter Try.func71, Try.ntmps71
    go_wp2_with fail
    refine (cb (famValidS_any _ a _ (h1.alloc _)) HF.out.2.2.1).mono ?_
    rintro e w1 ⟨rfl, hb1⟩
    go_wp2_with fail
    refine (cb (famValidS_any _ b _ (h2.keep (bt (below_alloc _ _) hb1))) HF.out.2.2.2).mono ?_
    rintro e w2 ⟨rfl, hb2⟩
    go_wp2
    go_ret2
    exact ⟨_, by rw [HF.out.1]; rfl, by rw [HF.out.2.1]; exact .inl ⟨_, _, rfl, rfl, by decide, by simp⟩, bt (bt (below_alloc _ _) hb1) hb2⟩
  have hla := fam_len ha
  have hlb := fam_len hb
  have HV := Lib.hid (And.intro ha hb)
  have HZ := Lib.hid (And.intro (fmSz_of ha) (fmSz_of hb))
  clear ha hb
  go_enter Try.func71, Try.ntmps71
  go_wp2_with fail
  refine (cb (famValidS_any _ a _ (h1.alloc _)) HV.out.1).mono ?_
  rintro e w1 ⟨rfl, hb1⟩
  go_wp2_with fail
  refine (cb (famValidS_any _ b _ (h2.keep (bt (below_alloc _ _) hb1))) HV.out.2).mono ?_
  rintro e w2 ⟨rfl, hb2⟩
  have hW := bt (bt (below_alloc w (.cells #[] 33)) hb1) hb2
  have hE : TR w2 w.heap.size 33 (.slice (some ⟨w.heap.size, 0, none⟩) 0 0) (prodTo a b 0 0) := by
    rw [prodTo_zero]; exact TR.of (own_keep (own_emp w _ _ _ (Nat.le_refl _)) (bt hb1 hb2))
  clear hb1 hb2
  go_wp2
  go_loopg [6, 7, 8] a.length (fun q x i kk wr => ∃ k : Nat, k + q = a.length ∧ i = .int .i64 k ∧ TR wr w.heap.size 33 x (prodTo a b k 0) ∧ Below w.heap.size w wr)
  case atStart => exact ⟨0, by omega, rfl, hE, hW⟩
  case round =>
    clear hW hE
    obtain ⟨i, hi, rfl, hT, hW⟩ := hrel
    have HI := Lib.hid hi
    clear hi
    by_cases hi8 : i < a.length
    · have hii : (i : Int) < (a.length : Int) := by omega
      obtain ⟨gO, hgO⟩ : ∃ g, g = gk := ⟨_, rfl⟩
      have HGO := Lib.hid hgO
      clear hgO
      obtain ⟨wo, rfl⟩ : ∃ wo : World, wo = wr := ⟨_, rfl⟩
      obtain ⟨g1, o1, x1, x2, rfl, _, hg1, hp1, hp2, r1, r2⟩ := F1.out i hi8
      obtain ⟨xa1, xc1, rfl⟩ := r1.form
      obtain ⟨xa2, xc2, rfl⟩ := r2.form
      have hsa := HZ.out.1 _ (gd_mem hi8)
      go_wp2
      go_loopg [6, 8] b.length (fun q x kk wr => ∃ k : Nat, k + q = b.length ∧ kk = .int .i64 k ∧ TR wr w.heap.size 33 x (prodTo a b i k) ∧ Below w.heap.size w wr)
      case atStart => exact ⟨0, by omega, rfl, hT, hW⟩
      case round =>
        clear hT hW
        obtain ⟨k, hk, rfl, hT, hb⟩ := hrel
        have HK := Lib.hid hk
        clear hk
        by_cases hk8 : k < b.length
        · have hki : (k : Int) < (b.length : Int) := by omega
          obtain ⟨g2, o2, y1, y2, rfl, _, hg2, hq1, hq2, s1, s2⟩ := F2.out k hk8
          obtain ⟨ya1, yc1, rfl⟩ := s1.form
          obtain ⟨ya2, yc2, rfl⟩ := s2.form
          have hsb := HZ.out.2 _ (gd_mem hk8)
          have hpl := prodTo_len hla hlb i k
          have hs := hb.size
          have hc1 := cell_keep hb hp1
          have hc2 := cell_keep hb hp2
          have hd1 := cell_keep hb hq1
          have hd2 := cell_keep hb hq2
          have hzg1 : g1 < wr.heap.size := by omega
          have hzg2 : g2 < wr.heap.size := by omega
          have HT := Lib.hid hT
          have hvl := hT.lt
          have htk := prodTo_succ (a := a) (i := i) hk8
          have HTK := Lib.hid htk
          clear hT htk
          go_wp2_with fail
          go_region_held3 (fun w' => (w'.cell? ⟨g1, o1 + i * 2, none⟩ = some (.slice xa1 (gd a i).1.length xc1) ∧ w'.cell? ⟨g1, o1 + i * 2 + 1, none⟩ = some (.slice xa2 (gd a i).2.length xc2)) ∧ (w'.cell? ⟨g2, o2 + k * 2, none⟩ = some (.slice ya1 (gd b k).1.length yc1) ∧ w'.cell? ⟨g2, o2 + k * 2 + 1, none⟩ = some (.slice ya2 (gd b k).2.length yc2)))
            (first | exact ⟨⟨hc1', hc2'⟩, ⟨hd1', hd2'⟩⟩ | exact ⟨⟨(by repeat (first | with_reducible exact hc1 | (with_reducible refine (fr_set _ _ _).cell (by first | (simp; done) | (simp; omega) | omega) ?_) | exact cell_keep Bl hc1)), (by repeat (first | with_reducible exact hc2 | (with_reducible refine (fr_set _ _ _).cell (by first | (simp; done) | (simp; omega) | omega) ?_) | exact cell_keep Bl hc2))⟩, ⟨(by repeat (first | with_reducible exact hd1 | (with_reducible refine (fr_set _ _ _).cell (by first | (simp; done) | (simp; omega) | omega) ?_) | exact cell_keep Bl hd1)), (by repeat (first | with_reducible exact hd2 | (with_reducible refine (fr_set _ _ _).cell (by first | (simp; done) | (simp; omega) | omega) ?_) | exact cell_keep Bl hd2))⟩⟩)
            (first
              | (go_at_call 152; go_must (refine (l3Star_any _ _ _ _ (gd a i) (gd b k) _ (r1.keep (bt hb Bl)) (r2.keep (bt hb Bl)) (s1.keep (bt hb Bl)) (s2.keep (bt hb Bl)) hsa.1 hsa.2 hsb.1 hsb.2).mono ?_; rintro e w5 ⟨z1, z2, rfl, t1, t2, hb5'⟩; obtain ⟨za1, zn1, zc1, rfl⟩ := t1.forms; obtain ⟨za2, zn2, zc2, rfl⟩ := t2.forms; have hb5 : Below wr.heap.size wr w5 := bt Bl hb5'; have hz5 := hb5.size; obtain ⟨xs, hr, hx⟩ := (HT.out.keep hb5).keep (below_alloc w5 (.cells #[.slice za1 zn1 zc1, .slice za2 zn2 zc2] 33)); have t1' : RL w5 (fun k => wr.heap.size ≤ k) (.slice za1 zn1 zc1) ((gd a i).1 ++ (gd b k).1) := t1; have t2' : RL w5 (fun k => wr.heap.size ≤ k) (.slice za2 zn2 zc2) ((gd a i).2 ++ (gd b k).2) := t2; have HX := Lib.hid (And.intro (And.intro t1' t2') hx); clear hx t1 t2 t1' t2'))
              | (refine step_cells (n := (prodTo a b i k).length) (m := 1) (news := [.slice za1 zn1 zc1, .slice za2 zn2 zc2]) (by rfl) (.tmp 31) (.tmp 41) _ (by rfl) (B := w.heap.size) ti_asn (by rfl) hr (by rfl) (by rfl) (news2 _ _ _ _) (one2 _ _ _ _ _ _) (by omega) (by simp; omega) ?_; intro v' w7 hr7 hf7 hl7; have hbb := below_own hr hf7 (ba (bt hb hb5) _) (by simp; omega); have hc1' := cell_below hbb hg1 hp1; have hc2' := cell_below hbb hg1 hp2; have hd1' := cell_below hbb hg2 hq1; have hd2' := cell_below hbb hg2 hq2))
          all_goals
            have hTn := TR.app (m := [starA (gd a i) (gd b k)]) hr HX.out.2 hf7 hr7 hl7 (fun j hj => by
              obtain rfl : j = 0 := by simpa using hj
              refine rd_asn_mk ((HX.out.1.1.alloc _).more fun j _ hj => ⟨Nat.le_trans hs hj, fun he => ?_⟩) ((HX.out.1.2.alloc _).more fun j _ hj => ⟨Nat.le_trans hs hj, fun he => ?_⟩)
              · exact absurd (hvl j he) (Nat.not_lt.2 hj)
              · exact absurd (hvl j he) (Nat.not_lt.2 hj))
            rw [← HTK.out] at hTn
            have HTN := Lib.hid hTn
            clear hTn hr7 hf7 hl7 hr hb5 hb5' hz5 hc1' hc2' hd1' hd2'
            go_wp2
            go_roundg (gk - 1)
            case rel => exact ⟨k + 1, by have := HK.out; omega, by go_num, HTN.out, hbb⟩
            case measure => have := HK.out; omega
        · obtain rfl : k = b.length := by have := HK.out; omega
          have hrow := prodTo_row (b := b) hi8
          rw [hrow] at hT
          clear hrow
          go_wp2
          go_roundg (gO - 1)
          case rel => exact ⟨i + 1, by have := HI.out; have := HGO.out; omega, by go_num, hT, hb⟩
          case measure => have := HI.out; have := HGO.out; omega
    · obtain rfl : i = a.length := by have := HI.out; omega
      rw [prodTo_all] at hT
      have hrl := hT.rl.any
      obtain ⟨fa, fn, fc, rfl⟩ := hrl.forms
      cases hv : famB (prodL a b)
      · have hf : prodOk a b = false := by simp [prodOk, HV.out.1, HV.out.2, hv]
        have hL : prodR a b = [] := by simp [prodR, hf]
        have HF := Lib.hid (And.intro hf (And.intro hL hv))
        clear hf hL hv hT
        go_wp2_with fail
        refine (cb (famValidS_any _ (prodL a b) _ hrl) HF.out.2.2).mono ?_
        rintro e w8 ⟨rfl, hb8⟩
        go_wp2
        go_ret2
        exact ⟨_, by rw [HF.out.1]; rfl, by rw [HF.out.2.1]; exact .inl ⟨_, _, rfl, rfl, by decide, by simp⟩, ba (bt hW hb8) _⟩
      · have hf : prodOk a b = true := by simp [prodOk, HV.out.1, HV.out.2, hv]
        have hL : prodR a b = prodL a b := by simp [prodR, hf]
        have HF := Lib.hid (And.intro hf (And.intro hL hv))
        clear hf hL hv hT
        go_wp2_with fail
        refine (cb (famValidS_any _ (prodL a b) _ hrl) HF.out.2.2).mono ?_
        rintro e w8 ⟨rfl, hb8⟩
        go_wp2
        go_ret2
        exact ⟨_, by rw [HF.out.1]; rfl, by rw [HF.out.2.1]; exact hrl.keep hb8, bt hW hb8⟩
end Go.Proofs.Ytapoillhgimdiaa
/- Walks: the products of two families, in the program. -/
namespace Go.Proofs.Ytapoillhgimdiaa
open Go.RowKit

theorem mem_prodL {a b : List Asn} {x y : Asn} (hx : x ∈ a) (hy : y ∈ b) : starA x y ∈ prodL a b := List.mem_flatMap.2 ⟨x, hx, List.mem_map.2 ⟨y, hy, rfl⟩⟩
theorem prodOk_no {a b : List Asn} {x y : Asn} (hx : x ∈ a) (hy : y ∈ b) (h : asnB (starA x y) = false) : prodOk a b = false := by
  have : famB (prodL a b) = false := by
    unfold famB
    rw [Bool.and_eq_false_iff]
    right
    rw [List.all_eq_false]
    exact ⟨_, mem_prodL hx hy, by simp [h]⟩
  simp [prodOk, this]
theorem prodOk_big {a b : List Asn} (h : 12 < a.length * b.length) : prodOk a b = false := by
  have : famB (prodL a b) = false := by
    unfold famB
    rw [prodL_len]
    have : ¬ a.length * b.length ≤ 12 := by omega
    simp [this]
  simp [prodOk, this]
theorem prodOk_yes {a b : List Asn} (ha : famB a = true) (hb : famB b = true) (h : a.length * b.length ≤ 12) (hall : (prodL a b).all asnB = true) : prodOk a b = true := by
  have : famB (prodL a b) = true := by
    unfold famB
    rw [prodL_len, hall]
    simp [h]
  simp [prodOk, ha, hb, this]
theorem fam_mem {l : List Asn} (h : famB l = true) {a : Asn} (ha : a ∈ l) : asnB a = true := by
  simp only [famB, Bool.and_eq_true, List.all_eq_true] at h
  exact h.2 a ha

theorem news2g (w : World) (g : Nat) (x y : Value) (e : TypeId) (h : w.heap.size = g) : 0 < 1 → ∃ b o, some (⟨g, 0, none⟩ : Addr) = some ⟨b, o, none⟩ ∧ ∀ j u, [x, y][j]? = some u → (w.alloc (.cells #[x, y] e)).cell? ⟨b, o + j, none⟩ = some u := by
  subst h; exact news2 w x y e

set_option maxRecDepth 100000 in
set_option maxHeartbeats 6400000 in
theorem familyStarI_any {S1 S2 : Nat → Prop} (v1 v2 : Value) (a b : List Asn) (w : World) (h1 : RL w S1 v1 a) (h2 : RL w S2 v2 b) :
    Calls Try.prog 70 #[v1, v2] w fun e w' => ∃ v, e = .returned (.tuple #[v, .bool (prodOk a b)]) ∧ OO w' w.heap.size v (prodR a b) ∧ Below w.heap.size w w' := by
  have hm1 := h1.len
  have hm2 := h2.len
  obtain ⟨p1, c1, rfl, _, _, hf1⟩ := h1.asnAt
  obtain ⟨p2, c2, rfl, _, _, hf2⟩ := h2.asnAt
  have F1 := Lib.hid hf1
  have F2 := Lib.hid hf2
  clear hf1 hf2
  cases ha : famB a
  · have hf : prodOk a b = false := by simp [prodOk, ha]
    have hL : prodR a b = [] := by simp [prodR, hf]
    have HF := Lib.hid (And.intro hf (And.intro hL ha))
    clear hf hL ha
    go_enter Try.func70, Try.ntmps70
    go_wp2_with fail
    refine (cb (famValidI_any _ a _ h1) HF.out.2.2).mono ?_
    rintro e w1 ⟨rfl, hb1⟩
    go_wp2
    go_ret2
    exact ⟨_, by rw [HF.out.1]; rfl, by rw [HF.out.2.1]; exact ⟨[], OL.nil _ _, by simp⟩, hb1⟩
  cases hb : famB b
  · have hf : prodOk a b = false := by simp [prodOk, hb]
    have hL : prodR a b = [] := by simp [prodR, hf]
    have HF := Lib.hid (And.intro hf (And.intro hL (And.intro ha hb)))
    clear hf hL ha hb
    go_enter Try.func70, Try.ntmps70
    go_wp2_with fail
    refine (cb (famValidI_any _ a _ h1) HF.out.2.2.1).mono ?_
    rintro e w1 ⟨rfl, hb1⟩
    go_wp2_with fail
    refine (cb (famValidI_any _ b _ (h2.keep hb1)) HF.out.2.2.2).mono ?_
    rintro e w2 ⟨rfl, hb2⟩
    go_wp2
    go_ret2
    exact ⟨_, by rw [HF.out.1]; rfl, by rw [HF.out.2.1]; exact ⟨[], OL.nil _ _, by simp⟩, bt hb1 hb2⟩
  have hla := fam_len ha
  have hlb := fam_len hb
  have hpn : a.length * b.length ≤ 144 := Nat.mul_le_mul hla hlb
  have hpi : ((a.length * b.length : Nat) : Int) = (a.length : Int) * (b.length : Int) := Int.natCast_mul _ _
  have hpi0 : (0 : Int) ≤ (a.length : Int) * (b.length : Int) := by omega
  have hpi1 : (a.length : Int) * (b.length : Int) ≤ 144 := by omega
  by_cases hl : a.length * b.length ≤ 12
  rotate_left
  · have hf : prodOk a b = false := prodOk_big (by omega)
    have hL : prodR a b = [] := by simp [prodR, hf]
    have HF := Lib.hid (And.intro hf (And.intro hL (And.intro ha hb)))
    have hgt : (12 : Int) < (a.length : Int) * (b.length : Int) := by omega
    clear hf hL ha hb hl hpi hpn
    go_enter Try.func70, Try.ntmps70
    go_wp2_with fail
    refine (cb (famValidI_any _ a _ h1) HF.out.2.2.1).mono ?_
    rintro e w1 ⟨rfl, hb1⟩
    go_wp2_with fail
    refine (cb (famValidI_any _ b _ (h2.keep hb1)) HF.out.2.2.2).mono ?_
    rintro e w2 ⟨rfl, hb2⟩
    go_wp2
    go_ret2
    exact ⟨_, by rw [HF.out.1]; rfl, by rw [HF.out.2.1]; exact ⟨[], OL.nil _ _, by simp⟩, bt hb1 hb2⟩
  have HV := Lib.hid (And.intro ha (And.intro hb hl))
  have hgt : ¬ (12 : Int) < (a.length : Int) * (b.length : Int) := by omega
  clear ha hb hl hpi hpn
  go_enter Try.func70, Try.ntmps70
  go_wp2_with fail
  refine (cb (famValidI_any _ a _ h1) HV.out.1).mono ?_
  rintro e w1 ⟨rfl, hb1⟩
  go_wp2_with fail
  refine (cb (famValidI_any _ b _ (h2.keep hb1)) HV.out.2.1).mono ?_
  rintro e w2 ⟨rfl, hb2⟩
  have hW := bt hb1 hb2
  clear hb1 hb2
  go_wp2
  go_loopg [6, 31] a.length (fun q x i wr => ∃ k : Nat, k + q = a.length ∧ i = .int .i64 k ∧ PL wr w.heap.size x (prodTo a b k 0).length (prodTo a b k 0) (prodTo a b k 0).length ∧ (prodTo a b k 0).all asnB = true ∧ Below w.heap.size w wr)
  case atStart => exact ⟨0, by omega, rfl, by rw [prodTo_zero]; exact PL.nil _ _, by rw [prodTo_zero]; rfl, hW⟩
  case round =>
    clear hW
    obtain ⟨i, hi, rfl, hP, hall, hW⟩ := hrel
    have HI := Lib.hid hi
    clear hi
    by_cases hi8 : i < a.length
    · have hii : (i : Int) < (a.length : Int) := by omega
      obtain ⟨gO, hgO⟩ : ∃ g, g = gk := ⟨_, rfl⟩
      have HGO := Lib.hid hgO
      clear hgO
      obtain ⟨wo, rfl⟩ : ∃ wo : World, wo = wr := ⟨_, rfl⟩
      obtain ⟨g1, o1, x1, x2, rfl, _, hg1, hp1, hp2, r1, r2⟩ := F1.out i hi8
      obtain ⟨xa1, xc1, rfl⟩ := r1.form
      obtain ⟨xa2, xc2, rfl⟩ := r2.form
      replace hp1 := cell_keep hW hp1
      replace hp2 := cell_keep hW hp2
      have hso := hW.size
      have hzg1 : g1 < wo.heap.size := by omega
      have hmi := gd_mem hi8
      have HALL := Lib.hid hall
      clear hall
      go_wp2
      go_loopg [6, 37] b.length (fun q x kk wr => ∃ k : Nat, k + q = b.length ∧ kk = .int .i64 k ∧ PL wr w.heap.size x (prodTo a b i k).length (prodTo a b i k) (prodTo a b i k).length ∧ (prodTo a b i k).all asnB = true ∧ (wr.cell? ⟨wo.heap.size, 0, none⟩ = some (.slice xa1 (gd a i).1.length xc1) ∧ wr.cell? ⟨wo.heap.size, 1, none⟩ = some (.slice xa2 (gd a i).2.length xc2)) ∧ (∀ j, some j = x.ownBlock → ¬ j = wo.heap.size) ∧ Below w.heap.size w wr)
      case atStart =>
        refine ⟨0, by omega, rfl, hP.keep (below_alloc _ _), HALL.out, ⟨by simp, by simp⟩, fun j hj => ?_, ba hW _⟩
        have := (hP.lt j hj).2; omega
      case round =>
        clear hP hW
        obtain ⟨k, hk, rfl, hP, hall, ⟨hx0, hx1⟩, hne, hb⟩ := hrel
        have HK := Lib.hid hk
        have HALL2 := Lib.hid hall
        have HNE := Lib.hid hne
        clear hk hall hne
        have hzx := World.block_lt_of_cell? wr _ hx0
        simp only at hzx
        by_cases hk8 : k < b.length
        · have hki : (k : Int) < (b.length : Int) := by omega
          obtain ⟨g2, o2, y1, y2, rfl, _, hg2, hq1, hq2, s1, s2⟩ := F2.out k hk8
          obtain ⟨ya1, yc1, rfl⟩ := s1.form
          obtain ⟨ya2, yc2, rfl⟩ := s2.form
          replace hq1 := cell_keep hb hq1
          replace hq2 := cell_keep hb hq2
          have hs := hb.size
          have hzg2 : g2 < wr.heap.size := by omega
          have hmk := gd_mem hk8
          have hpl := prodTo_len hla hlb i k
          have htk := prodTo_succ (a := a) (i := i) hk8
          have HTK := Lib.hid htk
          have hva := fam_mem HV.out.1 hmi
          have hvb := fam_mem HV.out.2.1 hmk
          have HP := Lib.hid hP
          clear htk hP
          cases hv : asnB (starA (gd a i) (gd b k))
          · have hso : starOk (gd a i) (gd b k) = false := by simp [starOk, hva, hvb, hv]
            have hf : prodOk a b = false := prodOk_no hmi hmk hv
            have hL : prodR a b = [] := by simp [prodR, hf]
            have HF := Lib.hid (And.intro hf (And.intro hL hso))
            clear hf hL hso hv hva hvb
            go_wp2_with fail
            refine (starAssertionsI_any _ _ _ _ (gd a i) (gd b k) _ ((r1.keep hb).alloc _) ((r2.keep hb).alloc _) ((s1.keep hb).alloc _) ((s2.keep hb).alloc _)).mono ?_
            rw [HF.out.2.2]
            rintro e w5 ⟨z1, z2, rfl, hoa, hb5⟩
            obtain ⟨za1, zn1, zc1, rfl⟩ := hoa.one.forms
            obtain ⟨za2, zn2, zc2, rfl⟩ := hoa.two.forms
            clear hoa
            go_wp2
            go_ret2
            exact ⟨_, by rw [HF.out.1]; rfl, by rw [HF.out.2.1]; exact ⟨[], OL.nil _ _, by simp⟩, ba (bt (ba hb _) hb5) _⟩
          · have hso : starOk (gd a i) (gd b k) = true := by simp [starOk, hva, hvb, hv]
            have hsr : starR (gd a i) (gd b k) = starA (gd a i) (gd b k) := by simp [starR, hso]
            have hall2 : (prodTo a b i (k + 1)).all asnB = true := by rw [HTK.out, List.all_append, HALL2.out]; simp [hv]
            have HF := Lib.hid (And.intro hso (And.intro hsr hall2))
            clear hso hsr hall2 hv hva hvb
            go_wp2_with fail
            refine (starAssertionsI_any _ _ _ _ (gd a i) (gd b k) _ ((r1.keep hb).alloc _) ((r2.keep hb).alloc _) ((s1.keep hb).alloc _) ((s2.keep hb).alloc _)).mono ?_
            rw [HF.out.1, HF.out.2.1]
            rintro e w5 ⟨z1, z2, rfl, ⟨f1, f2, q1, q2, qn⟩, hb5⟩
            obtain ⟨za1, zn1, zc1, rfl⟩ := q1.read.forms
            obtain ⟨za2, zn2, zc2, rfl⟩ := q2.read.forms
            have hb5' := bt (below_alloc _ _) hb5
            have hbw := bt hb hb5'
            have hz5 := hb5'.size
            obtain ⟨xs, fps, hr, hfl, hnd, ho⟩ := HP.out
            have ho2 : Own.own ((w5.alloc (.cells #[.slice za1 zn1 zc1, .slice za2 zn2 zc2] 33)).alloc (.cells #[.slice za1 zn1 zc1, .slice za2 zn2 zc2] 33)) wr.heap.size (starA (gd a i) (gd b k)) [.slice za1 zn1 zc1, .slice za2 zn2 zc2] (f1 ++ f2) := ⟨[_], [_], f1, f2, rfl, rfl, ⟨_, rfl, ((q1.keep (below_alloc _ _)).keep (below_alloc _ _)).mono (by simp)⟩, ⟨_, rfl, ((q2.keep (below_alloc _ _)).keep (below_alloc _ _)).mono (by simp)⟩⟩
            have hown5 := own_keep (own_keep (own_keep hr hb5') (below_alloc w5 (.cells #[.slice za1 zn1 zc1, .slice za2 zn2 zc2] 33))) (below_alloc _ (.cells #[.slice za1 zn1 zc1, .slice za2 zn2 zc2] 33))
            have hx0' := cell_keep (ba (ba hb5' (.cells #[.slice za1 zn1 zc1, .slice za2 zn2 zc2] 33)) (.cells #[.slice za1 zn1 zc1, .slice za2 zn2 zc2] 33)) hx0
            have hx1' := cell_keep (ba (ba hb5' (.cells #[.slice za1 zn1 zc1, .slice za2 zn2 zc2] 33)) (.cells #[.slice za1 zn1 zc1, .slice za2 zn2 zc2] 33)) hx1
            have HO2 := Lib.hid (And.intro ho2 (And.intro qn (And.intro hb5' (And.intro hr (And.intro hfl (And.intro hnd ho))))))
            clear ho2 qn q1 q2 hb5 hr hfl hnd ho
            go_wp2_with (at_builtin; refine app_cells (n := (prodTo a b i k).length) (m := 1) (news := [.slice za1 zn1 zc1, .slice za2 zn2 zc2]) rfl (.tmp 49) (.tmp 51) _ rfl (B := w.heap.size) ti_asn rfl hown5 rfl rfl (news2g _ _ _ _ _ (by simp)) (one2 _ _ _ _ _ _) (by omega) (by simp; omega) ?_; intro v' w7 hr7 hf7 hl7)
            have hbb := below_own hown5 hf7 (ba (ba hbw _) _) (by simp; omega)
            have hPn := PL.app (m := [starA (gd a i) (gd b k)]) (fps2 := [f1 ++ f2]) HO2.out.2.2.2.1 HO2.out.2.2.2.2.1 HO2.out.2.2.2.2.2.1 HO2.out.2.2.2.2.2.2 (ba (ba HO2.out.2.2.1 _) _) (fun j hj => by
              obtain rfl : j = 0 := by simpa using hj
              exact HO2.out.1) rfl (by simpa using HO2.out.2.1) hs hf7 hr7 hl7
            rw [← HTK.out] at hPn
            have hy0 := hf7.cell (fun e => HNE.out _ e rfl) hx0'
            have hy1 := hf7.cell (fun e => HNE.out _ e rfl) hx1'
            have hne2 : ∀ j, some j = v'.ownBlock → ¬ j = wo.heap.size := fun j hj e => by
              rcases hl7 with h | h
              · exact HNE.out j (hj.trans h) e
              · rw [h] at hj
                injection hj with hj
                simp at hj
                omega
            have HN := Lib.hid (And.intro hPn (And.intro hy0 (And.intro hy1 hne2)))
            clear hPn hr7 hf7 hl7 hown5 hy0 hy1 hne2 hx0' hx1'
            go_wp2
            go_roundg (gk - 1)
            case rel => exact ⟨k + 1, by have := HK.out; omega, by go_num, HN.out.1, HF.out.2.2, ⟨HN.out.2.1, HN.out.2.2.1⟩, HN.out.2.2.2, hbb⟩
            case measure => have := HK.out; omega
        · obtain rfl : k = b.length := by have := HK.out; omega
          have hrow := prodTo_row (b := b) hi8
          have hall := HALL2.out
          rw [hrow] at hP hall
          have HR := Lib.hid hall
          clear hrow hall
          go_wp2
          go_roundg (gO - 1)
          case rel => exact ⟨i + 1, by have := HI.out; have := HGO.out; omega, by go_num, hP, HR.out, hb⟩
          case measure => have := HI.out; have := HGO.out; omega
    · obtain rfl : i = a.length := by have := HI.out; omega
      rw [prodTo_all] at hP hall
      have hf : prodOk a b = true := prodOk_yes HV.out.1 HV.out.2.1 HV.out.2.2 hall
      have hL : prodR a b = prodL a b := by simp [prodR, hf]
      have HF := Lib.hid (And.intro hf hL)
      clear hf hL hall
      go_wp2
      go_ret2
      exact ⟨_, by rw [HF.out.1]; rfl, by rw [HF.out.2]; exact hP.done, hW⟩
end Go.Proofs.Ytapoillhgimdiaa
