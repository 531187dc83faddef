/- Walks: AbstractAssertion, of the program and of the reference. -/
import Derived.Test.YtdjfdopgjlbloaaVAbsS
import Derived.Test.YtdjfdopgjlbloaaVAbsI
import Derived.Test.YtdjfdopgjlbloaaVData2
import Derived.Test.YtdjfdopgjlbloaaVBusy
import Derived.Deep.RegionHeld3
import Derived.Deep.Cut
import Derived.Handy
set_option linter.unusedVariables false
set_option linter.unusedSimpArgs false
namespace Go.Proofs.Ytdjfdopgjlbloaa
open Go.RowKit

def absOk (a : Asn) (l : List Int) : Bool := asnB a
def absR (a : Asn) (l : List Int) : Asn := if asnB a = true then absB (keepM l) a else ([], [])
theorem absN_valid {m : Nat} : ∀ {n : Nat} {a : Asn}, asnB a = true → asnB (absN m n a) = true := fun h => (ent_valid (abs_law h).1).2
theorem absB_valid {m : Nat} {a : Asn} (ha : asnB a = true) : asnB (absB m a) = true := absN_valid (tidyB_valid ha)
section
variable {w : World} {B : Nat} {v v1 v2 : Value} {l : List Fact} {m : List Atom}
theorem FE.olF (h : FE w B v l) (hz : NilE l v) : OL w B v l v.ownBlock.toList := by
  obtain ⟨xs, hr, hx⟩ := h
  rcases hr with ⟨h0, hx0, a, rfl⟩ | hr
  · have hl : l = [] := List.eq_nil_of_length_eq_zero h0
    subst hl
    rw [hz rfl]
    exact flat_OL own_cFact (xs := []) ⟨rfl, .inl ⟨rfl, rfl⟩⟩ fun i hi => absurd hi (by simp)
  · obtain rfl : xs = fcl l := fcl_of hr.1 hx
    exact flat_OL own_cFact hr fun _ hi => fcl_nth hi
theorem FE.olA (h : FE w B v m) (hz : NilE m v) : OL w B v m v.ownBlock.toList := by
  obtain ⟨xs, hr, hx⟩ := h
  rcases hr with ⟨h0, hx0, a, rfl⟩ | hr
  · have hl : m = [] := List.eq_nil_of_length_eq_zero h0
    subst hl
    rw [hz rfl]
    exact flat_OL own_cAtom (xs := []) ⟨rfl, .inl ⟨rfl, rfl⟩⟩ fun i hi => absurd hi (by simp)
  · obtain rfl : xs = acl m := acl_of hr.1 hx
    exact flat_OL own_cAtom hr fun _ hi => acl_nth hi
theorem FE.oa (h1 : FE w B v1 l) (h2 : FE w B v2 m) (z1 : NilE l v1) (z2 : NilE m v2) : OA w B v1 v2 (l, m) := by
  have o1 := h1.olF z1
  have o2 := h2.olA z2
  refine ⟨_, _, o1, o2, List.nodup_append.2 ⟨by cases v1.ownBlock <;> simp, by cases v2.ownBlock <;> simp, fun x hx y hy e => ?_⟩⟩
  subst e
  obtain ⟨xs, _, hr, _⟩ := o1
  obtain ⟨ys, _, hs, _⟩ := o2
  obtain ⟨_, cs, hc⟩ := row_tf hr x (mem_ownBlock.1 hx)
  obtain ⟨_, ds, hd⟩ := row_tf hs x (mem_ownBlock.1 hy)
  rw [hc] at hd
  injection hd with hd
  injection hd with _ h
  exact absurd h (by decide)
end
set_option maxRecDepth 100000 in
set_option maxHeartbeats 3200000 in
theorem abstractS_any {S1 S2 S3 : Nat → Prop} (v1 v2 kv : Value) (a : Asn) (l : List Int) (w : World) (h1 : RL w S1 v1 a.1) (h2 : RL w S2 v2 a.2) (h3 : RL w S3 kv l) :
    Calls Try.prog 7 #[.agg #[v1, v2], kv] w fun e w' => ∃ x1 x2, e = .returned (.tuple #[.agg #[x1, x2], .bool (absOk a l)]) ∧ (RL w' (fun k => w.heap.size ≤ k) x1 (absR a l).1 ∧ RL w' (fun k => w.heap.size ≤ k) x2 (absR a l).2) ∧ Below w.heap.size w w' := by
  obtain ⟨p1, c1, rfl⟩ := h1.form
  obtain ⟨p2, c2, rfl⟩ := h2.form
  have hk := h3.ints
  obtain ⟨kq, kc, rfl, _⟩ := hk.cells
  have hbA := box_keep (heap_alloc_new w (.cells #[.slice p1 a.1.length c1, .slice p2 a.2.length c2] 26)) (below_alloc _ (.cells #[.slice none 0 0, .slice none 0 0] 26))
  have hbR := heap_alloc_new (w.alloc (.cells #[.slice p1 a.1.length c1, .slice p2 a.2.length c2] 26)) (.cells #[.slice none 0 0, .slice none 0 0] 26)
  rw [World.size_alloc] at hbR
  have hB0 : Below w.heap.size w ((w.alloc (.cells #[.slice p1 a.1.length c1, .slice p2 a.2.length c2] 26)).alloc (.cells #[.slice none 0 0, .slice none 0 0] 26)) := Bl
  have H0 := Lib.hid (And.intro (And.intro hbA hbR) (And.intro hB0 (And.intro (h1.keep hB0) (And.intro (h2.keep hB0) (hk.keep hB0)))))
  clear hbA hbR hB0 h1 h2 h3 hk
  cases ha : asnB a with
  | false =>
    have HC := Lib.hid (And.intro ha (And.intro (show absOk a l = false from ha) (show absR a l = ([], []) by rw [absR, if_neg (by rw [ha]; decide)])))
    clear ha
    go_enter Try.func7, Try.ntmps7
    go_wp2_with fail
    refine (cb (asnValidS_any _ _ a _ H0.out.2.2.1 H0.out.2.2.2.1) HC.out.1).mono ?_
    rintro e w1 ⟨rfl, hb⟩
    have hR := box_keep H0.out.1.2 hb
    have r0 := box0 hR
    have r1 := box1 hR
    have rz := boxz hR
    have rl := box_lt hR
    have rr := box_two (.slice none 0 0) (.slice none 0 0) r0 r1
    have HE := Lib.hid (((bt H0.out.2.1 hb).setCell (p := ⟨w.heap.size + 1, 0, none⟩) (by simp) (.slice none 0 0)).setCell (p := ⟨w.heap.size + 1, 1, none⟩) (by simp) (.slice none 0 0))
    clear hb hR
    go_wp2
    refine bodyPost_ret (v := .tuple #[.agg #[.slice none 0 0, .slice none 0 0], .bool false]) (by simp [results, Try.results7, go_sem, rr.1, rr.2]) rfl ?_
    exact ⟨_, _, by rw [HC.out.2.1], by rw [HC.out.2.2]; exact ⟨RL.nil _ _, RL.nil _ _⟩, HE.out⟩
  | true =>
    have HC := Lib.hid (And.intro ha (And.intro (show absOk a l = true from ha) (show absR a l = absB (keepM l) a by rw [absR, if_pos ha])))
    clear ha
    go_enter Try.func7, Try.ntmps7
    go_wp2_with fail
    refine (cb (asnValidS_any _ _ a _ H0.out.2.2.1 H0.out.2.2.2.1) HC.out.1).mono ?_
    rintro e w1 ⟨rfl, hb⟩
    have hA := box_keep H0.out.1.1 hb
    have a0 := box0 hA
    have a1 := box1 hA
    have al := box_lt hA
    have H1 := Lib.hid (And.intro (box_keep H0.out.1.2 hb) (And.intro (bt H0.out.2.1 hb) (And.intro (H0.out.2.2.1.keep hb) (And.intro (H0.out.2.2.2.1.keep hb) (H0.out.2.2.2.2.keep hb)))))
    clear hA hb
    go_wp2_with fail
    refine (absS_any _ _ _ a l _ H1.out.2.2.1 H1.out.2.2.2.1 H1.out.2.2.2.2 HC.out.1).mono ?_
    rintro e w3 ⟨x1, x2, rfl, ⟨n1, n2⟩, hb3⟩
    obtain ⟨f1, m1, rfl⟩ := n1.form
    obtain ⟨f2, m2, rfl⟩ := n2.form
    have hR := box_keep H1.out.1 hb3
    have r0 := box0 hR
    have r1 := box1 hR
    have rz := boxz hR
    have rl := box_lt hR
    have rr := box_two (.slice f1 (absB (keepM l) a).1.length m1) (.slice f2 (absB (keepM l) a).2.length m2) r0 r1
    have hs6 := fr_twoR w3 (w.heap.size + 1) (.slice f1 (absB (keepM l) a).1.length m1) (.slice f2 (absB (keepM l) a).2.length m2)
    have hlo := box_lt H1.out.1
    have far : ∀ k, k < w3.heap.size → (fun k => w1.heap.size ≤ k) k → ¬ (fun j => j = w.heap.size + 1) k := fun k _ h e => by
      have h2 : w1.heap.size ≤ k := h
      have e2 : k = w.heap.size + 1 := e
      omega
    have HE := Lib.hid (And.intro (And.intro ((n1.kept hs6 far).more fun k _ h => (show w.heap.size ≤ k from Nat.le_trans (by omega) h)) ((n2.kept hs6 far).more fun k _ h => (show w.heap.size ≤ k from Nat.le_trans (by omega) h))) (((bt H1.out.2.1 hb3).setCell (p := ⟨w.heap.size + 1, 0, none⟩) (by simp) (.slice f1 (absB (keepM l) a).1.length m1)).setCell (p := ⟨w.heap.size + 1, 1, none⟩) (by simp) (.slice f2 (absB (keepM l) a).2.length m2)))
    clear hR hs6 hlo far n1 n2 hb3 a0 a1 al
    go_wp2
    refine bodyPost_ret (v := .tuple #[.agg #[.slice f1 (absB (keepM l) a).1.length m1, .slice f2 (absB (keepM l) a).2.length m2], .bool true]) (by simp [results, Try.results7, go_sem, rr.1, rr.2]) rfl ?_
    exact ⟨_, _, by rw [HC.out.2.1], by rw [HC.out.2.2]; exact HE.out.1, HE.out.2⟩
set_option maxRecDepth 100000 in
set_option maxHeartbeats 3200000 in
theorem abstractI_any {S1 S2 S3 : Nat → Prop} (v1 v2 kv : Value) (a : Asn) (l : List Int) (w : World) (h1 : RL w S1 v1 a.1) (h2 : RL w S2 v2 a.2) (h3 : RL w S3 kv l) :
    Calls Try.prog 6 #[.agg #[v1, v2], kv] w fun e w' => ∃ x1 x2, e = .returned (.tuple #[.agg #[x1, x2], .bool (absOk a l)]) ∧ OA w' w.heap.size x1 x2 (absR a l) ∧ Below w.heap.size w w' := by
  obtain ⟨p1, c1, rfl⟩ := h1.form
  obtain ⟨p2, c2, rfl⟩ := h2.form
  have hk := h3.ints
  obtain ⟨kq, kc, rfl, _⟩ := hk.cells
  have hbA := box_keep (heap_alloc_new w (.cells #[.slice p1 a.1.length c1, .slice p2 a.2.length c2] 26)) (below_alloc _ (.cells #[.slice none 0 0, .slice none 0 0] 26))
  have hbR := heap_alloc_new (w.alloc (.cells #[.slice p1 a.1.length c1, .slice p2 a.2.length c2] 26)) (.cells #[.slice none 0 0, .slice none 0 0] 26)
  rw [World.size_alloc] at hbR
  have hB0 : Below w.heap.size w ((w.alloc (.cells #[.slice p1 a.1.length c1, .slice p2 a.2.length c2] 26)).alloc (.cells #[.slice none 0 0, .slice none 0 0] 26)) := Bl
  have H0 := Lib.hid (And.intro (And.intro hbA hbR) (And.intro hB0 (And.intro (h1.keep hB0) (And.intro (h2.keep hB0) (hk.keep hB0)))))
  clear hbA hbR hB0 h1 h2 h3 hk
  cases ha : asnB a with
  | false =>
    have HC := Lib.hid (And.intro ha (And.intro (show absOk a l = false from ha) (show absR a l = ([], []) by rw [absR, if_neg (by rw [ha]; decide)])))
    clear ha
    go_enter Try.func6, Try.ntmps6
    go_wp2_with fail
    refine (cb (asnValidI_any _ _ a _ H0.out.2.2.1 H0.out.2.2.2.1) HC.out.1).mono ?_
    rintro e w1 ⟨rfl, hb⟩
    have hR := box_keep H0.out.1.2 hb
    have r0 := box0 hR
    have r1 := box1 hR
    have rz := boxz hR
    have rl := box_lt hR
    have rr := box_two (.slice none 0 0) (.slice none 0 0) r0 r1
    have HE := Lib.hid (((bt H0.out.2.1 hb).setCell (p := ⟨w.heap.size + 1, 0, none⟩) (by simp) (.slice none 0 0)).setCell (p := ⟨w.heap.size + 1, 1, none⟩) (by simp) (.slice none 0 0))
    clear hb hR
    go_wp2
    refine bodyPost_ret (v := .tuple #[.agg #[.slice none 0 0, .slice none 0 0], .bool false]) (by simp [results, Try.results6, go_sem, rr.1, rr.2]) rfl ?_
    exact ⟨_, _, by rw [HC.out.2.1], by rw [HC.out.2.2]; exact oa_nil _ _, HE.out⟩
  | true =>
    have HC := Lib.hid (And.intro ha (And.intro (show absOk a l = true from ha) (show absR a l = absB (keepM l) a by rw [absR, if_pos ha])))
    clear ha
    go_enter Try.func6, Try.ntmps6
    go_wp2_with fail
    refine (cb (asnValidI_any _ _ a _ H0.out.2.2.1 H0.out.2.2.2.1) HC.out.1).mono ?_
    rintro e w1 ⟨rfl, hb⟩
    have hA := box_keep H0.out.1.1 hb
    have a0 := box0 hA
    have a1 := box1 hA
    have al := box_lt hA
    have H1 := Lib.hid (And.intro (box_keep H0.out.1.2 hb) (And.intro (bt H0.out.2.1 hb) (And.intro (H0.out.2.2.1.keep hb) (And.intro (H0.out.2.2.2.1.keep hb) (H0.out.2.2.2.2.keep hb)))))
    clear hA hb
    go_wp2
    go_region_held3 (fun w' => w'.cell? ⟨w.heap.size, 0, none⟩ = some (.slice p1 a.1.length c1) ∧ w'.cell? ⟨w.heap.size, 1, none⟩ = some (.slice p2 a.2.length c2))
      (exact ⟨(by repeat (first | with_reducible exact a0 | (with_reducible refine (fr_set _ _ _).cell (by first | (simp; done) | (simp; omega) | omega) ?_) | exact cell_keep Bl a0)), (by repeat (first | with_reducible exact a1 | (with_reducible refine (fr_set _ _ _).cell (by first | (simp; done) | (simp; omega) | omega) ?_) | exact cell_keep Bl a1))⟩)
      (first
        | (go_at_call 21; go_must (refine (setOfTerms_any _ l _ (H1.out.2.2.2.2.keep Bl)).mono ?_; rintro e w2 ⟨rfl, rfl⟩))
        | (go_at_call 20; go_must (refine (absI_any _ _ a (keepM l) _ (H1.out.2.2.1.keep Bl) (H1.out.2.2.2.1.keep Bl) (keepM_lt l) HC.out.1).mono ?_; rintro e w3 ⟨x1, x2, rfl, ⟨⟨n1, n2⟩, z12⟩, hb3'⟩; obtain ⟨f1, m1, rfl⟩ := n1.form; obtain ⟨f2, m2, rfl⟩ := n2.form; have hb3 : Below w1.heap.size w1 w3 := bt Bl hb3'; have hR := box_keep H1.out.1 hb3; have r0 := box0 hR; have r1 := box1 hR; have rz := boxz hR; have rl := box_lt hR; have HR := Lib.hid hR; clear hR))
        | fail)
    all_goals
      have rr := box_two (.slice f1 (absB (keepM l) a).1.length m1) (.slice f2 (absB (keepM l) a).2.length m2) r0 r1
      have hlo := box_lt H1.out.1
      have hls := H1.out.2.1.size
      have hoa := ((n1.mono (B' := w.heap.size) (by simp; omega)).set2 (x := .slice f1 (absB (keepM l) a).1.length m1) (y := .slice f2 (absB (keepM l) a).2.length m2) HR.out (by decide)).oa ((n2.mono (B' := w.heap.size) (by simp; omega)).set2 (x := .slice f1 (absB (keepM l) a).1.length m1) (y := .slice f2 (absB (keepM l) a).2.length m2) HR.out (by decide)) z12.1 z12.2
      have HE := Lib.hid (And.intro hoa (((bt H1.out.2.1 hb3).setCell (p := ⟨w.heap.size + 1, 0, none⟩) (by simp) (.slice f1 (absB (keepM l) a).1.length m1)).setCell (p := ⟨w.heap.size + 1, 1, none⟩) (by simp) (.slice f2 (absB (keepM l) a).2.length m2)))
      clear hoa hlo hls n1 n2 z12 hb3 hb3'
      go_wp2
      refine bodyPost_ret (v := .tuple #[.agg #[.slice f1 (absB (keepM l) a).1.length m1, .slice f2 (absB (keepM l) a).2.length m2], .bool true]) (by simp [results, Try.results6, go_sem, rr.1, rr.2]) rfl ?_
      exact ⟨_, _, by rw [HC.out.2.1], by rw [HC.out.2.2]; exact HE.out.1, HE.out.2⟩
end Go.Proofs.Ytdjfdopgjlbloaa
