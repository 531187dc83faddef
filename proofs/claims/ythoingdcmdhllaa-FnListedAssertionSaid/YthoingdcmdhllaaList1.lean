/- Rows of atoms of one's own: one atom is changed; the reference's copies, with the row of their atoms. -/
import Derived.Test.YthoingdcmdhllaaFam3
import Derived.Test.YthoingdcmdhllaaCaseA
namespace Go.Proofs.Ythoingdcmdhllaa
open Go.RowKit

theorem rows_eq {sz n : Nat} {xs ys : List Value} (hx : xs.length = n * sz) (hy : ys.length = n * sz) (h : ∀ i, i < n → nth sz xs i = nth sz ys i) : xs = ys := by
  induction n generalizing xs ys with
  | zero =>
    rw [Nat.zero_mul] at hx hy
    rw [List.eq_nil_of_length_eq_zero hx, List.eq_nil_of_length_eq_zero hy]
  | succ n ih =>
    have h0 := h 0 (by omega)
    rw [nth, nth, Nat.zero_mul, List.drop_zero, List.drop_zero] at h0
    have hd : xs.drop sz = ys.drop sz := by
      refine ih (by rw [List.length_drop, hx, Nat.succ_mul]; omega) (by rw [List.length_drop, hy, Nat.succ_mul]; omega) fun i hi => ?_
      have := h (i + 1) (by omega)
      rw [nth, nth, Nat.succ_mul] at this
      rw [nth, nth, List.drop_drop, List.drop_drop, Nat.add_comm sz]
      exact this
    rw [← List.take_append_drop sz xs, ← List.take_append_drop sz ys, h0, hd]
theorem acl_len (l : List Atom) : (acl l).length = l.length * 3 := by
  induction l with
  | nil => rfl
  | cons x l ih => show (acl l).length + 1 + 1 + 1 = (l.length + 1) * 3; rw [ih]; omega
theorem acl_of {l : List Atom} {xs : List Value} {w : World} {S : Nat → Prop} (hx : xs.length = l.length * 3) (h : ∀ i, i < l.length → Dat.rd w S (gd l i) (nth 3 xs i)) : xs = acl l :=
  rows_eq hx (acl_len l) fun i hi => by
    rw [acl_nth hi]
    obtain ⟨c1, c2, e, h1, c3, c4, e2, h3, h4⟩ := h i hi
    rw [e, e2, show c1 = [.int .i64 (gd l i).1] from h1, show c3 = [.int .i64 (gd l i).2.1] from h3, show c4 = [.int .i64 (gd l i).2.2] from h4]; rfl
theorem acl_set1 {l : List Atom} {k : Nat} (hk : k < l.length) (c : Int) : (acl l).set (k * 3) (.int .i64 c) = acl (l.set k (c, (gd l k).2)) := by
  refine rows_eq (n := l.length) (by rw [List.length_set, acl_len]) (by rw [acl_len, List.length_set]) fun i hi => ?_
  have hi2 : i < (l.set k (c, (gd l k).2)).length := by rw [List.length_set]; exact hi
  rw [nth_set0 (by decide), acl_nth hi2]
  by_cases e : i = k
  · subst e; rw [if_pos rfl, acl_nth hi, gd_of hi2, List.getElem_set_self]; rfl
  · rw [if_neg e, acl_nth hi, gd_of hi2, List.getElem_set_ne (Ne.symm e), ← gd_of hi]
theorem acl_set3 {l : List Atom} {k : Nat} (hk : k < l.length) (a b c : Int) : (((acl l).set (k * 3) (.int .i64 a)).set (k * 3 + 1) (.int .i64 b)).set (k * 3 + 2) (.int .i64 c) = acl (l.set k (a, b, c)) := by
  refine rows_eq (n := l.length) (by rw [List.length_set, List.length_set, List.length_set, acl_len]) (by rw [acl_len, List.length_set]) fun i hi => ?_
  have hi2 : i < (l.set k (a, b, c)).length := by rw [List.length_set]; exact hi
  rw [nth_set3 (acl_len l) hk, acl_nth hi2]
  by_cases e : i = k
  · subst e; rw [if_pos rfl, gd_of hi2, List.getElem_set_self]
  · rw [if_neg e, acl_nth hi, gd_of hi2, List.getElem_set_ne (Ne.symm e), ← gd_of hi]
section
variable {w : World} {B g n cap : Nat} {l : List Atom} {v : Value}
theorem AO.at (h : AO w B (.slice (some ⟨g, 0, none⟩) n cap) l) (hn : n = l.length) {k : Nat} (hk : k < l.length) :
    (w.cell? ⟨g, k * 3, none⟩ = some (.int .i64 (gd l k).1) ∧ w.cell? ⟨g, k * 3 + 1, none⟩ = some (.int .i64 (gd l k).2.1) ∧ w.cell? ⟨g, k * 3 + 2, none⟩ = some (.int .i64 (gd l k).2.2)) ∧ ∀ i, w.frozen? ⟨g, i, none⟩ = false := by
  subst hn
  have h2 : w.ownsRow B 142 3 (.slice (some ⟨g, 0, none⟩) l.length cap) l.length (acl l) := h
  have hx := acl_nth hk
  refine ⟨⟨?_, ?_, ?_⟩, h2.frozenAt⟩
  · rw [h2.cellAt (k * 3) (by omega)]; exact nth_at (j := 0) (by rw [hx]; rfl)
  · rw [h2.cellAt (k * 3 + 1) (by omega)]; exact nth_at (j := 1) (by rw [hx]; rfl)
  · rw [h2.cellAt (k * 3 + 2) (by omega)]; exact nth_at (j := 2) (by rw [hx]; rfl)
theorem AO.form (h : AO w B v l) : ∃ a cap, v = .slice a l.length cap ∧ ∀ k, k < l.length → ∃ g, a = some ⟨g, 0, none⟩ := row_form h
theorem AO.set1 (h : AO w B (.slice (some ⟨g, 0, none⟩) n cap) l) (hn : n = l.length) {k : Nat} (hk : k < l.length) (c : Int) : AO (w.setCell ⟨g, k * 3, none⟩ (.int .i64 c)) B (.slice (some ⟨g, 0, none⟩) n cap) (l.set k (c, (gd l k).2)) := by
  subst hn
  have := (show w.ownsRow B 142 3 (.slice (some ⟨g, 0, none⟩) l.length cap) l.length (acl l) from h).stored (k * 3) (.int .i64 c)
  rw [acl_set1 hk] at this
  unfold AO; rw [List.length_set]; exact this.1
theorem AO.set3 (h : AO w B (.slice (some ⟨g, 0, none⟩) n cap) l) (hn : n = l.length) {k : Nat} (hk : k < l.length) (a b c : Int) :
    AO (((w.setCell ⟨g, k * 3, none⟩ (.int .i64 a)).setCell ⟨g, k * 3 + 1, none⟩ (.int .i64 b)).setCell ⟨g, k * 3 + 2, none⟩ (.int .i64 c)) B (.slice (some ⟨g, 0, none⟩) n cap) (l.set k (a, b, c)) := by
  subst hn
  have t1 := ((show w.ownsRow B 142 3 (.slice (some ⟨g, 0, none⟩) l.length cap) l.length (acl l) from h).stored (k * 3) (.int .i64 a)).1
  have t2 := (t1.stored (k * 3 + 1) (.int .i64 b)).1
  have t3 := (t2.stored (k * 3 + 2) (.int .i64 c)).1
  rw [acl_set3 hk] at t3
  unfold AO; rw [List.length_set]; exact t3
theorem AO.OL (h : AO w B v l) : OL w B v l v.ownBlock.toList := flat_OL own_cAtom h fun _ hi => acl_nth hi
theorem OL.AO {fp : List Nat} (h : OL w B v l fp) : AO w B v l ∧ fp = v.ownBlock.toList := by
  obtain ⟨xs, hr, hx⟩ := flat_parts h
  obtain rfl : xs = acl l := acl_of hr.1 hx
  exact ⟨hr, flat_fp h⟩
end
/-- An empty slice, or a row of atoms of one's own. -/
def AE (w : World) (B : Nat) (v : Value) (l : List Atom) : Prop := (l = [] ∧ ∃ a, v = .slice a 0 0) ∨ AO w B v l
theorem AE.of {w w1 w2 : World} {B : Nat} {v : Value} {l m : List Atom} {xs ys : List Value} {S1 S2 : Nat → Prop} (h : RowE w B 142 3 v (l.length + m.length) (xs ++ ys)) (hx : xs.length = l.length * 3) (hy : ys.length = m.length * 3)
    (h1 : ∀ i, i < l.length → Dat.rd w1 S1 (gd l i) (nth 3 xs i)) (h2 : ∀ i, i < m.length → Dat.rd w2 S2 (gd m i) (nth 3 ys i)) : AE w B v (l ++ m) := by
  obtain rfl := acl_of hx h1
  obtain rfl := acl_of hy h2
  rcases h with ⟨h0, _, ha⟩ | h
  · exact .inl ⟨List.eq_nil_of_length_eq_zero (by rw [List.length_append]; exact h0), ha⟩
  · refine .inr ?_
    unfold AO
    rw [List.length_append, acl_app]; exact h
section
variable {w w' : World} {B B' : Nat} {v : Value} {l : List Atom}
theorem AE.keep (h : AE w B v l) (hb : Below w.heap.size w w') : AE w' B v l := h.imp id fun h => h.keep hb
theorem AE.mono (h : AE w B v l) (hB : B' ≤ B) : AE w B' v l := h.imp id fun h => h.mono hB
theorem AE.rl (h : AE w B v l) : RL w (fun k => B ≤ k) v l := by
  rcases h with ⟨rfl, a, rfl⟩ | h
  · exact .inl ⟨a, 0, rfl, rfl, Nat.zero_le _, fun _ => rfl⟩
  · exact h.rl
theorem AE.setB (h : AE w B v l) {p : Addr} (hp : p.block < B) (u : Value) : AE (w.setCell p u) B v l := by
  rcases h with h | h
  · exact .inl h
  · exact .inr (own_kept h (fr_set _ _ _) fun k hk e => by have := (own_lt h hk).1; have e2 : k = p.block := e; omega)
theorem AE.own (h : AE w B v l) (hl : 0 < l.length) : AO w B v l := by
  rcases h with ⟨rfl, _⟩ | h
  · cases hl
  · exact h
end
set_option maxRecDepth 100000 in
set_option maxHeartbeats 3200000 in
theorem l3StarO_any {S1 S2 S3 S4 : Nat → Prop} (v1 v2 u1 u2 : Value) (a b : Asn) (w : World) (h1 : RL w S1 v1 a.1) (h2 : RL w S2 v2 a.2) (k1 : RL w S3 u1 b.1) (k2 : RL w S4 u2 b.2)
    (n1 : a.1.length ≤ 1048576) (n2 : a.2.length ≤ 1048576) (n3 : b.1.length ≤ 1048576) (n4 : b.2.length ≤ 1048576) :
    Calls Try.prog 90 #[.agg #[v1, v2], .agg #[u1, u2]] w fun e w' => ∃ x1 x2 m, e = .returned (.agg #[x1, x2]) ∧ RL w' (fun k => w.heap.size ≤ k ∧ k < m) x1 (a.1 ++ b.1) ∧ AE w' m x2 (a.2 ++ b.2) ∧ w.heap.size ≤ m ∧ Below w.heap.size w w' := by
  obtain ⟨a1, a2⟩ := a
  obtain ⟨b1, b2⟩ := b
  simp only at h1 h2 k1 k2 n1 n2 n3 n4
  obtain ⟨p1, c1, rfl⟩ := h1.form
  obtain ⟨p2, c2, rfl⟩ := h2.form
  obtain ⟨p3, c3, rfl⟩ := k1.form
  obtain ⟨p4, c4, rfl⟩ := k2.form
  go_enter Try.func90, Try.ntmps90
  go_wp2
  generalize hw0 : (((w.alloc (.cells #[.slice p1 a1.length c1, .slice p2 a2.length c2] 34)).alloc (.cells #[.slice p3 b1.length c3, .slice p4 b2.length c4] 34)).alloc (.cells #[.slice none 0 0, .slice none 0 0] 34)) = w0
  have hc0 : w0.cell? ⟨w.heap.size, 0, none⟩ = some (.slice p1 a1.length c1) := by rw [← hw0]; simp [go_sem]
  have hc1 : w0.cell? ⟨w.heap.size, 1, none⟩ = some (.slice p2 a2.length c2) := by rw [← hw0]; simp [go_sem]
  have hd0 : w0.cell? ⟨w.heap.size + 1, 0, none⟩ = some (.slice p3 b1.length c3) := by rw [← hw0]; simp [go_sem]
  have hd1 : w0.cell? ⟨w.heap.size + 1, 1, none⟩ = some (.slice p4 b2.length c4) := by rw [← hw0]; simp [go_sem]
  have hA : w0.heap[w.heap.size + 2]? = some (.cells #[.slice none 0 0, .slice none 0 0] 34 (0, 0)) := by
    rw [← hw0]
    have := heap_alloc_new ((w.alloc (.cells #[.slice p1 a1.length c1, .slice p2 a2.length c2] 34)).alloc (.cells #[.slice p3 b1.length c3, .slice p4 b2.length c4] 34)) (.cells #[.slice none 0 0, .slice none 0 0] 34)
    simpa using this
  have hz : w0.heap.size = w.heap.size + 3 := by rw [← hw0]; simp
  have hW : Below w.heap.size w w0 := by rw [← hw0]; exact ba (ba (below_alloc _ _) _) _
  clear hw0
  have HA := Lib.hid hA
  have HZ := Lib.hid hz
  have q1 := h1.keep hW
  have q2 := h2.keep hW
  have q3 := k1.keep hW
  have q4 := k2.keep hW
  clear hA hz h1 h2 k1 k2
  go_region_held3 (fun w' => (w'.cell? ⟨w.heap.size, 0, none⟩ = some (.slice p1 a1.length c1) ∧ w'.cell? ⟨w.heap.size, 1, none⟩ = some (.slice p2 a2.length c2)) ∧ (w'.cell? ⟨w.heap.size + 1, 0, none⟩ = some (.slice p3 b1.length c3) ∧ w'.cell? ⟨w.heap.size + 1, 1, none⟩ = some (.slice p4 b2.length c4)))
    (exact ⟨⟨(by repeat (first | with_reducible exact hc0 | (with_reducible refine (fr_set _ _ _).cell (by first | (simp; done) | (simp; omega) | omega) ?_) | exact cell_keep (by repeat (first | exact Below.refl _ _ | with_reducible assumption | exact below_alloc _ _ | (refine Below.setCell ?_ (by first | (simp; done) | (simp; omega) | omega) _) | apply bd | apply ba | apply be)) hc0)), (by repeat (first | with_reducible exact hc1 | (with_reducible refine (fr_set _ _ _).cell (by first | (simp; done) | (simp; omega) | omega) ?_) | exact cell_keep (by repeat (first | exact Below.refl _ _ | with_reducible assumption | exact below_alloc _ _ | (refine Below.setCell ?_ (by first | (simp; done) | (simp; omega) | omega) _) | apply bd | apply ba | apply be)) hc1))⟩, ⟨(by repeat (first | with_reducible exact hd0 | (with_reducible refine (fr_set _ _ _).cell (by first | (simp; done) | (simp; omega) | omega) ?_) | exact cell_keep (by repeat (first | exact Below.refl _ _ | with_reducible assumption | exact below_alloc _ _ | (refine Below.setCell ?_ (by first | (simp; done) | (simp; omega) | omega) _) | apply bd | apply ba | apply be)) hd0)), (by repeat (first | with_reducible exact hd1 | (with_reducible refine (fr_set _ _ _).cell (by first | (simp; done) | (simp; omega) | omega) ?_) | exact cell_keep (by repeat (first | exact Below.refl _ _ | with_reducible assumption | exact below_alloc _ _ | (refine Below.setCell ?_ (by first | (simp; done) | (simp; omega) | omega) _) | apply bd | apply ba | apply be)) hd1))⟩⟩)
    (first
      | (refine step_appE0 (l := a1) (by rfl) (.tmp 5) (.tmp 7) _ (by rfl) ti_fact (by rfl) (by rfl) (q1.keep (by repeat (first | exact Below.refl _ _ | with_reducible assumption | exact below_alloc _ _ | (refine Below.setCell ?_ (by first | (simp; done) | (simp; omega) | omega) _) | apply bd | apply ba | apply be))) n1 ?_; intro B1 hB1 v5 w5 y1 r1 t1 hb5'; have hle1 : w0.heap.size ≤ B1 := (by rw [hB1]; exact Below.size (w := w0) (B := w0.heap.size) (by repeat (first | exact Below.refl _ _ | with_reducible assumption | exact below_alloc _ _ | (refine Below.setCell ?_ (by first | (simp; done) | (simp; omega) | omega) _) | apply bd | apply ba | apply be))); have hle5 : B1 ≤ w5.heap.size := (by rw [hB1]; exact hb5'.size); have HB1 := Lib.hid hB1; clear hB1; have hb5 : Below w0.heap.size w0 w5 := Below.trans (by repeat (first | exact Below.refl _ _ | with_reducible assumption | exact below_alloc _ _ | (refine Below.setCell ?_ (by first | (simp; done) | (simp; omega) | omega) _) | apply bd | apply ba | apply be)) (hb5'.mono hle1))
      | (refine step_appE (l := b1) (n := a1.length) (by rfl) (.tmp 8) (.tmp 10) _ (by rfl) (B := B1) ti_fact (by rfl) (r1.keep (by repeat (first | exact Below.refl _ _ | with_reducible assumption | exact below_alloc _ _ | (refine Below.setCell ?_ (by first | (simp; done) | (simp; omega) | omega) _) | apply bd | apply ba | apply be))) (by rfl) (q3.keep (by repeat (first | exact Below.refl _ _ | with_reducible assumption | exact below_alloc _ _ | (refine Below.setCell ?_ (by first | (simp; done) | (simp; omega) | omega) _) | apply bd | apply ba | apply be))) (by omega) (Nat.le_trans hle5 (Below.size (w := w5) (B := w5.heap.size) (by repeat (first | exact Below.refl _ _ | with_reducible assumption | exact below_alloc _ _ | (refine Below.setCell ?_ (by first | (simp; done) | (simp; omega) | omega) _) | apply bd | apply ba | apply be)))) ?_; intro v6 w6 y2 r2 _ t2 hb6'; have hb6 : Below w0.heap.size w0 w6 := Below.trans (by repeat (first | exact Below.refl _ _ | with_reducible assumption | exact below_alloc _ _ | (refine Below.setCell ?_ (by first | (simp; done) | (simp; omega) | omega) _) | apply bd | apply ba | apply be)) (hb6'.mono hle1); have rl6 := rowE_app r2 r1.len t1 t2; have rl6' := rl6.more (S' := fun k => w0.heap.size ≤ k ∧ k < w6.heap.size) (fun k h1 h2 => ⟨Nat.le_trans hle1 h2, h1⟩); obtain ⟨d6, m6, k6, rfl⟩ := rl6.forms)
      | (refine step_appE0 (l := a2) (by rfl) (.tmp 12) (.tmp 14) _ (by rfl) ti_atom (by rfl) (by rfl) (q2.keep (by repeat (first | exact Below.refl _ _ | with_reducible assumption | exact below_alloc _ _ | (refine Below.setCell ?_ (by first | (simp; done) | (simp; omega) | omega) _) | apply bd | apply ba | apply be))) n2 ?_; intro B2 hB2 v7 w7 y3 r3 t3 hb7'; have hle2 : w0.heap.size ≤ B2 := (by rw [hB2]; exact Below.size (w := w0) (B := w0.heap.size) (by repeat (first | exact Below.refl _ _ | with_reducible assumption | exact below_alloc _ _ | (refine Below.setCell ?_ (by first | (simp; done) | (simp; omega) | omega) _) | apply bd | apply ba | apply be))); have hle26 : w6.heap.size ≤ B2 := (by rw [hB2]; exact Below.size (w := w6) (B := w6.heap.size) (by repeat (first | exact Below.refl _ _ | with_reducible assumption | exact below_alloc _ _ | (refine Below.setCell ?_ (by first | (simp; done) | (simp; omega) | omega) _) | apply bd | apply ba | apply be))); have hle7 : B2 ≤ w7.heap.size := (by rw [hB2]; exact hb7'.size); have HB2 := Lib.hid hB2; clear hB2; have hb7 : Below w0.heap.size w0 w7 := Below.trans (by repeat (first | exact Below.refl _ _ | with_reducible assumption | exact below_alloc _ _ | (refine Below.setCell ?_ (by first | (simp; done) | (simp; omega) | omega) _) | apply bd | apply ba | apply be)) (hb7'.mono hle2); have hb67 : Below w6.heap.size w6 w7 := Below.trans (by repeat (first | exact Below.refl _ _ | with_reducible assumption | exact below_alloc _ _ | (refine Below.setCell ?_ (by first | (simp; done) | (simp; omega) | omega) _) | apply bd | apply ba | apply be)) (hb7'.mono hle26))
      | (refine step_appE (l := b2) (n := a2.length) (by rfl) (.tmp 15) (.tmp 17) _ (by rfl) (B := B2) ti_atom (by rfl) (r3.keep (by repeat (first | exact Below.refl _ _ | with_reducible assumption | exact below_alloc _ _ | (refine Below.setCell ?_ (by first | (simp; done) | (simp; omega) | omega) _) | apply bd | apply ba | apply be))) (by rfl) (q4.keep (by repeat (first | exact Below.refl _ _ | with_reducible assumption | exact below_alloc _ _ | (refine Below.setCell ?_ (by first | (simp; done) | (simp; omega) | omega) _) | apply bd | apply ba | apply be))) (by omega) (Nat.le_trans hle7 (Below.size (w := w7) (B := w7.heap.size) (by repeat (first | exact Below.refl _ _ | with_reducible assumption | exact below_alloc _ _ | (refine Below.setCell ?_ (by first | (simp; done) | (simp; omega) | omega) _) | apply bd | apply ba | apply be)))) ?_; intro v8 w8 y4 r4 _ t4 hb8'; have hb8 : Below w0.heap.size w0 w8 := Below.trans (by repeat (first | exact Below.refl _ _ | with_reducible assumption | exact below_alloc _ _ | (refine Below.setCell ?_ (by first | (simp; done) | (simp; omega) | omega) _) | apply bd | apply ba | apply be)) (hb8'.mono hle2); have hb68 : Below w6.heap.size w6 w8 := Below.trans (by repeat (first | exact Below.refl _ _ | with_reducible assumption | exact below_alloc _ _ | (refine Below.setCell ?_ (by first | (simp; done) | (simp; omega) | omega) _) | apply bd | apply ba | apply be)) (hb8'.mono hle26); have rl8 := rowE_app r4 r3.len t3 t4; have ae8 := AE.of r4 r3.len (by have := r4.len; rw [List.length_append, r3.len, Nat.add_mul] at this; exact Nat.add_left_cancel this) t3 t4; obtain ⟨d8, m8, k8, rfl⟩ := rl8.forms; have hA8 := box_keep HA.out hb8; have ha0 := box0 hA8; have ha1 := box1 hA8; have haz : ∀ i, w8.frozen? ⟨w.heap.size + 2, i, none⟩ = false := boxz hA8; have hlA := box_lt hA8; clear hA8))
  all_goals
    have hz0 := HZ.out
    have f6 := (((rl6'.keep hb68).setB (p := ⟨w.heap.size + 2, 0, none⟩) (u := .slice d6 m6 k6) (fun k h e => by simp at e; omega)).setB (p := ⟨w.heap.size + 2, 1, none⟩) (u := .slice d8 m8 k8) (fun k h e => by simp at e; omega)).more (S' := fun k => w.heap.size ≤ k ∧ k < B2) fun k _ h => by omega
    have f8 := ((ae8.setB (p := ⟨w.heap.size + 2, 0, none⟩) (by simp only; omega) (.slice d6 m6 k6)).setB (p := ⟨w.heap.size + 2, 1, none⟩) (by simp only; omega) (.slice d8 m8 k8))
    have fb := ((bt hW hb8).setCell (p := ⟨w.heap.size + 2, 0, none⟩) (by simp) (.slice d6 m6 k6)).setCell (p := ⟨w.heap.size + 2, 1, none⟩) (by simp) (.slice d8 m8 k8)
    have hm : w.heap.size ≤ B2 := by omega
    have HO := Lib.hid (And.intro f6 (And.intro f8 (And.intro hm fb)))
    have r := box_two (.slice d6 m6 k6) (.slice d8 m8 k8) ha0 ha1
    clear f6 f8 fb rl6 rl6' ae8 rl8 r1 r2 r3 r4 t1 t2 t3 t4 hb5 hb5' hb6 hb6' hb7 hb7' hb8 hb8' hb67 hb68
    go_wp2
    refine bodyPost_ret (v := .agg #[.slice d6 m6 k6, .slice d8 m8 k8]) (by simp [results, Try.results90, go_sem, r.1, r.2]) rfl ?_
    exact ⟨_, _, _, rfl, HO.out.1, HO.out.2.1, HO.out.2.2.1, HO.out.2.2.2⟩
set_option maxRecDepth 100000 in
set_option maxHeartbeats 800000 in
theorem l3CopyO_any {S1 S2 : Nat → Prop} (v1 v2 : Value) (a : Asn) (w : World) (h1 : RL w S1 v1 a.1) (h2 : RL w S2 v2 a.2) (hs : asSz a) :
    Calls Try.prog 108 #[.agg #[v1, v2]] w fun e w' => ∃ x1 x2 m, e = .returned (.agg #[x1, x2]) ∧ RL w' (fun k => w.heap.size ≤ k ∧ k < m) x1 a.1 ∧ AE w' m x2 a.2 ∧ w.heap.size ≤ m ∧ Below w.heap.size w w' := by
  obtain ⟨p1, c1, rfl⟩ := h1.form
  obtain ⟨p2, c2, rfl⟩ := h2.form
  have HS := Lib.hid hs
  clear hs
  go_enter Try.func108, Try.ntmps108
  go_wp2_with fail
  refine (l3StarO_any _ _ _ _ a ([], []) _ ((h1.alloc _).alloc _) ((h2.alloc _).alloc _) (RL.nil _ (fun _ => True)) (RL.nil _ (fun _ => True)) HS.out.1 HS.out.2 (by decide) (by decide)).mono ?_
  rintro e w1 ⟨x1, x2, m, rfl, r1, r2, hm, hb⟩
  simp only [World.size_alloc] at r1 hm
  simp only [List.append_nil] at r1 r2
  obtain ⟨d1, m1, k1, rfl⟩ := r1.forms
  obtain ⟨d2, m2, k2, rfl⟩ := r2.rl.forms
  have hA := box_keep (heap_alloc_new (w.alloc (.cells #[.slice p1 a.1.length c1, .slice p2 a.2.length c2] 34)) (.cells #[.slice none 0 0, .slice none 0 0] 34)) hb
  rw [World.size_alloc] at hA
  have ha0 := box0 hA
  have ha1 := box1 hA
  have haz : ∀ i, w1.frozen? ⟨w.heap.size + 1, i, none⟩ = false := boxz hA
  have hlA := box_lt hA
  have r := box_two (.slice d1 m1 k1) (.slice d2 m2 k2) ha0 ha1
  have f1 := ((r1.setB (p := ⟨w.heap.size + 1, 0, none⟩) (u := .slice d1 m1 k1) (fun k h e => by simp at h e; omega)).setB (p := ⟨w.heap.size + 1, 1, none⟩) (u := .slice d2 m2 k2) (fun k h e => by simp at h e; omega)).more (S' := fun k => w.heap.size ≤ k ∧ k < m) fun k _ h => by omega
  have f2 := (r2.setB (p := ⟨w.heap.size + 1, 0, none⟩) (by simp only; omega) (.slice d1 m1 k1)).setB (p := ⟨w.heap.size + 1, 1, none⟩) (by simp only; omega) (.slice d2 m2 k2)
  have fb := ((bt (ba (below_alloc w _) _) hb).setCell (p := ⟨w.heap.size + 1, 0, none⟩) (by simp) (.slice d1 m1 k1)).setCell (p := ⟨w.heap.size + 1, 1, none⟩) (by simp) (.slice d2 m2 k2)
  have hm2 : w.heap.size ≤ m := by omega
  have HO := Lib.hid (And.intro f1 (And.intro f2 (And.intro hm2 fb)))
  clear f1 f2 fb r1 r2 hb hA
  go_wp2
  refine bodyPost_ret (v := .agg #[.slice d1 m1 k1, .slice d2 m2 k2]) (by simp [results, Try.results108, go_sem, r.1, r.2]) rfl ?_
  exact ⟨_, _, _, rfl, HO.out.1, HO.out.2.1, HO.out.2.2.1, HO.out.2.2.2⟩
end Go.Proofs.Ythoingdcmdhllaa
