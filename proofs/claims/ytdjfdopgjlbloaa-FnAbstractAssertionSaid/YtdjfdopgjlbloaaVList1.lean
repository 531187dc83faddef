/- Rows of atoms of one's own: one atom is changed; the reference's copies, with the row of their atoms. -/
import Derived.Test.YtdjfdopgjlbloaaVHold1
import Derived.Test.YtdjfdopgjlbloaaVCaseA
namespace Go.Proofs.Ytdjfdopgjlbloaa
open Go.RowKit

theorem rows_eq {sz n : Nat} {xs ys : List Value} (hx : xs.length = n * sz) (hy : ys.length = n * sz) (h : ∀ i, i < n → nth sz xs i = nth sz ys i) : xs = ys := by
  induction n generalizing xs ys with
  | zero =>
    rw [Nat.zero_mul] at hx hy
    rw [List.eq_nil_of_length_eq_zero hx, List.eq_nil_of_length_eq_zero hy]
  | succ n ih =>
    have h0 := h 0 (by omega)
    rw [nth, nth, Nat.zero_mul, List.drop_zero, List.drop_zero] at h0
    have hd : xs.drop sz = ys.drop sz := by
      refine ih (by rw [List.length_drop, hx, Nat.succ_mul]; omega) (by rw [List.length_drop, hy, Nat.succ_mul]; omega) fun i hi => ?_
      have := h (i + 1) (by omega)
      rw [nth, nth, Nat.succ_mul] at this
      rw [nth, nth, List.drop_drop, List.drop_drop, Nat.add_comm sz]
      exact this
    rw [← List.take_append_drop sz xs, ← List.take_append_drop sz ys, h0, hd]
theorem acl_len (l : List Atom) : (acl l).length = l.length * 3 := by
  induction l with
  | nil => rfl
  | cons x l ih => show (acl l).length + 1 + 1 + 1 = (l.length + 1) * 3; rw [ih]; omega
theorem acl_of {l : List Atom} {xs : List Value} {w : World} {S : Nat → Prop} (hx : xs.length = l.length * 3) (h : ∀ i, i < l.length → Dat.rd w S (gd l i) (nth 3 xs i)) : xs = acl l :=
  rows_eq hx (acl_len l) fun i hi => by
    rw [acl_nth hi]
    obtain ⟨c1, c2, e, h1, c3, c4, e2, h3, h4⟩ := h i hi
    rw [e, e2, show c1 = [.int .i64 (gd l i).1] from h1, show c3 = [.int .i64 (gd l i).2.1] from h3, show c4 = [.int .i64 (gd l i).2.2] from h4]; rfl
section
variable {w : World} {B g n cap : Nat} {l : List Atom} {v : Value}
theorem AO.at (h : AO w B (.slice (some ⟨g, 0, none⟩) n cap) l) (hn : n = l.length) {k : Nat} (hk : k < l.length) :
    (w.cell? ⟨g, k * 3, none⟩ = some (.int .i64 (gd l k).1) ∧ w.cell? ⟨g, k * 3 + 1, none⟩ = some (.int .i64 (gd l k).2.1) ∧ w.cell? ⟨g, k * 3 + 2, none⟩ = some (.int .i64 (gd l k).2.2)) ∧ ∀ i, w.frozen? ⟨g, i, none⟩ = false := by
  subst hn
  have h2 : w.ownsRow B 56 3 (.slice (some ⟨g, 0, none⟩) l.length cap) l.length (acl l) := h
  have hx := acl_nth hk
  refine ⟨⟨?_, ?_, ?_⟩, h2.frozenAt⟩
  · rw [h2.cellAt (k * 3) (by omega)]; exact nth_at (j := 0) (by rw [hx]; rfl)
  · rw [h2.cellAt (k * 3 + 1) (by omega)]; exact nth_at (j := 1) (by rw [hx]; rfl)
  · rw [h2.cellAt (k * 3 + 2) (by omega)]; exact nth_at (j := 2) (by rw [hx]; rfl)
theorem AO.form (h : AO w B v l) : ∃ a cap, v = .slice a l.length cap ∧ ∀ k, k < l.length → ∃ g, a = some ⟨g, 0, none⟩ := row_form h
theorem AO.OL (h : AO w B v l) : OL w B v l v.ownBlock.toList := flat_OL own_cAtom h fun _ hi => acl_nth hi
theorem OL.AO {fp : List Nat} (h : OL w B v l fp) : AO w B v l ∧ fp = v.ownBlock.toList := by
  obtain ⟨xs, hr, hx⟩ := flat_parts h
  obtain rfl : xs = acl l := acl_of hr.1 hx
  exact ⟨hr, flat_fp h⟩
end
/-- An empty slice, or a row of atoms of one's own. -/
def AE (w : World) (B : Nat) (v : Value) (l : List Atom) : Prop := (l = [] ∧ ∃ a, v = .slice a 0 0) ∨ AO w B v l
section
variable {w w' : World} {B B' : Nat} {v : Value} {l : List Atom}
theorem AE.keep (h : AE w B v l) (hb : Below w.heap.size w w') : AE w' B v l := h.imp id fun h => h.keep hb
theorem AE.mono (h : AE w B v l) (hB : B' ≤ B) : AE w B' v l := h.imp id fun h => h.mono hB
theorem AE.rl (h : AE w B v l) : RL w (fun k => B ≤ k) v l := by
  rcases h with ⟨rfl, a, rfl⟩ | h
  · exact .inl ⟨a, 0, rfl, rfl, Nat.zero_le _, fun _ => rfl⟩
  · exact h.rl
theorem AE.setB (h : AE w B v l) {p : Addr} (hp : p.block < B) (u : Value) : AE (w.setCell p u) B v l := by
  rcases h with h | h
  · exact .inl h
  · exact .inr (own_kept h (fr_set _ _ _) fun k hk e => by have := (own_lt h hk).1; have e2 : k = p.block := e; omega)
theorem AE.own (h : AE w B v l) (hl : 0 < l.length) : AO w B v l := by
  rcases h with ⟨rfl, _⟩ | h
  · cases hl
  · exact h
end
end Go.Proofs.Ytdjfdopgjlbloaa
