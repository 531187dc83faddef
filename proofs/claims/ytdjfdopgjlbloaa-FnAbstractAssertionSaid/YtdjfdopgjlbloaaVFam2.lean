/- Fam2: texts Star, Star2, Join in one. -/
import Derived.Test.YtdjfdopgjlbloaaVData3
import Derived.Test.YtdjfdopgjlbloaaVCpy
import Derived.Test.YtdjfdopgjlbloaaVData2
import Derived.Deep.RegionHeld3
import Derived.Test.YtdjfdopgjlbloaaVFam1
/- Walks: the reference's separating conjunction and copies. -/
namespace Go.Proofs.Ytdjfdopgjlbloaa
open Go.RowKit

theorem RL.setB {α : Type} [Dat α] {w : World} {S : Nat → Prop} {v : Value} {l : List α} (h : RL w S v l) {p : Addr} {u : Value} (hp : ∀ k, S k → ¬ k = p.block) : RL (w.setCell p u) S v l := h.kept (fr_set _ _ _) fun k _ h1 h2 => hp k h1 h2

theorem RL.forms {α : Type} [Dat α] {w : World} {S : Nat → Prop} {v : Value} {l : List α} (h : RL w S v l) : ∃ a n cap, v = .slice a n cap := by obtain ⟨a, c, h⟩ := h.form; exact ⟨a, _, c, h⟩

end Go.Proofs.Ytdjfdopgjlbloaa
/- Walks: copies of families, of the reference; families joined. -/
namespace Go.Proofs.Ytdjfdopgjlbloaa
open Go.RowKit

/-- A row of the call's own whose elements can be read and do not hang on the row itself. -/
def TR {α : Type} [Dat α] (w : World) (B : Nat) (e : TypeId) (v : Value) (l : List α) : Prop :=
  ∃ xs, w.ownsRow B e (Dat.sz α) v l.length xs ∧ ∀ i, i < l.length → Dat.rd w (fun k => B ≤ k ∧ ¬ some k = v.ownBlock) (gd l i) (nth (Dat.sz α) xs i)
section
variable {α : Type} [Dat α] {w w' : World} {B : Nat} {e : TypeId} {v v' : Value} {l m : List α} {xs ys : List Value}
theorem TR.keep (h : TR w B e v l) (hb : Below w.heap.size w w') : TR w' B e v l := by
  obtain ⟨xs, hr, hx⟩ := h
  exact ⟨xs, own_keep hr hb, fun i hi => Dat.kept (hx i hi) (Below.fr hb) fun _ _ _ h => h⟩
theorem TR.rl (h : TR w B e v l) : RL w (fun k => B ≤ k) v l := by
  obtain ⟨xs, hr, hx⟩ := h
  exact (RowE.rl (.inr hr) hx).more fun k _ h => h.elim (fun h => h.1) id
theorem TR.lt (h : TR w B e v l) : ∀ j, some j = v.ownBlock → j < w.heap.size := fun j hj => by
  obtain ⟨xs, hr, _⟩ := h; exact (own_lt hr hj).2
theorem TR.nil (w : World) (B : Nat) (e : TypeId) : TR w B e (.slice none 0 0) ([] : List α) := ⟨[], World.ownsRow_nil _ _ _ _, fun i hi => absurd hi (by simp)⟩
theorem TR.app (hr0 : w.ownsRow B e (Dat.sz α) v l.length xs) (hx : ∀ i, i < l.length → Dat.rd w (fun k => B ≤ k ∧ ¬ some k = v.ownBlock) (gd l i) (nth (Dat.sz α) xs i)) (hf : Fr (fun k => some k = v.ownBlock) w w')
    (hr : w'.ownsRow B e (Dat.sz α) v' (l.length + m.length) (xs ++ ys)) (hlie : v'.ownBlock = v.ownBlock ∨ v'.ownBlock = some w.heap.size)
    (hy : ∀ i, i < m.length → Dat.rd w (fun k => B ≤ k ∧ ¬ some k = v.ownBlock) (gd m i) (nth (Dat.sz α) ys i)) : TR w' B e v' (l ++ m) := by
  have conv : ∀ {a : α} {cs : List Value}, Dat.rd w (fun k => B ≤ k ∧ ¬ some k = v.ownBlock) a cs → Dat.rd w' (fun k => B ≤ k ∧ ¬ some k = v'.ownBlock) a cs := fun h =>
    Dat.more (Dat.kept (Dat.more (S' := fun k => (B ≤ k ∧ ¬ some k = v.ownBlock) ∧ k < w.heap.size) h fun k hk hs => ⟨hs, hk⟩) hf fun k _ hs => hs.1.2) fun k _ hs => ⟨hs.1.1, fun he => by
      rcases hlie with h | h
      · exact hs.1.2 (he.trans h)
      · rw [h] at he
        injection he with he
        have := hs.2
        omega⟩
  refine ⟨xs ++ ys, by rw [List.length_append]; exact hr, fun i hi => ?_⟩
  rw [List.length_append] at hi
  by_cases hlt : i < l.length
  · rw [gd_app1 hlt, nth_app1 hr0.1 hlt]; exact conv (hx i hlt)
  · obtain ⟨j, rfl⟩ : ∃ j, i = l.length + j := ⟨i - l.length, by omega⟩
    rw [gd_app2 (by omega), nth_app3 hr0.1, Nat.add_sub_cancel_left]
    exact conv (hy j (by omega))
end
/-- The asserted bounds of one assertion. -/
def asSz (a : Asn) : Prop := a.1.length ≤ 1048576 ∧ a.2.length ≤ 1048576
end Go.Proofs.Ytdjfdopgjlbloaa
/- Walks: families joined, in the program and in the reference. -/
namespace Go.Proofs.Ytdjfdopgjlbloaa
open Go.RowKit

end Go.Proofs.Ytdjfdopgjlbloaa
