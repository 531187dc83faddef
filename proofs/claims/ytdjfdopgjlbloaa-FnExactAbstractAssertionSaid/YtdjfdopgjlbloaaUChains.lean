/- Walks: copies whose rows are the call's own; facts sometimes made invalid. -/
import Derived.Test.YtdjfdopgjlbloaaUDHolds2
import Derived.Test.YtdjfdopgjlbloaaUHeldD
import Derived.Deep.Cut
import Derived.Deep.CutBlock
import Derived.Deep.CutRange
namespace Go.Proofs.Ytdjfdopgjlbloaa
open Go.RowKit

theorem tf_below {w w' : World} {B : Nat} {e : TypeId} (h : Fr (TF w B e) w w') (hB : B ≤ w.heap.size) : Below B w w' := h.below hB fun k hk h2 => by have := h2.1; omega
theorem FE.set2 {α : Type} [Flat α] [Tid α] {w : World} {B b : Nat} {v x y : Value} {l : List α} {T : TypeId} {cs : Array Value} (h : FE w B v l) (hb : w.heap[b]? = some (.cells cs T (0, 0))) (hT : T ≠ Tid.tid α) :
    FE ((w.setCell ⟨b, 0, none⟩ x).setCell ⟨b, 1, none⟩ y) B v l := by
  refine (h.setB (fun hk => tf_ne hb hT hk)).setB fun hk => ?_
  refine hk.2.elim fun cs2 hc => ?_
  have hlt := (Array.getElem?_eq_some_iff.1 hb).1
  have hb2 : (w.setCell ⟨b, 0, none⟩ x).heap[b]? = some (.cells (cs.setIfInBounds 0 x) T (0, 0)) := by
    simp [World.setCell, Array.getElem?_modify, hb]
  simp only at hc
  rw [hb2] at hc
  injection hc with hc
  injection hc with _ hc
  exact hT hc
end Go.Proofs.Ytdjfdopgjlbloaa
/- Walks: assertions sometimes made invalid; chains. (Printed by gen_mut2.py.) -/
namespace Go.Proofs.Ytdjfdopgjlbloaa
open Go.RowKit

end Go.Proofs.Ytdjfdopgjlbloaa
/- Walks: draws of chains of atoms. (Printed by gen_chains.py.) -/
namespace Go.Proofs.Ytdjfdopgjlbloaa
open Go.RowKit

/-- A row of flat data of the call's own. -/
def FO {α : Type} [Flat α] [Tid α] (w : World) (B : Nat) (v : Value) (l : List α) : Prop :=
  ∃ xs, w.ownsRow B (Tid.tid α) (Dat.sz α) v l.length xs ∧ ∀ i, i < l.length → Dat.rd w (fun _ => False) (gd l i) (nth (Dat.sz α) xs i)
section
variable {α : Type} [Flat α] [Tid α] {w w' : World} {B : Nat} {v v' : Value} {l : List α} {S : Nat → Prop} {xs cs : List Value} {x : α}
theorem FO.nil (w : World) (B : Nat) : FO w B (.slice none 0 0) ([] : List α) := ⟨[], World.ownsRow_nil _ _ _ _, fun i hi => absurd hi (by simp)⟩
theorem FO.kept (h : FO w B v l) (hf : Fr S w w') (hs : ∀ k, some k = v.ownBlock → ¬ S k) : FO w' B v l := by
  obtain ⟨xs, h1, h2⟩ := h
  exact ⟨xs, own_kept h1 hf hs, fun i hi => flat_conv (h2 i hi)⟩
theorem FO.keep (h : FO w B v l) (hb : Below w.heap.size w w') : FO w' B v l := h.kept (Below.fr hb) fun _ _ h => h
theorem FO.lt (h : FO w B v l) : ∀ k, some k = v.ownBlock → B ≤ k ∧ k < w.heap.size := by
  obtain ⟨xs, h1, _⟩ := h
  exact fun k hk => own_lt h1 hk
theorem FO.tf (h : FO w B v l) : ∀ k, some k = v.ownBlock → TF w B (Tid.tid α) k := by
  obtain ⟨xs, h1, _⟩ := h
  exact fun k hk => row_tf h1 k hk
theorem FO.app (hr : w.ownsRow B (Tid.tid α) (Dat.sz α) v l.length xs) (hx : ∀ i, i < l.length → Dat.rd w (fun _ => False) (gd l i) (nth (Dat.sz α) xs i)) (hc : Dat.rd w (fun _ => False) x cs)
    (hr9 : w'.ownsRow B (Tid.tid α) (Dat.sz α) v' (l.length + 1) (xs ++ cs)) : FO w' B v' (l ++ [x]) := by
  refine ⟨xs ++ cs, by rw [List.length_append]; exact hr9, fun i hi => ?_⟩
  rw [List.length_append, List.length_singleton] at hi
  by_cases hlt : i < l.length
  · rw [gd_app1 hlt, nth_app1 hr.1 hlt]; exact flat_conv (hx i hlt)
  · obtain rfl : i = l.length := by omega
    rw [gd_snoc, nth_app2 hr.1 (Dat.len hc)]
    exact flat_conv hc
end
/-- An assertion that is being drawn, with rows of its own. -/
structure DC (w0 w : World) (g q bR bA : Nat) (v1 v2 : Value) (l1 : List Fact) (l2 : List Atom) : Prop where
  f : FO w w0.heap.size v1 l1
  a : FO w w0.heap.size v2 l2
  boxR : w.heap[bR]? = some (.cells #[.slice none 0 0, .slice none 0 0] 26 (0, 0))
  boxA : w.heap[bA]? = some (.cells #[v1, v2] 26 (0, 0))
  rdr : Rdr w g q
  fr : Fr (fun j => j = g) w0 w
section
variable {w0 w w' : World} {g q q' bR bA : Nat} {v1 v2 v' : Value} {l1 : List Fact} {l2 m2 : List Atom}
theorem DC.keep (h : DC w0 w g q bR bA v1 v2 l1 l2) (hb : Below w.heap.size w w') : DC w0 w' g q bR bA v1 v2 l1 l2 :=
  ⟨h.f.keep hb, h.a.keep hb, box_keep h.boxR hb, box_keep h.boxA hb, h.rdr.keep hb, h.fr.thenB hb⟩
theorem DC.more (h : DC w0 w g q bR bA v1 v2 l1 l2) (hq : q ≤ q') : DC w0 w g q' bR bA v1 v2 l1 l2 := ⟨h.f, h.a, h.boxR, h.boxA, h.rdr.more hq, h.fr⟩
/-- A store into a block of another owner. -/
theorem DC.set (h : DC w0 w g q bR bA v1 v2 l1 l2) {p : Addr} (u : Value) (hp0 : w0.heap.size ≤ p.block) (hg : g < w0.heap.size) (h1 : ∀ k, some k = v1.ownBlock → ¬ k = p.block) (h2 : ∀ k, some k = v2.ownBlock → ¬ k = p.block) (hR : ¬ bR = p.block) (hA : ¬ bA = p.block) :
    DC w0 (w.setCell p u) g q bR bA v1 v2 l1 l2 :=
  ⟨h.f.kept (fr_set _ _ _) fun k hk e => h1 k hk e, h.a.kept (fr_set _ _ _) fun k hk e => h2 k hk e, box_other h.boxR _ _ hR, box_other h.boxA _ _ hA,
    h.rdr.kept (fr_set _ _ _) (fun k hk e => by have e' : k = p.block := e; omega), h.fr.then (fr_set _ _ _) fun i hi e => by have e' : i = p.block := e; omega⟩
/-- An atom more. -/
theorem DC.app (h : DC w0 w g q bR bA (.slice none 0 0) v2 l1 l2) (hg : g < w0.heap.size) (hne : ¬ bR = bA) (hlo : w0.heap.size ≤ bA) (h9 : FO w' w0.heap.size v' (l2 ++ m2)) (hf : Fr (fun k => some k = v2.ownBlock) w w') :
    DC w0 (w'.setCell ⟨bA, 1, none⟩ v') g q bR bA (.slice none 0 0) v' l1 (l2 ++ m2) := by
  have nA : ¬ some bA = v2.ownBlock := fun e => tf_ne h.boxA (by decide) (h.a.tf _ e)
  have nR : ¬ some bR = v2.ownBlock := fun e => tf_ne h.boxR (by decide) (h.a.tf _ e)
  have hA := box_kept h.boxA hf nA
  have n9 : ∀ k, some k = v'.ownBlock → ¬ k = bA := fun k hk e => by subst e; exact tf_ne hA (by decide) (h9.tf _ hk)
  exact ⟨(h.f.kept hf fun k hk => by simp [Value.ownBlock] at hk).kept (fr_set _ _ _) fun k hk => by simp [Value.ownBlock] at hk, h9.kept (fr_set _ _ _) fun k hk e => n9 k hk e,
    box_other (box_kept h.boxR hf nR) _ _ hne, box_set1 hA _, (h.rdr.kept hf fun k hk e => by have := h.a.lt k e; omega).kept (fr_set _ _ _) (fun k hk e => by simp at e; omega),
    (h.fr.then hf fun i hi e => by have := h.a.lt i e; omega).then (fr_set _ _ _) fun i hi e => by simp at e; omega⟩
end
end Go.Proofs.Ytdjfdopgjlbloaa
