/- Walks: an assertion that another one often entails (the reference's l6Weak). -/
import Derived.Test.YtapoillhgimdiaaWout
import Derived.Deep.Cut
import Derived.Deep.CutRange
namespace Go.Proofs.Ytapoillhgimdiaa
open Go.RowKit

theorem asn_len2 {a : Asn} (h : asnB a = true) : a.1.length ≤ 12 ∧ a.2.length ≤ 6 := by
  simp only [asnB, factsB, Bool.and_eq_true, decide_eq_true_eq] at h
  exact ⟨h.1.1, h.2.1⟩
/-- A row that is read, in blocks of its type. -/
def FT {α : Type} [Dat α] [Tid α] (w : World) (B : Nat) (v : Value) (l : List α) : Prop := RL w (TF w B (Tid.tid α)) v l
section
variable {α : Type} [Flat α] [Tid α] {w w' : World} {B : Nat} {v : Value} {l : List α} {S : Nat → Prop}
theorem FE.ft (h : FE w B v l) : FT w B v l := by
  obtain ⟨xs, h1, h2⟩ := h
  rcases h1 with ⟨h0, _, a, rfl⟩ | h
  · exact .inl ⟨a, 0, rfl, List.eq_nil_of_length_eq_zero h0, Nat.zero_le _, fun _ => rfl⟩
  · have hlt := fun k hk => own_lt h (k := k) hk
    have htf := row_tf h
    rcases own_rsl h with ⟨a, cap, rfl, h0, h1, h2⟩ | ⟨b, o, cap, rfl, h1, h2', h3⟩
    · exact .inl ⟨a, cap, rfl, List.eq_nil_of_length_eq_zero h0, h1, h2⟩
    · refine .inr ⟨b, o, cap, rfl, h1, h2', fun hp => ⟨htf b rfl, (hlt b rfl).2⟩, fun i hi => ⟨_, Dat.more (h2 i hi) fun k _ hk => hk.elim, fun j u hj => ?_⟩⟩
      have hx2 := nth_at hj
      have hlen : i * Dat.sz α + j < xs.length := (List.getElem?_eq_some_iff.1 hx2).1
      rw [h3 (i * Dat.sz α + j) (by rw [← h.1]; exact hlen)]
      simp [hx2]
theorem FT.kept (h : FT w B v l) (hf : Fr S w w') (hs : ∀ k, TF w B (Tid.tid α) k → ¬ S k) : FT w' B v l := by
  refine (RL.kept (RL.more (S' := fun k => TF w B (Tid.tid α) k ∧ TF w' B (Tid.tid α) k) h fun k hk ht => ⟨ht, ht.1, ?_⟩) hf fun k _ ht => hs k ht.1).more fun k _ ht => ht.2
  obtain ⟨cs, hc⟩ := ht.2
  exact ⟨cs, box_kept hc hf (hs k ht)⟩
theorem FT.keep (h : FT w B v l) (hb : Below w.heap.size w w') : FT w' B v l := h.kept (Below.fr hb) fun _ _ h => h
theorem FT.rl (h : FT w B v l) : RL w (fun k => B ≤ k) v l := RL.more h fun _ _ ht => ht.1
theorem FT.tf {B' : Nat} {e' : TypeId} (h : FT w B v l) (hf : Fr (TF w B' e') w w') (hne : Tid.tid α ≠ e') : FT w' B v l := h.kept hf fun k hk hk2 => by
  obtain ⟨_, cs, hc⟩ := hk
  exact tf_ne hc hne hk2
theorem FT.setB (h : FT w B v l) {p : Addr} {u : Value} (hp : ¬ TF w B (Tid.tid α) p.block) : FT (w.setCell p u) B v l := h.kept (fr_set _ _ _) fun _ hk e => hp (e ▸ hk)
end
/-- All but the first. -/
theorem RL.tail {α : Type} [Dat α] {w : World} {S : Nat → Prop} {b o n c : Nat} {x : α} {l : List α} (h : RL w S (.slice (some ⟨b, o, none⟩) n c) (x :: l)) : RL w S (.slice (some ⟨b, o + Dat.sz α, none⟩) (n - 1) (c - 1)) l := by
  rcases h with ⟨_, _, e, h, _⟩ | ⟨b', o', c', e, h1, h2, h3, h4⟩
  · cases h
  · injection e with e1 e2 e3
    injection e1 with e1
    injection e1 with e1 e4
    subst e1; subst e4; subst e2; subst e3
    refine .inr ⟨b, o + Dat.sz α, c - 1, by simp, by simp at h1; omega, by omega, fun hp => h3 (by simp), fun i hi => ?_⟩
    obtain ⟨cs, hrd, hc⟩ := h4 (i + 1) (by simpa using hi)
    refine ⟨cs, hrd, fun j u hj => ?_⟩
    have := hc j u hj
    rw [← this, Nat.add_mul, Nat.one_mul]
    congr 2
    omega
theorem RL.empty0 {α : Type} [Dat α] (w : World) (S : Nat → Prop) (a : Addr) (c : Nat) (hc : c ≤ maxLen) : RL w S (.slice (some a) 0 c) ([] : List α) := .inl ⟨some a, c, rfl, rfl, hc, fun h => by cases h⟩
/-- An atom's kind is set. -/
theorem FE.kind {w : World} {B g n c k : Nat} {l : List Atom} (h : FE w B (.slice (some ⟨g, 0, none⟩) n c) l) (hk : k < l.length) (K : Int) :
    FE (w.setCell ⟨g, k * 3, none⟩ (.int .i64 K)) B (.slice (some ⟨g, 0, none⟩) n c) (l.set k (K, (gd l k).2)) ∧ (∃ u, w.cell? ⟨g, k * 3, none⟩ = some u) ∧ w.frozen? ⟨g, k * 3, none⟩ = false ∧ TF w B 130 g := by
  obtain ⟨xs, h1, h2⟩ := h
  rcases h1 with ⟨h0, _⟩ | h1
  · omega
  · obtain ⟨a, cap, e, _⟩ := row_form h1
    injection e with e1 e2 e3
    subst e2; subst e3
    have hst := (h1.stored (k * 3) (.int .i64 K)).1
    refine ⟨⟨xs.set (k * 3) (.int .i64 K), .inr (by rw [List.length_set]; exact hst), fun i hi => ?_⟩, row_cell h1 (by show k * 3 < l.length * 3; omega), h1.frozenAt _, row_tf h1 g rfl⟩
    rw [List.length_set] at hi
    have hn : nth 3 (xs.set (k * 3) (.int .i64 K)) i = if i = k then (nth 3 xs k).set 0 (.int .i64 K) else nth 3 xs i := nth_set0 (by decide)
    show Dat.rd _ _ (gd (l.set k (K, (gd l k).2)) i) (nth 3 (xs.set (k * 3) (.int .i64 K)) i)
    rw [hn, gd_set hk]
    by_cases e : i = k
    · subst e
      rw [if_pos rfl, if_pos rfl]
      have h3 := h2 i hk
      have h4 := rd_atom (flat_conv (w := w) h3)
      rw [show nth 3 xs i = nth (Dat.sz Atom) xs i from rfl, h4]
      exact rd_atom_mk _ _ (K, (gd l i).2)
    · rw [if_neg e, if_neg e]
      exact flat_conv (h2 i hi)
/-- An assertion that is being weakened: its rows, the box of the result, its own box. -/
structure DW (w0 w : World) (g q bR bA : Nat) (v1 v2 : Value) (l1 : List Fact) (l2 : List Atom) : Prop where
  f : FT w w0.heap.size v1 l1
  a : FE w w0.heap.size v2 l2
  boxR : w.heap[bR]? = some (.cells #[.slice none 0 0, .slice none 0 0] 33 (0, 0))
  boxA : w.heap[bA]? = some (.cells #[v1, v2] 33 (0, 0))
  rdr : Rdr w g q
  fr : Fr (fun j => j = g) w0 w
section
variable {w0 w w' : World} {g q q' bR bA : Nat} {v1 v2 v' x1 x2 : Value} {l1 m1 : List Fact} {l2 m2 : List Atom}
theorem DW.keep (h : DW w0 w g q bR bA v1 v2 l1 l2) (hb : Below w.heap.size w w') : DW w0 w' g q bR bA v1 v2 l1 l2 :=
  ⟨h.f.keep hb, h.a.keep hb, box_keep h.boxR hb, box_keep h.boxA hb, h.rdr.keep hb, h.fr.thenB hb⟩
theorem DW.more (h : DW w0 w g q bR bA v1 v2 l1 l2) (hq : q ≤ q') : DW w0 w g q' bR bA v1 v2 l1 l2 := ⟨h.f, h.a, h.boxR, h.boxA, h.rdr.more hq, h.fr⟩
theorem DW.drawn (h : DW w0 w g q bR bA v1 v2 l1 l2) (hr : Rdr w' g q') (hf : Fr (fun j => j = g) w w') (hg : g < w0.heap.size) (hR : ¬ bR = g) (hA : ¬ bA = g) : DW w0 w' g q' bR bA v1 v2 l1 l2 :=
  ⟨h.f.kept hf fun k hk e => by have := hk.1; omega, h.a.kept hf fun k hk e => by have := hk.1; omega, box_kept h.boxR hf hR, box_kept h.boxA hf hA, hr, h.fr.trans hf⟩
theorem DW.app2 (h : DW w0 w g q bR bA v1 v2 l1 l2) (hg : g < w0.heap.size) (hne : ¬ bR = bA) (hlo : w0.heap.size ≤ bA) (h1 : FE w' w0.heap.size v' m2) (hf : Fr (TF w w0.heap.size 130) w w') :
    DW w0 (w'.setCell ⟨bA, 1, none⟩ v') g q bR bA v1 v' l1 m2 := by
  have hA := box_tf h.boxA hf (by decide)
  have hS : ∀ {e : TypeId}, 33 ≠ e → ¬ TF w' w0.heap.size e bA := fun hne => tf_ne hA hne
  exact ⟨(h.f.tf hf (by decide)).setB (hS (by decide)), h1.setB (hS (by decide)), box_other (box_tf h.boxR hf (by decide)) _ _ hne, box_set1 hA _,
    ((h.rdr.kept hf fun k hk e => by have := e.1; omega).kept (fr_set _ _ _) fun k hk e => by simp at e; omega),
    (h.fr.then hf fun i hi e => by have := e.1; omega).then (fr_set _ _ _) fun i hi e => by simp at e; omega⟩
/-- The facts are another part of their row. -/
theorem DW.facts (h : DW w0 w g q bR bA v1 v2 l1 l2) (hg : g < w0.heap.size) (hne : ¬ bR = bA) (hlo : w0.heap.size ≤ bA) (h1 : FT w w0.heap.size v' m1) : DW w0 (w.setCell ⟨bA, 0, none⟩ v') g q bR bA v' v2 m1 l2 := by
  have hS : ∀ {e : TypeId}, 33 ≠ e → ¬ TF w w0.heap.size e bA := fun hne => tf_ne h.boxA hne
  exact ⟨h1.setB (hS (by decide)), h.a.setB (hS (by decide)), box_other h.boxR _ _ hne, box_set0 h.boxA _,
    h.rdr.kept (fr_set _ _ _) (fun k hk e => by simp at e; omega), h.fr.then (fr_set _ _ _) fun i hi e => by simp at e; omega⟩
theorem DW.kind {gA n c k : Nat} (h : DW w0 w g q bR bA v1 (.slice (some ⟨gA, 0, none⟩) n c) l1 l2) (hg : g < w0.heap.size) (hk : k < l2.length) (K : Int) :
    DW w0 (w.setCell ⟨gA, k * 3, none⟩ (.int .i64 K)) g q bR bA v1 (.slice (some ⟨gA, 0, none⟩) n c) l1 (l2.set k (K, (gd l2 k).2)) := by
  obtain ⟨h1, _, _, ht⟩ := h.a.kind hk K
  have h0 := ht.1
  have nR : ¬ bR = gA := fun e => tf_ne h.boxR (by decide) (e ▸ ht)
  have nA : ¬ bA = gA := fun e => tf_ne h.boxA (by decide) (e ▸ ht)
  have hF : ¬ TF w w0.heap.size 83 gA := by
    obtain ⟨_, cs, hc⟩ := ht
    exact tf_ne hc (by decide)
  exact ⟨h.f.setB hF, h1, box_other h.boxR _ _ nR, box_other h.boxA _ _ nA, h.rdr.kept (fr_set _ _ _) (fun k hk e => by simp at e; omega), h.fr.then (fr_set _ _ _) fun i hi e => by simp at e; omega⟩
/-- Another assertion is laid in the box. -/
theorem DW.put (h : DW w0 w g q bR bA v1 v2 l1 l2) (hg : g < w0.heap.size) (hne : ¬ bR = bA) (hlo : w0.heap.size ≤ bA) (o1 : FE w w0.heap.size x1 m1) (o2 : FE w w0.heap.size x2 m2) :
    DW w0 ((w.setCell ⟨bA, 0, none⟩ x1).setCell ⟨bA, 1, none⟩ x2) g q bR bA x1 x2 m1 m2 :=
  ⟨(o1.set2 h.boxA (by decide)).ft, o2.set2 h.boxA (by decide), box_other (box_other h.boxR _ _ hne) _ _ hne, box_set1 (box_set0 h.boxA _) _,
    (h.rdr.kept (fr_set _ _ _) (fun k hk e => by simp at e; omega)).kept (fr_set _ _ _) (fun k hk e => by simp at e; omega),
    (h.fr.then (fr_set _ _ _) (fun i hi e => by simp at e; omega)).then (fr_set _ _ _) (fun i hi e => by simp at e; omega)⟩
/-- The result is laid. -/
theorem DW.done (h : DW w0 w g q bR bA v1 v2 l1 l2) (hg : g < w0.heap.size) (hlo : w0.heap.size ≤ bR) (x y : Value) :
    (RL ((w.setCell ⟨bR, 0, none⟩ x).setCell ⟨bR, 1, none⟩ y) (fun k => w0.heap.size ≤ k) v1 l1 ∧ RL ((w.setCell ⟨bR, 0, none⟩ x).setCell ⟨bR, 1, none⟩ y) (fun k => w0.heap.size ≤ k) v2 l2) ∧
    Rdr ((w.setCell ⟨bR, 0, none⟩ x).setCell ⟨bR, 1, none⟩ y) g q ∧ Fr (fun j => j = g) w0 ((w.setCell ⟨bR, 0, none⟩ x).setCell ⟨bR, 1, none⟩ y) := by
  have hS : ∀ {e : TypeId}, 33 ≠ e → ¬ TF w w0.heap.size e bR := fun hne => tf_ne h.boxR hne
  have hS2 : ∀ {e : TypeId}, 33 ≠ e → ¬ TF (w.setCell ⟨bR, 0, none⟩ x) w0.heap.size e bR := fun hne => tf_ne (box_set0 h.boxR x) hne
  exact ⟨⟨((h.f.setB (hS (by decide))).setB (hS2 (by decide))).rl, ((h.a.setB (hS (by decide))).setB (hS2 (by decide))).rl⟩,
    (h.rdr.kept (fr_set _ _ _) (fun k hk e => by simp at e; omega)).kept (fr_set _ _ _) (fun k hk e => by simp at e; omega),
    (h.fr.then (fr_set _ _ _) (fun i hi e => by simp at e; omega)).then (fr_set _ _ _) (fun i hi e => by simp at e; omega)⟩
end
end Go.Proofs.Ytapoillhgimdiaa
