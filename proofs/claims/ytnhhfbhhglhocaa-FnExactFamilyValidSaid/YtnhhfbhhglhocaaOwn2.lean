/- Owned data: one element is changed, rows are filled, rows grow. -/
import Derived.Test.YtnhhfbhhglhocaaLf2
namespace Go.Proofs.Ytnhhfbhhglhocaa
open Go.RowKit

section
variable {α : Type} [Own α] [Tid α] {w w' : World} {B B' : Nat} {v : Value} {l : List α} {fp : List Nat}

theorem flat_get {fps : List (List Nat)} (hn : fps.flatten.Nodup) {i j k : Nat} (hi : i < fps.length) (hj : j < fps.length) (hij : ¬ i = j) (h1 : k ∈ gd fps i) (h2 : k ∈ gd fps j) : False := by
  rw [gd_of hi] at h1
  rw [gd_of hj] at h2
  rw [List.Nodup, List.pairwise_flatten] at hn
  have := hn.2
  rw [List.pairwise_iff_getElem] at this
  rcases Nat.lt_or_gt_of_ne hij with h | h
  · exact this i j hi hj h k h1 k h2 rfl
  · exact this j i hj hi h k h2 k h1 rfl
theorem flat_one {fps : List (List Nat)} (hn : fps.flatten.Nodup) {i : Nat} (hi : i < fps.length) : (gd fps i).Nodup := by
  rw [gd_of hi]
  rw [List.Nodup, List.pairwise_flatten] at hn
  exact hn.1 _ (List.getElem_mem hi)

theorem gd_set {β : Type} [Inhabited β] {l : List β} {k i : Nat} {x : β} (hk : k < l.length) : gd (l.set k x) i = if i = k then x else gd l i := by
  unfold gd
  rw [List.getD_eq_getElem?_getD, List.getElem?_set, List.getD_eq_getElem?_getD]
  by_cases e : k = i
  · subst e; rw [if_pos rfl, if_pos hk, if_pos rfl]; rfl
  · rw [if_neg e, if_neg (fun h => e h.symm)]

/-- One element of owned data: its cells; what it is when it alone has changed. -/
theorem OL.open (h : OL w B v l fp) (hn : fp.Nodup) {k : Nat} (hk : k < l.length) : ∃ cs f g cap, v = .slice (some ⟨g, 0, none⟩) l.length cap ∧ g < w.heap.size ∧ ¬ g ∈ f ∧ Own.own w B (gd l k) cs f ∧ f.Nodup ∧ (∀ j ∈ f, j ∈ fp) ∧
    (∀ j u, cs[j]? = some u → w.cell? ⟨g, k * Dat.sz α + j, none⟩ = some u) ∧
    (∀ w' x, Fr (fun j => j ∈ f) w w' → Own.own w' B x cs f → OL w' B v (l.set k x) fp ∧ ∀ j u, cs[j]? = some u → w'.cell? ⟨g, k * Dat.sz α + j, none⟩ = some u) := by
  obtain ⟨xs, fps, hr, hl, rfl, ho⟩ := h
  obtain ⟨a, cap, rfl, ha⟩ := row_form hr
  obtain ⟨g, rfl⟩ := ha k hk
  rw [List.nodup_append] at hn
  obtain ⟨n1, n2, n3⟩ := hn
  have hgm : g ∈ (Value.slice (some ⟨g, 0, none⟩) l.length cap).ownBlock.toList := by simp [Value.ownBlock]
  have hgl := own_lt hr (k := g) rfl
  have hcell : ∀ w'' : World, w''.ownsRow B (Tid.tid α) (Dat.sz α) (.slice (some ⟨g, 0, none⟩) l.length cap) l.length xs → ∀ j u, (nth (Dat.sz α) xs k)[j]? = some u → w''.cell? ⟨g, k * Dat.sz α + j, none⟩ = some u := fun w'' hr j u hj => by
    have hx := nth_at hj
    rw [hr.cellAt _ (by rw [← hr.1]; exact (List.getElem?_eq_some_iff.1 hx).1)]
    exact hx
  have hgf : ∀ i, i < l.length → ¬ g ∈ gd fps i := fun i hi hm => n3 g hgm g (mem_flat (by omega) hm) rfl
  refine ⟨nth (Dat.sz α) xs k, gd fps k, g, cap, rfl, hgl.2, hgf k hk, ho k hk, flat_one n2 (by omega), fun j hj => List.mem_append_right _ (mem_flat (by omega) hj), hcell w hr, fun w' x hf hx => ?_⟩
  have hr' := own_kept hr hf (fun j hj hm => by
    have : j = g := by simpa [Value.ownBlock] using hj
    subst this; exact hgf k hk hm)
  refine ⟨⟨xs, fps, by rw [List.length_set]; exact hr', by rw [List.length_set]; exact hl, rfl, fun i hi => ?_⟩, hcell w' hr'⟩
  rw [List.length_set] at hi
  rw [gd_set hk]
  by_cases e : i = k
  · subst e; rw [if_pos rfl]; exact hx
  · rw [if_neg e]
    exact Own.okept (ho i hi) hf fun j hj hm => flat_get n2 (by omega) (by omega) e hj hm

/-- The first k elements of a row of n are owned data. -/
def PL (w : World) (B : Nat) (v : Value) (n : Nat) (l : List α) (k : Nat) : Prop :=
  ∃ (xs : List Value) (fps : List (List Nat)), w.ownsRow B (Tid.tid α) (Dat.sz α) v n xs ∧ fps.length = k ∧ (v.ownBlock.toList ++ fps.flatten).Nodup ∧
    ∀ i, i < k → Own.own w B (gd l i) (nth (Dat.sz α) xs i) (gd fps i)
theorem PL.row {n k : Nat} (h : PL w B v n l k) : ∃ xs, w.ownsRow B (Tid.tid α) (Dat.sz α) v n xs := by obtain ⟨xs, _, hr, _⟩ := h; exact ⟨xs, hr⟩
theorem PL.zero {n : Nat} {xs : List Value} (h : w.ownsRow B (Tid.tid α) (Dat.sz α) v n xs) (l : List α) : PL w B v n l 0 :=
  ⟨xs, [], h, rfl, by rw [List.flatten_nil, List.append_nil]; cases v.ownBlock <;> simp, fun i hi => absurd hi (by omega)⟩
theorem PL.done (h : PL w B v l.length l l.length) : OO w B v l := by
  obtain ⟨xs, fps, hr, hl, hn, ho⟩ := h
  exact ⟨_, ⟨xs, fps, hr, hl, rfl, ho⟩, hn⟩
theorem PL.lt {n k : Nat} (h : PL w B v n l k) : ∀ g, some g = v.ownBlock → B ≤ g ∧ g < w.heap.size := by
  obtain ⟨xs, fps, hr, _⟩ := h; exact fun g hg => own_lt hr hg
theorem PL.keep {n k : Nat} (h : PL w B v n l k) (hb : Below w.heap.size w w') : PL w' B v n l k := by
  obtain ⟨xs, fps, hr, hl, hn, ho⟩ := h
  exact ⟨xs, fps, own_keep hr hb, hl, hn, fun i hi => Own.okept (ho i hi) (Below.fr hb) fun _ _ h => h⟩


/-- One more: two cells are stored in a row of full length. -/
theorem PL.set2 {n k g cap : Nat} {w2 : World} {c0 c1 : Value} {fx : List Nat} (hsz : Dat.sz α = 2) (h : PL w B (.slice (some ⟨g, 0, none⟩) n cap) n l k) (hk : k < n) (hb : Below w.heap.size w w2)
    (hx : Own.own w2 w.heap.size (gd l k) [c0, c1] fx) (hfx : fx.Nodup) : PL ((w2.setCell ⟨g, k * 2, none⟩ c0).setCell ⟨g, k * 2 + 1, none⟩ c1) B (.slice (some ⟨g, 0, none⟩) n cap) n l (k + 1) := by
  obtain ⟨xs, fps, hr, hl, hn, ho⟩ := h
  have hgl := own_lt hr (k := g) rfl
  rw [hsz] at hr ho
  have hr2 := own_keep hr hb
  obtain ⟨t1, g1⟩ := hr2.stored (k * 2) c0
  obtain ⟨t2, g2⟩ := t1.stored (k * 2 + 1) c1
  have hfr : Fr (fun j => j = g) w2 ((w2.setCell ⟨g, k * 2, none⟩ c0).setCell ⟨g, k * 2 + 1, none⟩ c1) := ((grown_fr g1).trans (grown_fr g2)).mono fun j _ e => by simpa using e
  have hlt := Own.lt hx
  have hn0 := List.nodup_append.1 hn
  have hgf : ∀ i, i < k → ¬ g ∈ gd fps i := fun i hi hm => hn0.2.2 g (by simp [Value.ownBlock]) g (mem_flat (by omega) hm) rfl
  refine ⟨_, fps ++ [fx], by rw [hsz]; exact t2, by simp [hl], ?_, fun i hi => ?_⟩
  · rw [List.flatten_append, ← List.append_assoc]
    refine List.nodup_append.2 ⟨hn, by simpa using hfx, fun a ha b hb2 e => ?_⟩
    subst e
    have hb3 := hlt a (by simpa using hb2)
    rcases List.mem_append.1 ha with ha | ha
    · have := own_lt hr (mem_ownBlock.1 ha); omega
    · obtain ⟨i, hi, hm⟩ := flat_mem ha
      have := (Own.lt (ho i (by omega)) a hm).2; omega
  · rw [hsz, nth_set2 hr2.1 hk]
    by_cases e : i = k
    · subst e
      rw [if_pos rfl, ← hl, gd_snoc]
      rw [hl]
      exact Own.mono (Own.okept hx hfr fun j hj e => by have := (hlt j hj).1; omega) (by omega)
    · rw [if_neg e, gd_app1 (by omega)]
      exact Own.okept (ho i (by omega)) ((Below.fr hb).mono (S' := fun j => j = g) (fun _ _ h => h.elim) |>.trans hfr) fun j hj e => by
        subst e; exact hgf i (by omega) hj
/-- The same with one cell. -/
theorem PL.set1 {n k g cap : Nat} {w2 : World} {c0 : Value} {fx : List Nat} (hsz : Dat.sz α = 1) (h : PL w B (.slice (some ⟨g, 0, none⟩) n cap) n l k) (hk : k < n) (hb : Below w.heap.size w w2)
    (hx : Own.own w2 w.heap.size (gd l k) [c0] fx) (hfx : fx.Nodup) : PL (w2.setCell ⟨g, k, none⟩ c0) B (.slice (some ⟨g, 0, none⟩) n cap) n l (k + 1) := by
  obtain ⟨xs, fps, hr, hl, hn, ho⟩ := h
  have hgl := own_lt hr (k := g) rfl
  rw [hsz] at hr ho
  have hr2 := own_keep hr hb
  obtain ⟨t1, g1⟩ := hr2.stored k c0
  have hfr : Fr (fun j => j = g) w2 (w2.setCell ⟨g, k, none⟩ c0) := (grown_fr g1).mono fun j _ e => by simpa using e
  have hlt := Own.lt hx
  have hn0 := List.nodup_append.1 hn
  have hgf : ∀ i, i < k → ¬ g ∈ gd fps i := fun i hi hm => hn0.2.2 g (by simp [Value.ownBlock]) g (mem_flat (by omega) hm) rfl
  refine ⟨_, fps ++ [fx], by rw [hsz]; exact t1, by simp [hl], ?_, fun i hi => ?_⟩
  · rw [List.flatten_append, ← List.append_assoc]
    refine List.nodup_append.2 ⟨hn, by simpa using hfx, fun a ha b hb2 e => ?_⟩
    subst e
    have hb3 := hlt a (by simpa using hb2)
    rcases List.mem_append.1 ha with ha | ha
    · have := own_lt hr (mem_ownBlock.1 ha); omega
    · obtain ⟨i, hi, hm⟩ := flat_mem ha
      have := (Own.lt (ho i (by omega)) a hm).2; omega
  · have e1 : nth 1 (xs.set k c0) i = if i = k then [c0] else nth 1 xs i := by
      have h0 := nth_set0 (sz := 1) (k := k) (i := i) (xs := xs) (u := c0) (by omega)
      rw [Nat.mul_one] at h0
      rw [h0]
      by_cases e : i = k
      · rw [if_pos e, if_pos e]
        have := nth_len hr2.1 hk
        match hq : nth 1 xs k, this with
        | [_], _ => rfl
      · rw [if_neg e, if_neg e]
    rw [hsz, e1]
    by_cases e : i = k
    · subst e
      rw [if_pos rfl, ← hl, gd_snoc]
      rw [hl]
      exact Own.mono (Own.okept hx hfr fun j hj e => by have := (hlt j hj).1; omega) (by omega)
    · rw [if_neg e, gd_app1 (by omega)]
      exact Own.okept (ho i (by omega)) ((Below.fr hb).mono (S' := fun j => j = g) (fun _ _ h => h.elim) |>.trans hfr) fun j hj e => by
        subst e; exact hgf i (by omega) hj
end
end Go.Proofs.Ytnhhfbhhglhocaa
