/- Data that are owned: trees of blocks of the call's own. -/
import Derived.Test.YtnhhfbhhglhocaaDat
import Derived.Test.YtnhhfbhhglhocaaL2
namespace Go.Proofs.Ytnhhfbhhglhocaa
open Go.RowKit

/-- The type number of a kind of data. -/
class Tid (α : Type) where
  tid : Nat
instance : Tid Int := ⟨3⟩
instance : Tid Fact := ⟨153⟩
instance : Tid Atom := ⟨134⟩

/-- How a kind of data is owned: its cells, and the blocks that hold what they point to. -/
class Own (α : Type) extends Dat α where
  own : World → Nat → α → List Value → List Nat → Prop
  lt : ∀ {w B a cs fp}, own w B a cs fp → ∀ k ∈ fp, B ≤ k ∧ k < w.heap.size
  read : ∀ {w B a cs fp}, own w B a cs fp → rd w (· ∈ fp) a cs
  okept : ∀ {w w' B T a cs fp}, own w B a cs fp → Fr T w w' → (∀ k ∈ fp, ¬ T k) → own w' B a cs fp
  mono : ∀ {w B B' a cs fp}, own w B a cs fp → B' ≤ B → own w B' a cs fp

instance : Own Int where
  own := fun _ _ a cs fp => cs = [.int .i64 a] ∧ fp = []
  lt := fun h k hk => by rw [h.2] at hk; cases hk
  read := fun h => h.1
  okept := fun h _ _ => h
  mono := fun h _ => h
instance : Own Bool where
  own := fun _ _ a cs fp => cs = [.bool a] ∧ fp = []
  lt := fun h k hk => by rw [h.2] at hk; cases hk
  read := fun h => h.1
  okept := fun h _ _ => h
  mono := fun h _ => h
instance {α β : Type} [Own α] [Own β] : Own (α × β) where
  own := fun w B p cs fp => ∃ c1 c2 f1 f2, cs = c1 ++ c2 ∧ fp = f1 ++ f2 ∧ Own.own w B p.1 c1 f1 ∧ Own.own w B p.2 c2 f2
  lt := fun h k hk => by
    obtain ⟨c1, c2, f1, f2, rfl, rfl, h1, h2⟩ := h
    rcases List.mem_append.1 hk with hk | hk
    · exact Own.lt h1 k hk
    · exact Own.lt h2 k hk
  read := fun h => by
    obtain ⟨c1, c2, f1, f2, rfl, rfl, h1, h2⟩ := h
    exact ⟨c1, c2, rfl, Dat.more (Own.read h1) fun k _ hk => List.mem_append_left _ hk, Dat.more (Own.read h2) fun k _ hk => List.mem_append_right _ hk⟩
  okept := fun h hf hs => by
    obtain ⟨c1, c2, f1, f2, rfl, rfl, h1, h2⟩ := h
    exact ⟨c1, c2, f1, f2, rfl, rfl, Own.okept h1 hf fun k hk => hs k (List.mem_append_left _ hk), Own.okept h2 hf fun k hk => hs k (List.mem_append_right _ hk)⟩
  mono := fun h hB => by
    obtain ⟨c1, c2, f1, f2, rfl, rfl, h1, h2⟩ := h
    exact ⟨c1, c2, f1, f2, rfl, rfl, Own.mono h1 hB, Own.mono h2 hB⟩

/-- The cells of the i-th element. -/
def nth (sz : Nat) (xs : List Value) (i : Nat) : List Value := (xs.drop (i * sz)).take sz
theorem nth_at {sz i j : Nat} {xs : List Value} {u : Value} (h : (nth sz xs i)[j]? = some u) : xs[i * sz + j]? = some u := by
  unfold nth at h
  rw [List.getElem?_take] at h
  split at h
  · rwa [List.getElem?_drop] at h
  · cases h
theorem nth_app1 {sz i n : Nat} {xs ys : List Value} (hl : xs.length = n * sz) (hi : i < n) : nth sz (xs ++ ys) i = nth sz xs i := by
  unfold nth
  have h1 : (i + 1) * sz ≤ n * sz := Nat.mul_le_mul_right _ hi
  rw [Nat.succ_mul] at h1
  rw [List.drop_append_of_le_length (by omega), List.take_append_of_le_length (by rw [List.length_drop]; omega)]
theorem nth_app2 {sz n : Nat} {xs ys : List Value} (hl : xs.length = n * sz) (hy : ys.length = sz) : nth sz (xs ++ ys) n = ys := by
  unfold nth
  rw [← hl, List.drop_left, ← hy, List.take_length]

/-- `v` is an owned slice; its elements are owned too. -/
def OL {α : Type} [Own α] [Tid α] (w : World) (B : Nat) (v : Value) (l : List α) (fp : List Nat) : Prop :=
  ∃ (xs : List Value) (fps : List (List Nat)), w.ownsRow B (Tid.tid α) (Dat.sz α) v l.length xs ∧ fps.length = l.length ∧ fp = v.ownBlock.toList ++ fps.flatten ∧
    ∀ i, i < l.length → Own.own w B (gd l i) (nth (Dat.sz α) xs i) (gd fps i)

theorem mem_ownBlock {v : Value} {k : Nat} : k ∈ v.ownBlock.toList ↔ some k = v.ownBlock := by
  cases h : v.ownBlock with
  | none => simp
  | some x => simp
theorem mem_flat {fps : List (List Nat)} {k i : Nat} (hi : i < fps.length) (h : k ∈ gd fps i) : k ∈ fps.flatten :=
  List.mem_flatten.2 ⟨_, gd_mem hi, h⟩
theorem flat_mem {fps : List (List Nat)} {k : Nat} (h : k ∈ fps.flatten) : ∃ i, i < fps.length ∧ k ∈ gd fps i := by
  obtain ⟨f, hf, hk⟩ := List.mem_flatten.1 h
  obtain ⟨i, hi, rfl⟩ := List.getElem_of_mem hf
  exact ⟨i, hi, by rw [gd_of hi]; exact hk⟩

section
variable {α : Type} [Own α] [Tid α] {w w' : World} {B B' : Nat} {v : Value} {l : List α} {fp : List Nat} {T : Nat → Prop}
theorem OL.lt (h : OL w B v l fp) : ∀ k ∈ fp, B ≤ k ∧ k < w.heap.size := by
  obtain ⟨xs, fps, hr, hl, rfl, ho⟩ := h
  intro k hk
  rcases List.mem_append.1 hk with hk | hk
  · exact own_lt hr (mem_ownBlock.1 hk)
  · obtain ⟨i, hi, hk⟩ := flat_mem hk
    exact Own.lt (ho i (by omega)) k hk
theorem OL.okept (h : OL w B v l fp) (hf : Fr T w w') (hs : ∀ k ∈ fp, ¬ T k) : OL w' B v l fp := by
  obtain ⟨xs, fps, hr, hl, rfl, ho⟩ := h
  refine ⟨xs, fps, own_kept hr hf (fun k hk => hs k (List.mem_append_left _ (mem_ownBlock.2 hk))), hl, rfl, fun i hi => Own.okept (ho i hi) hf fun k hk => hs k (List.mem_append_right _ (mem_flat (by omega) hk))⟩
theorem OL.mono (h : OL w B v l fp) (hB : B' ≤ B) : OL w B' v l fp := by
  obtain ⟨xs, fps, hr, hl, rfl, ho⟩ := h
  exact ⟨xs, fps, own_mono hr hB, hl, rfl, fun i hi => Own.mono (ho i hi) hB⟩
theorem OL.keep (h : OL w B v l fp) (hb : Below w.heap.size w w') : OL w' B v l fp := h.okept (Below.fr hb) fun _ _ h => h
theorem OL.read (h : OL w B v l fp) : RL w (· ∈ fp) v l := by
  have hlt := h.lt
  obtain ⟨xs, fps, hr, hl, rfl, ho⟩ := h
  have hcells := own_rsl hr
  rcases hcells with ⟨a, cap, rfl, h0, h1, h2⟩ | ⟨b, o, cap, rfl, h1, h2, h3⟩
  · exact .inl ⟨a, cap, rfl, List.eq_nil_of_length_eq_zero h0, h1, h2⟩
  · refine .inr ⟨b, o, cap, rfl, h1, h2, fun hp => ?_, fun i hi => ⟨_, Dat.more (Own.read (ho i hi)) fun k _ hk => List.mem_append_right _ (mem_flat (by omega) hk), fun j u hj => ?_⟩⟩
    · have hm : b ∈ (Value.slice (some ⟨b, o, none⟩) l.length cap).ownBlock.toList := mem_ownBlock.2 rfl
      exact ⟨List.mem_append_left _ hm, (hlt b (List.mem_append_left _ hm)).2⟩
    · have hx := nth_at hj
      have hlen : i * Dat.sz α + j < xs.length := (List.getElem?_eq_some_iff.1 hx).1
      have := h3 (i * Dat.sz α + j) (by rw [← hr.1]; exact hlen)
      rw [this]
      simp [hx]
theorem OL.nil (w : World) (B : Nat) : OL w B (.slice none 0 0) ([] : List α) [] :=
  ⟨[], [], World.ownsRow_nil _ _ _ _, rfl, rfl, fun i hi => absurd hi (by simp)⟩
end

instance {α : Type} [Own α] [Tid α] : Own (List α) where
  own := fun w B l cs fp => ∃ v, cs = [v] ∧ OL w B v l fp
  lt := fun h => by obtain ⟨v, _, h⟩ := h; exact h.lt
  read := fun h => by obtain ⟨v, e, h⟩ := h; exact ⟨v, e, h.read⟩
  okept := fun h hf hs => by obtain ⟨v, e, h⟩ := h; exact ⟨v, e, h.okept hf hs⟩
  mono := fun h hB => by obtain ⟨v, e, h⟩ := h; exact ⟨v, e, h.mono hB⟩
instance : Tid (List Int) := ⟨29⟩
instance : Tid Asn := ⟨67⟩
instance : Tid CPf := ⟨69⟩

/-- An assertion (or any two lists by value) that is owned, its blocks all different. -/
def OA {α β : Type} [Own α] [Tid α] [Own β] [Tid β] (w : World) (B : Nat) (v1 v2 : Value) (a : List α × List β) : Prop :=
  ∃ f1 f2, OL w B v1 a.1 f1 ∧ OL w B v2 a.2 f2 ∧ (f1 ++ f2).Nodup
/-- The same for one list. -/
def OO {α : Type} [Own α] [Tid α] (w : World) (B : Nat) (v : Value) (l : List α) : Prop := ∃ f, OL w B v l f ∧ f.Nodup

section
variable {α β : Type} [Own α] [Tid α] [Own β] [Tid β] {w w' : World} {B B' : Nat} {v v1 v2 : Value} {l : List α} {a : List α × List β} {T : Nat → Prop}
theorem OO.keep (h : OO w B v l) (hb : Below w.heap.size w w') : OO w' B v l := by obtain ⟨f, h, hn⟩ := h; exact ⟨f, h.keep hb, hn⟩
theorem OO.mono (h : OO w B v l) (hB : B' ≤ B) : OO w B' v l := by obtain ⟨f, h, hn⟩ := h; exact ⟨f, h.mono hB, hn⟩
theorem OO.kept (h : OO w B v l) (hf : Fr T w w') (hs : ∀ k, B ≤ k → k < w.heap.size → ¬ T k) : OO w' B v l := by
  obtain ⟨f, h, hn⟩ := h; exact ⟨f, h.okept hf fun k hk => hs k (h.lt k hk).1 (h.lt k hk).2, hn⟩
theorem OO.read (h : OO w B v l) : RL w (fun k => B ≤ k) v l := by obtain ⟨f, h, _⟩ := h; exact h.read.more fun k _ hk => (h.lt k hk).1
theorem OO.form (h : OO w B v l) : ∃ a cap, v = .slice a l.length cap := h.read.form
theorem OA.keep (h : OA w B v1 v2 a) (hb : Below w.heap.size w w') : OA w' B v1 v2 a := by obtain ⟨f1, f2, h1, h2, hn⟩ := h; exact ⟨f1, f2, h1.keep hb, h2.keep hb, hn⟩
theorem OA.mono (h : OA w B v1 v2 a) (hB : B' ≤ B) : OA w B' v1 v2 a := by obtain ⟨f1, f2, h1, h2, hn⟩ := h; exact ⟨f1, f2, h1.mono hB, h2.mono hB, hn⟩
theorem OA.kept (h : OA w B v1 v2 a) (hf : Fr T w w') (hs : ∀ k, B ≤ k → k < w.heap.size → ¬ T k) : OA w' B v1 v2 a := by
  obtain ⟨f1, f2, h1, h2, hn⟩ := h
  exact ⟨f1, f2, h1.okept hf fun k hk => hs k (h1.lt k hk).1 (h1.lt k hk).2, h2.okept hf fun k hk => hs k (h2.lt k hk).1 (h2.lt k hk).2, hn⟩
theorem OA.one (h : OA w B v1 v2 a) : RL w (fun k => B ≤ k) v1 a.1 := by obtain ⟨f1, f2, h1, h2, hn⟩ := h; exact h1.read.more fun k _ hk => (h1.lt k hk).1
theorem OA.two (h : OA w B v1 v2 a) : RL w (fun k => B ≤ k) v2 a.2 := by obtain ⟨f1, f2, h1, h2, hn⟩ := h; exact h2.read.more fun k _ hk => (h2.lt k hk).1
/-- A list is lengthened by one: where the row lies now, and the new element. -/
theorem OL.snoc {fx : List Nat} {v' : Value} {xs cs : List Value} {x : α} {fps : List (List Nat)} (hr : w'.ownsRow B (Tid.tid α) (Dat.sz α) v' (l ++ [x]).length (xs ++ cs)) (hlx : xs.length = l.length * Dat.sz α)
    (hl : fps.length = l.length) (ho : ∀ i, i < l.length → Own.own w' B (gd l i) (nth (Dat.sz α) xs i) (gd fps i)) (hx : Own.own w' B x cs fx) :
    OL w' B v' (l ++ [x]) (v'.ownBlock.toList ++ (fps.flatten ++ fx)) := by
  refine ⟨xs ++ cs, fps ++ [fx], hr, by simp [hl], by simp, fun i hi => ?_⟩
  rw [List.length_append, List.length_singleton] at hi
  by_cases h : i < l.length
  · rw [gd_app1 h, gd_app1 (by omega), nth_app1 hlx h]; exact ho i h
  · obtain rfl : i = l.length := by omega
    rw [gd_snoc, nth_app2 hlx (Dat.len (Own.read hx)), ← hl, gd_snoc]; exact hx
end
end Go.Proofs.Ytnhhfbhhglhocaa
