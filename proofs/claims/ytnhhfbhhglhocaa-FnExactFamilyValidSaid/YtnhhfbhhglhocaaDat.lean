/- Data that lie in cells: numbers, truth values, pairs, lists in slices; how they are read, how they are owned. No program is in sight. -/
import Derived.Test.YtnhhfbhhglhocaaVoc
import Derived.Test.YtnhhfbhhglhocaaLaws
namespace Go.Proofs.Ytnhhfbhhglhocaa
open Go.RowKit

/-- The i-th of a list. -/
def gd {α : Type} [Inhabited α] (l : List α) (i : Nat) : α := l.getD i default
theorem gd_of {α : Type} [Inhabited α] {l : List α} {i : Nat} (h : i < l.length) : gd l i = l[i] := by simp [gd, h]
theorem gd_mem {α : Type} [Inhabited α] {l : List α} {i : Nat} (h : i < l.length) : gd l i ∈ l := by rw [gd_of h]; exact List.getElem_mem h
theorem gd_app1 {α : Type} [Inhabited α] {l m : List α} {i : Nat} (h : i < l.length) : gd (l ++ m) i = gd l i := by simp [gd, List.getElem?_append, h]
theorem gd_app2 {α : Type} [Inhabited α] {l m : List α} {i : Nat} (h : l.length ≤ i) : gd (l ++ m) i = gd m (i - l.length) := by
  have : ¬ i < l.length := by omega
  simp [gd, List.getElem?_append, this]
theorem gd_snoc {α : Type} [Inhabited α] (l : List α) (x : α) : gd (l ++ [x]) l.length = x := by simp [gd]
theorem gd_cons0 {α : Type} [Inhabited α] (x : α) (l : List α) : gd (x :: l) 0 = x := rfl
theorem gd_take {α : Type} [Inhabited α] {l : List α} {i k : Nat} (h : i < k) : gd (l.take k) i = gd l i := by simp [gd, h]
theorem take_gd {α : Type} [Inhabited α] {l : List α} {k : Nat} (h : k < l.length) : l.take (k + 1) = l.take k ++ [gd l k] := by
  rw [List.take_succ_eq_append_getElem h, gd_of h]
theorem gd_ext {α : Type} [Inhabited α] {l m : List α} (hl : l.length = m.length) (h : ∀ i, i < l.length → gd l i = gd m i) : l = m := by
  apply List.ext_getElem hl
  intro i h1 h2
  rw [← gd_of h1, ← gd_of h2]; exact h i h1
theorem gi_gd (l : List Int) (i : Nat) : gi l i = gd l i := rfl

/-- How a kind of data lies in cells. `rd w S a cs`: the cells `cs` read as `a`; all blocks that are met satisfy `S`. -/
class Dat (α : Type) extends Inhabited α where
  sz : Nat
  rd : World → (Nat → Prop) → α → List Value → Prop
  len : ∀ {w S a cs}, rd w S a cs → cs.length = sz
  kept : ∀ {w w' S T a cs}, rd w S a cs → Fr T w w' → (∀ k, k < w.heap.size → S k → ¬ T k) → rd w' S a cs
  more : ∀ {w S S' a cs}, rd w S a cs → (∀ k, k < w.heap.size → S k → S' k) → rd w S' a cs

instance : Dat Int where
  sz := 1
  rd := fun _ _ a cs => cs = [.int .i64 a]
  len := fun h => by subst h; rfl
  kept := fun h _ _ => h
  more := fun h _ => h
instance : Dat Bool where
  sz := 1
  rd := fun _ _ a cs => cs = [.bool a]
  len := fun h => by subst h; rfl
  kept := fun h _ _ => h
  more := fun h _ => h
instance {α β : Type} [Dat α] [Dat β] : Dat (α × β) where
  sz := Dat.sz α + Dat.sz β
  rd := fun w S p cs => ∃ c1 c2, cs = c1 ++ c2 ∧ Dat.rd w S p.1 c1 ∧ Dat.rd w S p.2 c2
  len := fun h => by
    obtain ⟨c1, c2, rfl, h1, h2⟩ := h
    rw [List.length_append, Dat.len h1, Dat.len h2]
  kept := fun h hf hs => by
    obtain ⟨c1, c2, e, h1, h2⟩ := h
    exact ⟨c1, c2, e, Dat.kept h1 hf hs, Dat.kept h2 hf hs⟩
  more := fun h hs => by
    obtain ⟨c1, c2, e, h1, h2⟩ := h
    exact ⟨c1, c2, e, Dat.more h1 hs, Dat.more h2 hs⟩

/-- `v` is a slice that reads as the list `l`. -/
def RL {α : Type} [Dat α] (w : World) (S : Nat → Prop) (v : Value) (l : List α) : Prop :=
  (∃ a cap, v = .slice a 0 cap ∧ l = [] ∧ cap ≤ maxLen ∧ (a = none → cap = 0)) ∨
  ∃ b o cap, v = .slice (some ⟨b, o, none⟩) l.length cap ∧ l.length ≤ cap ∧ cap ≤ maxLen ∧ (0 < l.length → S b ∧ b < w.heap.size) ∧
    ∀ i, i < l.length → ∃ cs, Dat.rd w S (gd l i) cs ∧ ∀ j u, cs[j]? = some u → w.cell? ⟨b, o + (i * Dat.sz α + j), none⟩ = some u

section
variable {α : Type} [Dat α] {w w' : World} {S S' T : Nat → Prop} {v : Value} {l : List α}
theorem RL.kept (h : RL w S v l) (hf : Fr T w w') (hs : ∀ k, k < w.heap.size → S k → ¬ T k) : RL w' S v l := by
  rcases h with h | ⟨b, o, cap, e, h1, h2, h3, h4⟩
  · exact .inl h
  · refine .inr ⟨b, o, cap, e, h1, h2, fun h => ⟨(h3 h).1, Nat.lt_of_lt_of_le (h3 h).2 hf.size⟩, fun i hi => ?_⟩
    obtain ⟨cs, hc, hcell⟩ := h4 i hi
    obtain ⟨g1, g2⟩ := h3 (by omega)
    exact ⟨cs, Dat.kept hc hf hs, fun j u hj => hf.cell (hs b g2 g1) (hcell j u hj)⟩
theorem RL.more (h : RL w S v l) (hs : ∀ k, k < w.heap.size → S k → S' k) : RL w S' v l := by
  rcases h with h | ⟨b, o, cap, e, h1, h2, h3, h4⟩
  · exact .inl h
  · refine .inr ⟨b, o, cap, e, h1, h2, fun h => ⟨hs b (h3 h).2 (h3 h).1, (h3 h).2⟩, fun i hi => ?_⟩
    obtain ⟨cs, hc, hcell⟩ := h4 i hi
    exact ⟨cs, Dat.more hc hs, hcell⟩
theorem RL.keep (h : RL w S v l) (hb : Below w.heap.size w w') : RL w' S v l := h.kept (Below.fr hb) fun _ _ _ h => h
theorem RL.alloc (h : RL w S v l) (o : Obj) : RL (w.alloc o) S v l := h.keep (below_alloc _ _)
theorem RL.any (h : RL w S v l) : RL w (fun _ => True) v l := h.more fun _ _ _ => trivial
/-- Below a mark of the heap. -/
theorem RL.below {B : Nat} (h : RL w (· < B) v l) (hb : Below B w w') : RL w' (· < B) v l := by
  refine h.kept (T := fun k => B ≤ k) (Below.chg hb) fun k _ h1 h2 => ?_
  have : k < B := h1
  omega
theorem RL.len (h : RL w S v l) : l.length ≤ maxLen := by
  rcases h with ⟨a, cap, rfl, h, _⟩ | ⟨b, o, cap, rfl, h1, h2, _⟩
  · rw [h]; exact Nat.zero_le _
  · omega
theorem RL.form (h : RL w S v l) : ∃ a cap, v = .slice a l.length cap := by
  rcases h with ⟨a, cap, rfl, h, _⟩ | ⟨b, o, cap, rfl, _⟩
  · exact ⟨a, cap, by rw [h]; rfl⟩
  · exact ⟨_, _, rfl⟩
theorem RL.nil (w : World) (S : Nat → Prop) : RL w S (.slice none 0 0) ([] : List α) := .inl ⟨none, 0, rfl, rfl, Nat.zero_le _, fun _ => rfl⟩
/-- The shape of a slice and what its cells hold. -/
theorem RL.cells (h : RL w S v l) : ∃ a cap, v = .slice a l.length cap ∧ l.length ≤ cap ∧ cap ≤ maxLen ∧
    ∀ i, i < l.length → ∃ b o, a = some ⟨b, o, none⟩ ∧ S b ∧ b < w.heap.size ∧ ∃ cs, Dat.rd w S (gd l i) cs ∧ ∀ j u, cs[j]? = some u → w.cell? ⟨b, o + (i * Dat.sz α + j), none⟩ = some u := by
  rcases h with ⟨a, cap, rfl, rfl, h, _⟩ | ⟨b, o, cap, rfl, h1, h2, h3, h4⟩
  · exact ⟨a, cap, rfl, Nat.zero_le _, h, fun i hi => absurd hi (by simp)⟩
  · exact ⟨_, cap, rfl, h1, h2, fun i hi => ⟨b, o, rfl, (h3 (by omega)).1, (h3 (by omega)).2, h4 i hi⟩⟩
end

instance {α : Type} [Dat α] : Dat (List α) where
  sz := 1
  rd := fun w S l cs => ∃ v, cs = [v] ∧ RL w S v l
  len := fun h => by obtain ⟨v, rfl, _⟩ := h; rfl
  kept := fun h hf hs => by obtain ⟨v, e, h⟩ := h; exact ⟨v, e, h.kept hf hs⟩
  more := fun h hs => by obtain ⟨v, e, h⟩ := h; exact ⟨v, e, h.more hs⟩

abbrev Fact := Bool × Int × Int
abbrev Atom := Int × Int × Int
abbrev Asn := List Fact × List Atom
abbrev CPf := List Int × List (List Int)

section
variable {w w' : World} {S : Nat → Prop} {cs : List Value}
theorem rd_list {α : Type} [Dat α] {l : List α} (h : Dat.rd w S l cs) : ∃ v, cs = [v] ∧ RL w S v l := h
theorem rd_fact {f : Fact} (h : Dat.rd w S f cs) : cs = [.bool f.1, .int .i64 f.2.1, .int .i64 f.2.2] := by
  obtain ⟨_, _, rfl, rfl, _, _, rfl, rfl, rfl⟩ := h; rfl
theorem rd_atom {f : Atom} (h : Dat.rd w S f cs) : cs = [.int .i64 f.1, .int .i64 f.2.1, .int .i64 f.2.2] := by
  obtain ⟨_, _, rfl, rfl, _, _, rfl, rfl, rfl⟩ := h; rfl
theorem rd_asn {a : Asn} (h : Dat.rd w S a cs) : ∃ v1 v2, cs = [v1, v2] ∧ RL w S v1 a.1 ∧ RL w S v2 a.2 := by
  obtain ⟨_, _, rfl, ⟨v1, rfl, h1⟩, ⟨v2, rfl, h2⟩⟩ := h
  exact ⟨v1, v2, rfl, h1, h2⟩
theorem rd_cpf {a : CPf} (h : Dat.rd w S a cs) : ∃ v1 v2, cs = [v1, v2] ∧ RL w S v1 a.1 ∧ RL w S v2 a.2 := by
  obtain ⟨_, _, rfl, ⟨v1, rfl, h1⟩, ⟨v2, rfl, h2⟩⟩ := h
  exact ⟨v1, v2, rfl, h1, h2⟩
theorem rd_fact_mk (w : World) (S : Nat → Prop) (f : Fact) : Dat.rd w S f [.bool f.1, .int .i64 f.2.1, .int .i64 f.2.2] :=
  ⟨[.bool f.1], [.int .i64 f.2.1, .int .i64 f.2.2], rfl, rfl, [.int .i64 f.2.1], [.int .i64 f.2.2], rfl, rfl, rfl⟩
theorem rd_atom_mk (w : World) (S : Nat → Prop) (f : Atom) : Dat.rd w S f [.int .i64 f.1, .int .i64 f.2.1, .int .i64 f.2.2] :=
  ⟨[.int .i64 f.1], [.int .i64 f.2.1, .int .i64 f.2.2], rfl, rfl, [.int .i64 f.2.1], [.int .i64 f.2.2], rfl, rfl, rfl⟩
theorem rd_asn_mk {a : Asn} {v1 v2 : Value} (h1 : RL w S v1 a.1) (h2 : RL w S v2 a.2) : Dat.rd w S a [v1, v2] :=
  ⟨[v1], [v2], rfl, ⟨v1, rfl, h1⟩, ⟨v2, rfl, h2⟩⟩
theorem rd_cpf_mk {a : CPf} {v1 v2 : Value} (h1 : RL w S v1 a.1) (h2 : RL w S v2 a.2) : Dat.rd w S a [v1, v2] :=
  ⟨[v1], [v2], rfl, ⟨v1, rfl, h1⟩, ⟨v2, rfl, h2⟩⟩

/-- The cells of one element, in the walk's spelling. -/
theorem RL.ints {v : Value} {l : List Int} (h : RL w S v l) : RInts w v l := by
  rcases h with ⟨a, cap, e, h, h1, h2⟩ | ⟨b, o, cap, e, h1, h2, h3, h4⟩
  · exact .inl ⟨a, cap, e, by rw [h]; rfl, h1, h2⟩
  · refine .inr ⟨b, o, cap, e, h1, h2, fun i hi => ?_⟩
    obtain ⟨cs, rfl, hc⟩ := h4 i (by omega)
    have := hc 0 _ rfl
    rwa [Nat.add_zero, show i * Dat.sz Int = i from Nat.mul_one i] at this
theorem RInts.rl {v : Value} {l : List Int} (h : RInts w v l) : RL w (fun k => some k = v.ownBlock) v l := by
  rcases h with ⟨a, cap, e, h, h1, h2⟩ | ⟨b, o, cap, e, h1, h2, h3⟩
  · exact .inl ⟨a, cap, e, List.eq_nil_of_length_eq_zero h, h1, h2⟩
  · refine .inr ⟨b, o, cap, e, h1, h2, fun hp => ⟨by rw [e]; rfl, ?_⟩, fun i hi => ⟨[.int .i64 (gi l i)], rfl, fun j u hj => ?_⟩⟩
    · have := World.block_lt_of_cell? w _ (h3 0 (by omega))
      simpa using this
    · cases j with
      | succ j => simp at hj
      | zero =>
        simp at hj; subst hj
        rw [Nat.add_zero, show i * Dat.sz Int = i from Nat.mul_one i]
        exact h3 i (by omega)
theorem RInts.rlb {v : Value} {l : List Int} (h : RInts w v l) : RL w (· < w.heap.size) v l := h.rl.more fun _ h _ => h
theorem RL.factAt {v : Value} {l : List Fact} (h : RL w S v l) : ∃ a cap, v = .slice a l.length cap ∧ l.length ≤ cap ∧ cap ≤ maxLen ∧
    ∀ i, i < l.length → ∃ b o, a = some ⟨b, o, none⟩ ∧ S b ∧ b < w.heap.size ∧ w.cell? ⟨b, o + i * 3, none⟩ = some (.bool (gd l i).1) ∧ w.cell? ⟨b, o + i * 3 + 1, none⟩ = some (.int .i64 (gd l i).2.1) ∧ w.cell? ⟨b, o + i * 3 + 2, none⟩ = some (.int .i64 (gd l i).2.2) := by
  obtain ⟨a, cap, e, h1, h2, h3⟩ := h.cells
  refine ⟨a, cap, e, h1, h2, fun i hi => ?_⟩
  obtain ⟨b, o, ea, hs, hb, cs, hr, hc⟩ := h3 i hi
  have := rd_fact hr
  subst this
  exact ⟨b, o, ea, hs, hb, hc 0 _ rfl, hc 1 _ rfl, hc 2 _ rfl⟩
theorem RL.atomAt {v : Value} {l : List Atom} (h : RL w S v l) : ∃ a cap, v = .slice a l.length cap ∧ l.length ≤ cap ∧ cap ≤ maxLen ∧
    ∀ i, i < l.length → ∃ b o, a = some ⟨b, o, none⟩ ∧ S b ∧ b < w.heap.size ∧ w.cell? ⟨b, o + i * 3, none⟩ = some (.int .i64 (gd l i).1) ∧ w.cell? ⟨b, o + i * 3 + 1, none⟩ = some (.int .i64 (gd l i).2.1) ∧ w.cell? ⟨b, o + i * 3 + 2, none⟩ = some (.int .i64 (gd l i).2.2) := by
  obtain ⟨a, cap, e, h1, h2, h3⟩ := h.cells
  refine ⟨a, cap, e, h1, h2, fun i hi => ?_⟩
  obtain ⟨b, o, ea, hs, hb, cs, hr, hc⟩ := h3 i hi
  have := rd_atom hr
  subst this
  exact ⟨b, o, ea, hs, hb, hc 0 _ rfl, hc 1 _ rfl, hc 2 _ rfl⟩
theorem RL.asnAt {v : Value} {l : List Asn} (h : RL w S v l) : ∃ a cap, v = .slice a l.length cap ∧ l.length ≤ cap ∧ cap ≤ maxLen ∧
    ∀ i, i < l.length → ∃ b o v1 v2, a = some ⟨b, o, none⟩ ∧ S b ∧ b < w.heap.size ∧ w.cell? ⟨b, o + i * 2, none⟩ = some v1 ∧ w.cell? ⟨b, o + i * 2 + 1, none⟩ = some v2 ∧ RL w S v1 (gd l i).1 ∧ RL w S v2 (gd l i).2 := by
  obtain ⟨a, cap, e, h1, h2, h3⟩ := h.cells
  refine ⟨a, cap, e, h1, h2, fun i hi => ?_⟩
  obtain ⟨b, o, ea, hs, hb, cs, hr, hc⟩ := h3 i hi
  obtain ⟨v1, v2, rfl, r1, r2⟩ := rd_asn hr
  exact ⟨b, o, v1, v2, ea, hs, hb, hc 0 _ rfl, hc 1 _ rfl, r1, r2⟩
theorem RL.listAt {α : Type} [Dat α] {v : Value} {l : List (List α)} (h : RL w S v l) : ∃ a cap, v = .slice a l.length cap ∧ l.length ≤ cap ∧ cap ≤ maxLen ∧
    ∀ i, i < l.length → ∃ b o v1, a = some ⟨b, o, none⟩ ∧ S b ∧ b < w.heap.size ∧ w.cell? ⟨b, o + i, none⟩ = some v1 ∧ RL w S v1 (gd l i) := by
  obtain ⟨a, cap, e, h1, h2, h3⟩ := h.cells
  refine ⟨a, cap, e, h1, h2, fun i hi => ?_⟩
  obtain ⟨b, o, ea, hs, hb, cs, hr, hc⟩ := h3 i hi
  obtain ⟨v1, rfl, r1⟩ := rd_list hr
  have := hc 0 _ rfl
  rw [Nat.add_zero, show i * Dat.sz (List α) = i from Nat.mul_one i] at this
  exact ⟨b, o, v1, ea, hs, hb, this, r1⟩
end
end Go.Proofs.Ytnhhfbhhglhocaa
