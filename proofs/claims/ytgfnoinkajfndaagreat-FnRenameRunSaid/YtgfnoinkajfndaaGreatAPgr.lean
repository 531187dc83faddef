/- Data: commands, as trees by depth. -/
import Derived.Test.YtgfnoinkajfndaaGreatAData2
import Derived.Test.YtgfnoinkajfndaaGreatAData3
import Derived.Test.YtgfnoinkajfndaaGreatAAppF
set_option linter.unusedVariables false
namespace Go.Proofs.YtgfnoinkajfndaaGreat
open Go.RowKit

/-- A row of flat data that is owned, or an empty slice without room. -/
def FW2 {α : Type} [Flat α] [Tid α] (w : World) (B : Nat) (v : Value) (l : List α) (fp : List Nat) : Prop := (l = [] ∧ fp = [] ∧ ∃ a, v = .slice a 0 0) ∨ (OL w B v l fp ∧ fp = v.ownBlock.toList)
section
variable {α : Type} [Flat α] [Tid α] {w w' : World} {B B' : Nat} {v : Value} {l : List α} {fp : List Nat} {T : Nat → Prop}
theorem FW2.lt (h : FW2 w B v l fp) : ∀ k ∈ fp, B ≤ k ∧ k < w.heap.size := by
  rcases h with ⟨_, rfl, _⟩ | ⟨h, _⟩
  · intro k hk; cases hk
  · exact h.lt
theorem FW2.read (h : FW2 w B v l fp) : RL w (· ∈ fp) v l := by
  rcases h with ⟨rfl, rfl, a, rfl⟩ | ⟨h, _⟩
  · exact .inl ⟨a, 0, rfl, rfl, by unfold maxLen; omega, fun _ => rfl⟩
  · exact h.read
theorem FW2.okept (h : FW2 w B v l fp) (hf : Fr T w w') (hs : ∀ k ∈ fp, ¬ T k) : FW2 w' B v l fp := by
  rcases h with h | ⟨h, e⟩
  · exact .inl h
  · exact .inr ⟨h.okept hf hs, e⟩
theorem FW2.mono (h : FW2 w B v l fp) (hB : B' ≤ B) : FW2 w B' v l fp := by
  rcases h with h | ⟨h, e⟩
  · exact .inl h
  · exact .inr ⟨h.mono hB, e⟩
theorem FE.fo (h : FE w B v l) : ∃ fp, FW2 w B v l fp ∧ fp.Nodup := by
  obtain ⟨xs, hr, hx⟩ := h
  rcases hr with ⟨h0, _, ha⟩ | hr
  · exact ⟨[], .inl ⟨List.eq_nil_of_length_eq_zero h0, rfl, ha⟩, List.nodup_nil⟩
  · refine ⟨v.ownBlock.toList, .inr ⟨⟨xs, List.replicate l.length [], hr, by simp, by simp, fun i hi => ?_⟩, rfl⟩, nodup_own v⟩
    have e : gd (List.replicate l.length ([] : List Nat)) i = [] := by rw [gd_of (by simpa using hi), List.getElem_replicate]
    rw [e]
    exact Flat.flat (hx i hi)
end
/-- An assertion by value whose rows are owned, or empty without room. -/
def InvA : Type := Asn
instance : Own InvA where
  default := (([], []) : Asn)
  sz := 2
  rd := fun w S a cs => Dat.rd (α := Asn) w S a cs
  len := fun h => Dat.len (α := Asn) h
  kept := fun h hf hs => Dat.kept (α := Asn) h hf hs
  more := fun h hs => Dat.more (α := Asn) h hs
  one := fun h => Dat.one (α := Asn) h
  own := fun w B (a : Asn) cs fp => ∃ v1 v2 f1 f2, cs = [v1, v2] ∧ fp = f1 ++ f2 ∧ FW2 w B v1 a.1 f1 ∧ FW2 w B v2 a.2 f2
  lt := fun h k hk => by
    obtain ⟨v1, v2, f1, f2, _, rfl, h1, h2⟩ := h
    rcases List.mem_append.1 hk with hk | hk
    · exact h1.lt k hk
    · exact h2.lt k hk
  read := fun h => by
    obtain ⟨v1, v2, f1, f2, rfl, rfl, h1, h2⟩ := h
    exact rd_asn_mk (h1.read.more fun k _ hk => List.mem_append_left _ hk) (h2.read.more fun k _ hk => List.mem_append_right _ hk)
  okept := fun h hf hs => by
    obtain ⟨v1, v2, f1, f2, e1, rfl, h1, h2⟩ := h
    exact ⟨v1, v2, f1, f2, e1, rfl, h1.okept hf fun k hk => hs k (List.mem_append_left _ hk), h2.okept hf fun k hk => hs k (List.mem_append_right _ hk)⟩
  mono := fun h hB => by
    obtain ⟨v1, v2, f1, f2, e1, e2, h1, h2⟩ := h
    exact ⟨v1, v2, f1, f2, e1, e2, h1.mono hB, h2.mono hB⟩
/-- Two owned rows of facts and of atoms lie in different blocks. -/
theorem fo_apart {w : World} {B : Nat} {v1 v2 : Value} {l : List Fact} {m : List Atom} {f1 f2 : List Nat} (h1 : FW2 w B v1 l f1) (h2 : FW2 w B v2 m f2) (n1 : f1.Nodup) (n2 : f2.Nodup) : (f1 ++ f2).Nodup := by
  refine List.nodup_append.2 ⟨n1, n2, fun x hx y hy e => ?_⟩
  subst e
  rcases h1 with ⟨_, rfl, _⟩ | ⟨⟨xs, _, hr, _⟩, e1⟩
  · cases hx
  · rcases h2 with ⟨_, rfl, _⟩ | ⟨⟨ys, _, hs, _⟩, e2⟩
    · cases hy
    · rw [e1] at hx
      rw [e2] at hy
      obtain ⟨_, cs, hc⟩ := row_tf hr x (mem_ownBlock.1 hx)
      obtain ⟨_, ds, hd⟩ := row_tf hs x (mem_ownBlock.1 hy)
      rw [hc] at hd
      injection hd with hd
      injection hd with _ h
      exact absurd h (by decide)
/-- Commands of a depth at most. -/
def Cm : Nat → Type
  | 0 => Unit
  | d + 1 => Int × Int × Int × Fact × InvA × List (Cm d) × List (Cm d)
instance tidCm (d : Nat) : Tid (Cm d) := ⟨77⟩
instance ownCm : (d : Nat) → Own (Cm d)
  | 0 => { default := (), sz := 10, rd := fun _ _ _ _ => False, len := fun h => h.elim, kept := fun h _ _ => h, more := fun h _ => h, one := fun h => h.elim,
           own := fun _ _ _ _ _ => False, lt := fun h => h.elim, read := fun h => h, okept := fun h _ _ => h, mono := fun h _ => h }
  | d + 1 => by
    haveI := ownCm d
    exact inferInstanceAs (Own (Int × Int × Int × Fact × InvA × List (Cm d) × List (Cm d)))
section
variable {d : Nat}
def Cm.kind (c : Cm (d + 1)) : Int := c.1
def Cm.a (c : Cm (d + 1)) : Int := c.2.1
def Cm.b (c : Cm (d + 1)) : Int := c.2.2.1
def Cm.test (c : Cm (d + 1)) : Fact := c.2.2.2.1
def Cm.inv (c : Cm (d + 1)) : Asn := c.2.2.2.2.1
def Cm.body (c : Cm (d + 1)) : List (Cm d) := c.2.2.2.2.2.1
def Cm.els (c : Cm (d + 1)) : List (Cm d) := c.2.2.2.2.2.2
def Cm.mk (k a b : Int) (t : Fact) (i : Asn) (x y : List (Cm d)) : Cm (d + 1) := (k, a, b, t, i, x, y)
/-- The cells of a command. -/
def cmCells (k a b : Int) (t : Fact) (f1 f2 x y : Value) : List Value := [.int .i64 k, .int .i64 a, .int .i64 b, .bool t.1, .int .i64 t.2.1, .int .i64 t.2.2, f1, f2, x, y]
end
theorem sz_cm (d : Nat) : Dat.sz (Cm d) = 10 := by cases d <;> rfl
section
variable {d : Nat} {w : World} {S : Nat → Prop} {B : Nat} {v : Value}
theorem rd_cm {c : Cm (d + 1)} {cs : List Value} (h : Dat.rd w S c cs) :
    ∃ f1 f2 x y, cs = cmCells c.kind c.a c.b c.test f1 f2 x y ∧ (RL w S f1 c.inv.1 ∧ RL w S f2 c.inv.2) ∧ (RL w S x c.body ∧ RL w S y c.els) := by
  obtain ⟨c1, r1, rfl, h1, c2, r2, rfl, h2, c3, r3, rfl, h3, c4, r4, rfl, h4, c5, r5, rfl, h5, c6, r6, rfl, h6, h7⟩ := h
  obtain ⟨x, e6, k6⟩ := rd_list h6
  obtain ⟨y, e7, k7⟩ := rd_list h7
  subst e6 e7
  obtain ⟨f1, f2, rfl, g1, g2⟩ := rd_asn h5
  have e4 := rd_fact h4
  subst e4
  have e1 : c1 = [.int .i64 c.1] := h1
  have e2 : c2 = [.int .i64 c.2.1] := h2
  have e3 : c3 = [.int .i64 c.2.2.1] := h3
  subst e1 e2 e3
  exact ⟨f1, f2, x, y, rfl, ⟨g1, g2⟩, k6, k7⟩
theorem rd_cm_mk {c : Cm (d + 1)} {f1 f2 x y : Value} (h1 : RL w S f1 c.inv.1) (h2 : RL w S f2 c.inv.2) (h3 : RL w S x c.body) (h4 : RL w S y c.els) : Dat.rd w S c (cmCells c.kind c.a c.b c.test f1 f2 x y) :=
  ⟨[.int .i64 c.1], _, rfl, rfl, [.int .i64 c.2.1], _, rfl, rfl, [.int .i64 c.2.2.1], _, rfl, rfl, [.bool c.test.1, .int .i64 c.test.2.1, .int .i64 c.test.2.2], _, rfl, rd_fact_mk w S c.test, [f1, f2], [x, y], rfl, ⟨[f1], [f2], rfl, ⟨f1, rfl, h1⟩, f2, rfl, h2⟩, [x], [y], rfl, ⟨x, rfl, h3⟩, y, rfl, h4⟩
/-- A row of commands, read. -/
theorem RL.cmAt {l : List (Cm (d + 1))} (h : RL w S v l) : ∃ a cap, v = .slice a l.length cap ∧ l.length ≤ cap ∧ cap ≤ maxLen ∧
    ∀ i, i < l.length → ∃ b o f1 f2 x y, a = some ⟨b, o, none⟩ ∧ S b ∧ b < w.heap.size ∧ (∀ j u, (cmCells (gd l i).kind (gd l i).a (gd l i).b (gd l i).test f1 f2 x y)[j]? = some u → w.cell? ⟨b, o + i * 10 + j, none⟩ = some u) ∧
      (RL w S f1 (gd l i).inv.1 ∧ RL w S f2 (gd l i).inv.2) ∧ (RL w S x (gd l i).body ∧ RL w S y (gd l i).els) := by
  obtain ⟨a, cap, e, h1, h2, h3⟩ := h.cells
  refine ⟨a, cap, e, h1, h2, fun i hi => ?_⟩
  obtain ⟨b, o, ea, hs, hb, cs, hr, hc⟩ := h3 i hi
  obtain ⟨f1, f2, x, y, rfl, g1, g2⟩ := rd_cm hr
  refine ⟨b, o, f1, f2, x, y, ea, hs, hb, fun j u hj => ?_, g1, g2⟩
  have := hc j u hj
  rw [sz_cm] at this
  rwa [← Nat.add_assoc] at this
/-- At depth 0 nothing is read. -/
theorem RL.cm0 {l : List (Cm 0)} (h : RL w S v l) : l = [] := by
  cases l with
  | nil => rfl
  | cons c l =>
    obtain ⟨a, cap, e, h1, h2, h3⟩ := h.cells
    obtain ⟨b, o, ea, hs, hb, cs, hr, hc⟩ := h3 0 (by simp)
    exact hr.elim
/-- A command that is owned. -/
theorem own_cm_mk {c : Cm (d + 1)} {f1 f2 x y : Value} {p1 p2 p3 p4 : List Nat} (h1 : FW2 w B f1 c.inv.1 p1) (h2 : FW2 w B f2 c.inv.2 p2) (h3 : OL w B x c.body p3) (h4 : OL w B y c.els p4) : Own.own w B c (cmCells c.kind c.a c.b c.test f1 f2 x y) ((p1 ++ p2) ++ (p3 ++ p4)) :=
  ⟨[.int .i64 c.1], _, [], _, rfl, rfl, ⟨rfl, rfl⟩, [.int .i64 c.2.1], _, [], _, rfl, rfl, ⟨rfl, rfl⟩, [.int .i64 c.2.2.1], _, [], _, rfl, rfl, ⟨rfl, rfl⟩, [.bool c.test.1, .int .i64 c.test.2.1, .int .i64 c.test.2.2], _, [], _, rfl, rfl, own_cFact w B c.test, [f1, f2], [x, y], _, _, rfl, rfl, ⟨f1, f2, p1, p2, rfl, rfl, h1, h2⟩, [x], [y], p3, p4, rfl, rfl, ⟨x, rfl, h3⟩, y, rfl, h4⟩
end
end Go.Proofs.YtgfnoinkajfndaaGreat
/- Owned lists grow by one element. -/
namespace Go.Proofs.YtgfnoinkajfndaaGreat
open Go.RowKit

theorem OO.ints {w : World} {B : Nat} {v : Value} {l : List Int} (h : w.ownsRow B 3 1 v l.length (ints l)) : OO w B v l := ⟨_, ints_OL h, nodup_own v⟩
section
variable {α : Type} [Own α] [Tid α] {w0 w2 : World} {B : Nat} {v : Value} {l : List α} {T : Nat → Prop}
/-- An owned list is carried over a frame; then one element is appended. -/
theorem PL.grow (h : PL w0 B v l.length l l.length) (hf0 : Fr T w0 w2) (hT : ∀ k, B ≤ k → k < w0.heap.size → ¬ T k) (hB : B ≤ w0.heap.size) :
    ∃ xs, w2.ownsRow B (Tid.tid α) (Dat.sz α) v l.length xs ∧ ∀ (x : α) (cs : List Value) (fx : List Nat) (v' : Value) (w3 : World), Own.own w2 w0.heap.size x cs fx → fx.Nodup → Fr (fun k => some k = v.ownBlock) w2 w3 →
      w3.ownsRow B (Tid.tid α) (Dat.sz α) v' (l.length + 1) (xs ++ cs) → (v'.ownBlock = v.ownBlock ∨ v'.ownBlock = some w2.heap.size) → PL w3 B v' (l ++ [x]).length (l ++ [x]) (l ++ [x]).length := by
  obtain ⟨xs, fps, hr, hfl, hn, ho⟩ := h
  have hr2 := own_kept hr hf0 (fun k hk => hT k (own_lt hr hk).1 (own_lt hr hk).2)
  refine ⟨xs, hr2, fun x cs fx v' w3 hx hfx hf hr3 hlie => ?_⟩
  have ho2 : ∀ i, i < l.length → Own.own w2 B (gd l i) (nth (Dat.sz α) xs i) (gd fps i) := fun i hi => Own.okept (ho i hi) hf0 fun k hk => hT k (Own.lt (ho i hi) k hk).1 (Own.lt (ho i hi) k hk).2
  have hlt1 : ∀ k ∈ fps.flatten, k < w0.heap.size := fun k hk => by
    obtain ⟨i, hi, hm⟩ := flat_mem hk
    exact (Own.lt (ho i (by omega)) k hm).2
  have hlt2 : ∀ k ∈ fx, w0.heap.size ≤ k ∧ k < w2.heap.size := fun k hk => Own.lt hx k hk
  have hn0 := List.nodup_append.1 hn
  have hz := hf0.size
  have hvl : ∀ k, some k = v.ownBlock → k < w0.heap.size := fun k hk => (own_lt hr hk).2
  refine ⟨xs ++ cs, fps ++ [fx], by rw [List.length_append]; exact hr3, by simp [hfl], ?_, fun i hi => ?_⟩
  · rw [List.flatten_append, List.flatten_cons, List.flatten_nil, List.append_nil]
    refine List.nodup_append.2 ⟨nodup_own v', List.nodup_append.2 ⟨hn0.2.1, hfx, fun a ha b hb e => by
      have := hlt1 a ha
      have := (hlt2 b hb).1
      omega⟩, fun a ha b hb2 e => ?_⟩
    subst e
    have ha' := mem_ownBlock.1 ha
    rcases hlie with h | h
    · rw [h] at ha'
      rcases List.mem_append.1 hb2 with hm | hm
      · exact hn0.2.2 a (mem_ownBlock.2 ha') a hm rfl
      · have := hvl a ha'
        have := (hlt2 a hm).1
        omega
    · rw [h] at ha'
      injection ha' with ha'
      rcases List.mem_append.1 hb2 with hm | hm
      · have := hlt1 a hm; omega
      · have := (hlt2 a hm).2; omega
  · rw [List.length_append, List.length_singleton] at hi
    by_cases hlt : i < l.length
    · rw [gd_app1 hlt, gd_app1 (by omega), nth_app1 hr.1 hlt]
      refine Own.okept (ho2 i hlt) hf fun k hk e => ?_
      exact hn0.2.2 k (mem_ownBlock.2 e) k (mem_flat (by omega) hk) rfl
    · obtain rfl : i = l.length := by omega
      rw [gd_snoc, nth_app2 hr.1 (Dat.len (Own.read hx)), ← hfl, gd_snoc]
      exact Own.mono (Own.okept hx hf fun k hk e => by have := hvl k e; have := (hlt2 k hk).1; omega) hB
theorem OO.pl (h : OO w0 B v l) : PL w0 B v l.length l l.length := by
  obtain ⟨fp, ⟨xs, fps, hr, hl, rfl, ho⟩, hn⟩ := h
  exact ⟨xs, fps, hr, hl, hn, ho⟩
theorem OO.nil (w : World) (B : Nat) : OO w B (.slice none 0 0) ([] : List α) := ⟨[], OL.nil _ _, List.nodup_nil⟩
end
theorem OO.own_lt {w : World} {B : Nat} {v : Value} {l : List (List Int)} (h : OO w B v l) {k : Nat} (hk : some k = v.ownBlock) : B ≤ k ∧ k < w.heap.size := h.pl.lt k hk
end Go.Proofs.YtgfnoinkajfndaaGreat
/- An owned list has grown by one: where its blocks lie. -/
namespace Go.Proofs.YtgfnoinkajfndaaGreat
open Go.RowKit

theorem OL.grow {α : Type} [Own α] [Tid α] {w0 w2 : World} {B : Nat} {v : Value} {l : List α} {f : List Nat} {T : Nat → Prop} (h : OL w0 B v l f) (hn : f.Nodup) (hf0 : Fr T w0 w2) (hT : ∀ k ∈ f, ¬ T k) (hB : B ≤ w0.heap.size) :
    ∃ xs, w2.ownsRow B (Tid.tid α) (Dat.sz α) v l.length xs ∧ ∀ (x : α) (cs : List Value) (fx : List Nat) (v' : Value) (w3 : World), Own.own w2 w0.heap.size x cs fx → fx.Nodup → Fr (fun k => some k = v.ownBlock) w2 w3 →
      w3.ownsRow B (Tid.tid α) (Dat.sz α) v' (l.length + 1) (xs ++ cs) → (v'.ownBlock = v.ownBlock ∨ v'.ownBlock = some w2.heap.size) → ∃ f', OL w3 B v' (l ++ [x]) f' ∧ f'.Nodup ∧ ∀ k ∈ f', k ∈ f ∨ w0.heap.size ≤ k := by
  obtain ⟨xs, fps, hr, hfl, rfl, ho⟩ := h
  have hr2 := own_kept hr hf0 (fun k hk => hT k (List.mem_append_left _ (mem_ownBlock.2 hk)))
  refine ⟨xs, hr2, fun x cs fx v' w3 hx hfx hf hr3 hlie => ?_⟩
  have ho2 : ∀ i, i < l.length → Own.own w2 B (gd l i) (nth (Dat.sz α) xs i) (gd fps i) := fun i hi => Own.okept (ho i hi) hf0 fun k hk => hT k (List.mem_append_right _ (mem_flat (by omega) hk))
  have hlt1 : ∀ k ∈ fps.flatten, k < w0.heap.size := fun k hk => by
    obtain ⟨i, hi, hm⟩ := flat_mem hk
    exact (Own.lt (ho i (by omega)) k hm).2
  have hlt2 : ∀ k ∈ fx, w0.heap.size ≤ k ∧ k < w2.heap.size := fun k hk => Own.lt hx k hk
  have hn0 := List.nodup_append.1 hn
  have hz := hf0.size
  have hvl : ∀ k, some k = v.ownBlock → k < w0.heap.size := fun k hk => (own_lt hr hk).2
  refine ⟨v'.ownBlock.toList ++ (fps ++ [fx]).flatten, ⟨xs ++ cs, fps ++ [fx], by rw [List.length_append]; exact hr3, by simp [hfl], rfl, fun i hi => ?_⟩, ?_, ?_⟩
  · rw [List.length_append, List.length_singleton] at hi
    by_cases hlt : i < l.length
    · rw [gd_app1 hlt, gd_app1 (by omega), nth_app1 hr.1 hlt]
      refine Own.okept (ho2 i hlt) hf fun k hk e => ?_
      exact hn0.2.2 k (mem_ownBlock.2 e) k (mem_flat (by omega) hk) rfl
    · obtain rfl : i = l.length := by omega
      rw [gd_snoc, nth_app2 hr.1 (Dat.len (Own.read hx)), ← hfl, gd_snoc]
      exact Own.mono (Own.okept hx hf fun k hk e => by have := hvl k e; have := (hlt2 k hk).1; omega) hB
  · rw [List.flatten_append, List.flatten_cons, List.flatten_nil, List.append_nil]
    refine List.nodup_append.2 ⟨nodup_own v', List.nodup_append.2 ⟨hn0.2.1, hfx, fun a ha b hb e => by
      have := hlt1 a ha
      have := (hlt2 b hb).1
      omega⟩, fun a ha b hb2 e => ?_⟩
    subst e
    have ha' := mem_ownBlock.1 ha
    rcases hlie with h | h
    · rw [h] at ha'
      rcases List.mem_append.1 hb2 with hm | hm
      · exact hn0.2.2 a (mem_ownBlock.2 ha') a hm rfl
      · have := hvl a ha'
        have := (hlt2 a hm).1
        omega
    · rw [h] at ha'
      injection ha' with ha'
      rcases List.mem_append.1 hb2 with hm | hm
      · have := hlt1 a hm; omega
      · have := (hlt2 a hm).2; omega
  · intro k hk
    rw [List.flatten_append, List.flatten_cons, List.flatten_nil, List.append_nil] at hk
    rcases List.mem_append.1 hk with hk | hk
    · have hk' := mem_ownBlock.1 hk
      rcases hlie with h | h
      · rw [h] at hk'
        exact .inl (List.mem_append_left _ (mem_ownBlock.2 hk'))
      · rw [h] at hk'
        injection hk' with hk'
        right; omega
    · rcases List.mem_append.1 hk with hk | hk
      · exact .inl (List.mem_append_right _ hk)
      · exact .inr (hlt2 k hk).1
end Go.Proofs.YtgfnoinkajfndaaGreat
