/- Data that come in: facts, atoms, assertions, lists of them, lists of lists of numbers. -/
import Derived.Test.YtdjfdopgjlbloaaDoorBase3
import Derived.Test.YtdjfdopgjlbloaaDoorData1
import Derived.Deep.Slices
import Derived.Deep.Fields
import Derived.ChangeSame
namespace Go.Proofs.YtdjfdopgjlbloaaDoor
open Go.ChangeShapes Go.WideShapes Go.ChangeAt Go.RowKit Go.Joins Go.Deep

section
variable {H : Type} {enc : TypeId × Value → H} {P : Program} {w : World} {base : Nat} {spare : Nat → Bool} {held : Bool}
theorem open_slice_fields {t e : TypeId} {fs : Array Field} {fuel : Nat} {cs : List Value} {x : DataW H × List MemPlace} (ht : P.underlying t = some (.slice e)) (he : P.underlying e = some (.struct fs))
    (hone : oneCellFields P fs = true) (hC : P.cellsOf e = fs.size) (h : DataW.trod enc P w base spare held fuel t cs = some x) :
    (cs = [.slice none 0 0] ∧ x = (.nil, [])) ∨
    ∃ (a : Addr) (len cap m : Nat) (D : Nat → DataW H) (Pl : Nat → List MemPlace), cs = [.slice (some a) len cap] ∧ base ≤ a.block ∧ len ≤ cap ∧ cap ≤ maxLen ∧ m = (if spare a.block then cap else len) ∧
      x = (.slice ((List.range len).map D) ((List.range (m - len)).map fun j => D (len + j)), MemPlace.row a (m * fs.size) ++ (List.range m).flatMap Pl) ∧
      ∀ i, i < m → ∃ (ys : List (DataW H × List MemPlace)) (n : Nat), D i = .agg (ys.map (·.1)) ∧ Pl i = ys.flatMap (·.2) ∧ ys.length = fs.size ∧
        ∀ (j : Nat) (f : Field), fs[j]? = some f → ∃ (v : Value) (y : DataW H × List MemPlace), w.cell? (a.add (i * fs.size + j)) = some v ∧ ys[j]? = some y ∧ DataW.trod enc P w base spare held n f.type [v] = some y := by
  rcases open_slice ht h with h0 | ⟨a, len, cap, m, n, D, Pl, hcs, hb, hl, hm, hmm, hx, hi⟩
  · exact .inl h0
  · refine .inr ⟨a, len, cap, m, D, Pl, hcs, hb, hl, hm, hmm, by rw [hC] at hx; exact hx, fun i him => ?_⟩
    obtain ⟨cs', hc, ht'⟩ := hi i him
    rw [hC] at hc
    obtain ⟨ys, n', hn', hy, hlen, hyl, hf⟩ := DataW.trod_struct he ht'
    obtain ⟨_, hcl, hat⟩ := World.cells?_some hc
    simp only [Prod.mk.injEq] at hy
    refine ⟨ys, n', hy.1, hy.2, hyl, fun j f hj => ?_⟩
    obtain ⟨ho, hk⟩ := hone_of hone j f hj
    have hjl : j < fs.size := (Array.getElem?_eq_some_iff.1 hj).1
    have hcell := hat j hjl
    have hv : cs'[j]? = some (cs'[j]'(by omega)) := List.getElem?_eq_getElem (by omega)
    have h1 := hf j f hj
    rw [ho, hk] at h1
    have hone' : (cs'.drop j).take 1 = [cs'[j]'(by omega)] := by
      rw [List.drop_eq_getElem_cons (by omega)]
      rfl
    rw [hone'] at h1
    have hys : ys[j]? = some (ys[j]'(by omega)) := List.getElem?_eq_getElem (by omega)
    refine ⟨_, _, ?_, hys, h1.trans hys⟩
    rw [← Go.Deep.add_add, hcell, hv]
end

theorem choose_list {α : Type} [Inhabited α] {Q : Nat → α → Prop} : ∀ {n : Nat}, (∀ i, i < n → ∃ x, Q i x) → ∃ l : List α, l.length = n ∧ ∀ i, i < n → Q i (gd l i)
  | 0, _ => ⟨[], rfl, fun i hi => absurd hi (by omega)⟩
  | n + 1, h => by
    obtain ⟨l, hl, hq⟩ := choose_list (n := n) fun i hi => h i (by omega)
    obtain ⟨x, hx⟩ := h n (by omega)
    refine ⟨l ++ [x], by simp [hl], fun i hi => ?_⟩
    by_cases e : i < n
    · rw [gd_app1 (by omega)]; exact hq i e
    · obtain rfl : i = n := by omega
      rw [← hl, gd_snoc, hl]; exact hx
theorem add_plain (b o i : Nat) : (⟨b, o, none⟩ : Addr).add i = ⟨b, o + i, none⟩ := by unfold Addr.add; split <;> simp_all
theorem rl_mk {α : Type} [Dat α] {W : World} {a : Addr} {len cap : Nat} (hl : len ≤ cap) (hm : cap ≤ maxLen) (hpos : 0 < Dat.sz α)
    (he : ∀ i, i < len → ∃ x : α, ∃ cs, Dat.rd W (fun _ => True) x cs ∧ ∀ j u, cs[j]? = some u → W.cell? (a.add (i * Dat.sz α + j)) = some u) :
    ∃ l : List α, RL W (fun _ => True) (.slice (some a) len cap) l := by
  by_cases h0 : len = 0
  · subst h0
    exact ⟨[], .inl ⟨some a, cap, rfl, rfl, hm, by simp⟩⟩
  obtain ⟨l, hll, hq⟩ := choose_list he
  obtain ⟨cs, hr, hc⟩ := hq 0 (by omega)
  have hcl := Dat.len hr
  have hc0 := hc 0 (cs[0]'(by omega)) (List.getElem?_eq_getElem _)
  obtain ⟨b, o, sp⟩ := a
  have hsp : sp = none := by
    have := World.cell?_spot hc0
    simpa [Addr.add] using this
  subst hsp
  refine ⟨l, .inr ⟨b, o, cap, by rw [hll], by omega, hm, fun _ => ⟨trivial, ?_⟩, fun i hi => ?_⟩⟩
  · have := World.block_lt_of_cell? W _ hc0
    simpa [Addr.add] using this
  · obtain ⟨cs, hr, hc⟩ := hq i (by omega)
    exact ⟨cs, hr, fun j u hj => by rw [← add_plain]; exact hc j u hj⟩

section
variable {H : Type} {enc : TypeId × Value → H} {W : World}
theorem rl_ints {fuel : Nat} {v : Value} {y : DataW H × List MemPlace} (h : DataW.trod enc Tryd.prog W 0 (fun _ => true) true fuel 22 [v] = some y) : ∃ l : List Int, RL W (fun _ => True) v l := by
  obtain ⟨l, hr, _⟩ := ints_of_trod Tryd.underlying22 Tryd.underlying3 (by kernel_rfl) h
  exact ⟨l, hr.rl.any⟩
theorem int_of_trod {fuel : Nat} {v : Value} {y : DataW H × List MemPlace} (h : DataW.trod enc Tryd.prog W 0 (fun _ => true) true fuel 3 [v] = some y) : ∃ n : Int, v = .int .i64 n ∧ -9223372036854775808 ≤ n ∧ n ≤ 9223372036854775807 := by
  obtain ⟨n, hn, _, hw⟩ := DataW.trod_int Tryd.underlying3 h
  simp at hn
  exact ⟨n, hn, bounds_i64 hw⟩
theorem bool_of_trod {fuel : Nat} {v : Value} {y : DataW H × List MemPlace} (h : DataW.trod enc Tryd.prog W 0 (fun _ => true) true fuel 4 [v] = some y) : ∃ n : Bool, v = .bool n := by
  obtain ⟨n, hn, _⟩ := DataW.trod_bool Tryd.underlying4 h
  simp at hn
  exact ⟨n, hn⟩
theorem rl_intss {fuel : Nat} {v : Value} {y : DataW H × List MemPlace} (h : DataW.trod enc Tryd.prog W 0 (fun _ => true) true fuel 23 [v] = some y) : ∃ l : List (List Int), RL W (fun _ => True) v l := by
  rcases open_slice Tryd.underlying23 h with ⟨hcs, _⟩ | ⟨a, len, cap, m, n, D, Pl, hcs, _, hl, hm, hmm, _, hi⟩
  · simp at hcs; subst hcs; exact ⟨[], RL.nil _ _⟩
  · simp at hcs; subst hcs
    simp only [if_true] at hmm
    refine rl_mk hl hm (by decide) fun i hil => ?_
    obtain ⟨cs', hc, ht'⟩ := hi i (by omega)
    rw [show Tryd.prog.cellsOf 22 = 1 from by kernel_rfl] at hc
    obtain ⟨_, hcl, hat⟩ := World.cells?_some hc
    match cs', hcl with
    | [c], _ =>
      obtain ⟨l0, r0⟩ := rl_ints ht'
      refine ⟨l0, [c], ⟨c, rfl, r0⟩, fun j u hj => ?_⟩
      match j, hj with
      | 0, hj =>
        simp at hj; subst hj
        have := hat 0 (by omega)
        rw [Go.Deep.add_add] at this
        exact this
end
end Go.Proofs.YtdjfdopgjlbloaaDoor
