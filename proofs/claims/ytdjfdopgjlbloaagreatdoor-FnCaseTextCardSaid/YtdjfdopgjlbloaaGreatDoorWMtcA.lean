/- Owned lists grow by one element. -/
import Derived.Test.YtdjfdopgjlbloaaGreatDoorWFam2
import Derived.Test.YtdjfdopgjlbloaaGreatDoorWData3
import Derived.Test.YtdjfdopgjlbloaaGreatDoorWCaseC
import Derived.Deep.Cut
import Derived.Deep.RegionHeld3
import Derived.Deep.MidRow
import Derived.Test.YtdjfdopgjlbloaaGreatDoorWCsA
import Derived.Handy
import Derived.Laws.StructEq
namespace Go.Proofs.YtdjfdopgjlbloaaGreatDoor
open Go.RowKit

theorem OO.ints {w : World} {B : Nat} {v : Value} {l : List Int} (h : w.ownsRow B 3 1 v l.length (ints l)) : OO w B v l := ⟨_, ints_OL h, nodup_own v⟩
section
variable {α : Type} [Own α] [Tid α] {w0 w2 : World} {B : Nat} {v : Value} {l : List α} {T : Nat → Prop}
/-- An owned list is carried over a frame; then one element is appended. -/
theorem PL.grow (h : PL w0 B v l.length l l.length) (hf0 : Fr T w0 w2) (hT : ∀ k, B ≤ k → k < w0.heap.size → ¬ T k) (hB : B ≤ w0.heap.size) :
    ∃ xs, w2.ownsRow B (Tid.tid α) (Dat.sz α) v l.length xs ∧ ∀ (x : α) (cs : List Value) (fx : List Nat) (v' : Value) (w3 : World), Own.own w2 w0.heap.size x cs fx → fx.Nodup → Fr (fun k => some k = v.ownBlock) w2 w3 →
      w3.ownsRow B (Tid.tid α) (Dat.sz α) v' (l.length + 1) (xs ++ cs) → (v'.ownBlock = v.ownBlock ∨ v'.ownBlock = some w2.heap.size) → PL w3 B v' (l ++ [x]).length (l ++ [x]) (l ++ [x]).length := by
  obtain ⟨xs, fps, hr, hfl, hn, ho⟩ := h
  have hr2 := own_kept hr hf0 (fun k hk => hT k (own_lt hr hk).1 (own_lt hr hk).2)
  refine ⟨xs, hr2, fun x cs fx v' w3 hx hfx hf hr3 hlie => ?_⟩
  have ho2 : ∀ i, i < l.length → Own.own w2 B (gd l i) (nth (Dat.sz α) xs i) (gd fps i) := fun i hi => Own.okept (ho i hi) hf0 fun k hk => hT k (Own.lt (ho i hi) k hk).1 (Own.lt (ho i hi) k hk).2
  have hlt1 : ∀ k ∈ fps.flatten, k < w0.heap.size := fun k hk => by
    obtain ⟨i, hi, hm⟩ := flat_mem hk
    exact (Own.lt (ho i (by omega)) k hm).2
  have hlt2 : ∀ k ∈ fx, w0.heap.size ≤ k ∧ k < w2.heap.size := fun k hk => Own.lt hx k hk
  have hn0 := List.nodup_append.1 hn
  have hz := hf0.size
  have hvl : ∀ k, some k = v.ownBlock → k < w0.heap.size := fun k hk => (own_lt hr hk).2
  refine ⟨xs ++ cs, fps ++ [fx], by rw [List.length_append]; exact hr3, by simp [hfl], ?_, fun i hi => ?_⟩
  · rw [List.flatten_append, List.flatten_cons, List.flatten_nil, List.append_nil]
    refine List.nodup_append.2 ⟨nodup_own v', List.nodup_append.2 ⟨hn0.2.1, hfx, fun a ha b hb e => by
      have := hlt1 a ha
      have := (hlt2 b hb).1
      omega⟩, fun a ha b hb2 e => ?_⟩
    subst e
    have ha' := mem_ownBlock.1 ha
    rcases hlie with h | h
    · rw [h] at ha'
      rcases List.mem_append.1 hb2 with hm | hm
      · exact hn0.2.2 a (mem_ownBlock.2 ha') a hm rfl
      · have := hvl a ha'
        have := (hlt2 a hm).1
        omega
    · rw [h] at ha'
      injection ha' with ha'
      rcases List.mem_append.1 hb2 with hm | hm
      · have := hlt1 a hm; omega
      · have := (hlt2 a hm).2; omega
  · rw [List.length_append, List.length_singleton] at hi
    by_cases hlt : i < l.length
    · rw [gd_app1 hlt, gd_app1 (by omega), nth_app1 hr.1 hlt]
      refine Own.okept (ho2 i hlt) hf fun k hk e => ?_
      exact hn0.2.2 k (mem_ownBlock.2 e) k (mem_flat (by omega) hk) rfl
    · obtain rfl : i = l.length := by omega
      rw [gd_snoc, nth_app2 hr.1 (Dat.len (Own.read hx)), ← hfl, gd_snoc]
      exact Own.mono (Own.okept hx hf fun k hk e => by have := hvl k e; have := (hlt2 k hk).1; omega) hB
theorem OO.pl (h : OO w0 B v l) : PL w0 B v l.length l l.length := by
  obtain ⟨fp, ⟨xs, fps, hr, hl, rfl, ho⟩, hn⟩ := h
  exact ⟨xs, fps, hr, hl, hn, ho⟩
theorem OO.nil (w : World) (B : Nat) : OO w B (.slice none 0 0) ([] : List α) := ⟨[], OL.nil _ _, List.nodup_nil⟩
end
theorem RL.set2P {α : Type} [Dat α] {w : World} {B : Nat} {v : Value} {l : List α} (h : RL w (fun k => B ≤ k) v l) {R : Nat} (hR : R < B) (x y : Value) :
    RL ((w.setCell ⟨R, 0, none⟩ x).setCell ⟨R, 1, none⟩ y) (fun k => B ≤ k) v l :=
  (h.kept (fr_set w _ _) fun k _ h e => by have h2 : B ≤ k := h; have e2 : k = R := e; omega).kept (fr_set _ _ _) fun k _ h e => by have h2 : B ≤ k := h; have e2 : k = R := e; omega
theorem OO.own_lt {w : World} {B : Nat} {v : Value} {l : List (List Int)} (h : OO w B v l) {k : Nat} (hk : some k = v.ownBlock) : B ≤ k ∧ k < w.heap.size := h.pl.lt k hk
theorem ti_ints : TI 24 23 1 := ti_mk Tryz.underlying24 info_IntSS (by decide) rfl (by decide)
/-- A new block that holds a slice. -/
theorem news1 (w : World) (u : Value) (e : TypeId) : 0 < 1 → ∃ b o, some (⟨w.heap.size, 0, none⟩ : Addr) = some ⟨b, o, none⟩ ∧ ∀ j x, [u][j]? = some x → (w.alloc (.cells #[u] e)).cell? ⟨b, o + j, none⟩ = some x := fun _ =>
  ⟨w.heap.size, 0, rfl, fun j x hj => by
    match j, hj with
    | 0, hj => simp at hj; subst hj; simp⟩
theorem one1 (a : Option Addr) (n c : Nat) : ∀ u ∈ [Value.slice a n c], u.oneCell' = true := fun u hu => by
  simp at hu; subst hu; rfl
end Go.Proofs.YtdjfdopgjlbloaaGreatDoor
/- An owned list has grown by one: where its blocks lie. -/
namespace Go.Proofs.YtdjfdopgjlbloaaGreatDoor
open Go.RowKit

theorem OL.grow {α : Type} [Own α] [Tid α] {w0 w2 : World} {B : Nat} {v : Value} {l : List α} {f : List Nat} {T : Nat → Prop} (h : OL w0 B v l f) (hn : f.Nodup) (hf0 : Fr T w0 w2) (hT : ∀ k ∈ f, ¬ T k) (hB : B ≤ w0.heap.size) :
    ∃ xs, w2.ownsRow B (Tid.tid α) (Dat.sz α) v l.length xs ∧ ∀ (x : α) (cs : List Value) (fx : List Nat) (v' : Value) (w3 : World), Own.own w2 w0.heap.size x cs fx → fx.Nodup → Fr (fun k => some k = v.ownBlock) w2 w3 →
      w3.ownsRow B (Tid.tid α) (Dat.sz α) v' (l.length + 1) (xs ++ cs) → (v'.ownBlock = v.ownBlock ∨ v'.ownBlock = some w2.heap.size) → ∃ f', OL w3 B v' (l ++ [x]) f' ∧ f'.Nodup ∧ ∀ k ∈ f', k ∈ f ∨ w0.heap.size ≤ k := by
  obtain ⟨xs, fps, hr, hfl, rfl, ho⟩ := h
  have hr2 := own_kept hr hf0 (fun k hk => hT k (List.mem_append_left _ (mem_ownBlock.2 hk)))
  refine ⟨xs, hr2, fun x cs fx v' w3 hx hfx hf hr3 hlie => ?_⟩
  have ho2 : ∀ i, i < l.length → Own.own w2 B (gd l i) (nth (Dat.sz α) xs i) (gd fps i) := fun i hi => Own.okept (ho i hi) hf0 fun k hk => hT k (List.mem_append_right _ (mem_flat (by omega) hk))
  have hlt1 : ∀ k ∈ fps.flatten, k < w0.heap.size := fun k hk => by
    obtain ⟨i, hi, hm⟩ := flat_mem hk
    exact (Own.lt (ho i (by omega)) k hm).2
  have hlt2 : ∀ k ∈ fx, w0.heap.size ≤ k ∧ k < w2.heap.size := fun k hk => Own.lt hx k hk
  have hn0 := List.nodup_append.1 hn
  have hz := hf0.size
  have hvl : ∀ k, some k = v.ownBlock → k < w0.heap.size := fun k hk => (own_lt hr hk).2
  refine ⟨v'.ownBlock.toList ++ (fps ++ [fx]).flatten, ⟨xs ++ cs, fps ++ [fx], by rw [List.length_append]; exact hr3, by simp [hfl], rfl, fun i hi => ?_⟩, ?_, ?_⟩
  · rw [List.length_append, List.length_singleton] at hi
    by_cases hlt : i < l.length
    · rw [gd_app1 hlt, gd_app1 (by omega), nth_app1 hr.1 hlt]
      refine Own.okept (ho2 i hlt) hf fun k hk e => ?_
      exact hn0.2.2 k (mem_ownBlock.2 e) k (mem_flat (by omega) hk) rfl
    · obtain rfl : i = l.length := by omega
      rw [gd_snoc, nth_app2 hr.1 (Dat.len (Own.read hx)), ← hfl, gd_snoc]
      exact Own.mono (Own.okept hx hf fun k hk e => by have := hvl k e; have := (hlt2 k hk).1; omega) hB
  · rw [List.flatten_append, List.flatten_cons, List.flatten_nil, List.append_nil]
    refine List.nodup_append.2 ⟨nodup_own v', List.nodup_append.2 ⟨hn0.2.1, hfx, fun a ha b hb e => by
      have := hlt1 a ha
      have := (hlt2 b hb).1
      omega⟩, fun a ha b hb2 e => ?_⟩
    subst e
    have ha' := mem_ownBlock.1 ha
    rcases hlie with h | h
    · rw [h] at ha'
      rcases List.mem_append.1 hb2 with hm | hm
      · exact hn0.2.2 a (mem_ownBlock.2 ha') a hm rfl
      · have := hvl a ha'
        have := (hlt2 a hm).1
        omega
    · rw [h] at ha'
      injection ha' with ha'
      rcases List.mem_append.1 hb2 with hm | hm
      · have := hlt1 a hm; omega
      · have := (hlt2 a hm).2; omega
  · intro k hk
    rw [List.flatten_append, List.flatten_cons, List.flatten_nil, List.append_nil] at hk
    rcases List.mem_append.1 hk with hk | hk
    · have hk' := mem_ownBlock.1 hk
      rcases hlie with h | h
      · rw [h] at hk'
        exact .inl (List.mem_append_left _ (mem_ownBlock.2 hk'))
      · rw [h] at hk'
        injection hk' with hk'
        right; omega
    · rcases List.mem_append.1 hk with hk | hk
      · exact .inl (List.mem_append_right _ hk)
      · exact .inr (hlt2 k hk).1
end Go.Proofs.YtdjfdopgjlbloaaGreatDoor
/- Walks: the check of a case: the program. -/
namespace Go.Proofs.YtdjfdopgjlbloaaGreatDoor
open Go.RowKit

end Go.Proofs.YtdjfdopgjlbloaaGreatDoor
/- MtcA: texts Mtc1, Mtc2 in one. -/
/- Walks: the matching of atoms in a case: the program. -/
namespace Go.Proofs.YtdjfdopgjlbloaaGreatDoor
open Go.RowKit

section
variable {w w' : World} {b : Nat} {v : Value} {m : Nat} {c : Int}
end
theorem chain_none {left : List Atom} {B A : Int} {cl : Bool} {f m : Nat} (h : findU left m A = none) : chainU left B cl f m A = none := by
  cases f with
  | zero => rfl
  | succ f => rw [chainU, h]
theorem chain_some {left : List Atom} {B A : Int} {cl : Bool} {m i : Nat} (h : findU left m A = some i) : chainU left B cl (left.length - cntM left.length m) m A = if (gd left i).2.2 = B then some (m ||| 2 ^ i, [(i : Int)]) else
      if (gd left i).1 = 2 ∧ cl = false then none else (chainU left B cl (left.length - cntM left.length (m ||| 2 ^ i)) (m ||| 2 ^ i) (gd left i).2.2).map fun r => (r.1, (i : Int) :: r.2) := by
  obtain ⟨h1, _, h3⟩ := findU_some h
  have h4 := cntM_set h1 h3
  have h5 := cnt_leM left.length (m ||| 2 ^ i)
  rw [show left.length - cntM left.length m = (left.length - cntM left.length (m ||| 2 ^ i)) + 1 by omega, chainU, h]
end Go.Proofs.YtdjfdopgjlbloaaGreatDoor
/- Walks: the matching of a case: the program's matchCase. -/
namespace Go.Proofs.YtdjfdopgjlbloaaGreatDoor
open Go.RowKit

theorem asn_all' {a : Asn} (h : asnB a = true) : (a.1.all factB = true ∧ a.2.all atomB = true) ∧ a.2.length ≤ 6 := by
  simp only [asnB, factsB, Bool.and_eq_true, decide_eq_true_eq] at h
  exact ⟨⟨h.1.2, h.2.2⟩, h.2.1⟩
end Go.Proofs.YtdjfdopgjlbloaaGreatDoor
