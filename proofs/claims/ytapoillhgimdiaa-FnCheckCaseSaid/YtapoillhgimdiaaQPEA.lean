/- PEA: texts PE1, Grow, PE2 in one. -/
import Derived.Test.YtapoillhgimdiaaQPln1
import Derived.Test.YtapoillhgimdiaaQCaseD
import Derived.Test.YtapoillhgimdiaaQFam3
import Derived.Deep.CutRange
import Derived.Test.YtapoillhgimdiaaQMtcA
import Derived.Test.YtapoillhgimdiaaQImpA
import Derived.Test.YtapoillhgimdiaaQRndA
/- Walks: the proofs of all cases: the reference. -/
namespace Go.Proofs.Ytapoillhgimdiaa
open Go.RowKit

end Go.Proofs.Ytapoillhgimdiaa
/- An owned list has grown by one: where its blocks lie. -/
namespace Go.Proofs.Ytapoillhgimdiaa
open Go.RowKit

theorem OL.grow {α : Type} [Own α] [Tid α] {w0 w2 : World} {B : Nat} {v : Value} {l : List α} {f : List Nat} {T : Nat → Prop} (h : OL w0 B v l f) (hn : f.Nodup) (hf0 : Fr T w0 w2) (hT : ∀ k ∈ f, ¬ T k) (hB : B ≤ w0.heap.size) :
    ∃ xs, w2.ownsRow B (Tid.tid α) (Dat.sz α) v l.length xs ∧ ∀ (x : α) (cs : List Value) (fx : List Nat) (v' : Value) (w3 : World), Own.own w2 w0.heap.size x cs fx → fx.Nodup → Fr (fun k => some k = v.ownBlock) w2 w3 →
      w3.ownsRow B (Tid.tid α) (Dat.sz α) v' (l.length + 1) (xs ++ cs) → (v'.ownBlock = v.ownBlock ∨ v'.ownBlock = some w2.heap.size) → ∃ f', OL w3 B v' (l ++ [x]) f' ∧ f'.Nodup ∧ ∀ k ∈ f', k ∈ f ∨ w0.heap.size ≤ k := by
  obtain ⟨xs, fps, hr, hfl, rfl, ho⟩ := h
  have hr2 := own_kept hr hf0 (fun k hk => hT k (List.mem_append_left _ (mem_ownBlock.2 hk)))
  refine ⟨xs, hr2, fun x cs fx v' w3 hx hfx hf hr3 hlie => ?_⟩
  have ho2 : ∀ i, i < l.length → Own.own w2 B (gd l i) (nth (Dat.sz α) xs i) (gd fps i) := fun i hi => Own.okept (ho i hi) hf0 fun k hk => hT k (List.mem_append_right _ (mem_flat (by omega) hk))
  have hlt1 : ∀ k ∈ fps.flatten, k < w0.heap.size := fun k hk => by
    obtain ⟨i, hi, hm⟩ := flat_mem hk
    exact (Own.lt (ho i (by omega)) k hm).2
  have hlt2 : ∀ k ∈ fx, w0.heap.size ≤ k ∧ k < w2.heap.size := fun k hk => Own.lt hx k hk
  have hn0 := List.nodup_append.1 hn
  have hz := hf0.size
  have hvl : ∀ k, some k = v.ownBlock → k < w0.heap.size := fun k hk => (own_lt hr hk).2
  refine ⟨v'.ownBlock.toList ++ (fps ++ [fx]).flatten, ⟨xs ++ cs, fps ++ [fx], by rw [List.length_append]; exact hr3, by simp [hfl], rfl, fun i hi => ?_⟩, ?_, ?_⟩
  · rw [List.length_append, List.length_singleton] at hi
    by_cases hlt : i < l.length
    · rw [gd_app1 hlt, gd_app1 (by omega), nth_app1 hr.1 hlt]
      refine Own.okept (ho2 i hlt) hf fun k hk e => ?_
      exact hn0.2.2 k (mem_ownBlock.2 e) k (mem_flat (by omega) hk) rfl
    · obtain rfl : i = l.length := by omega
      rw [gd_snoc, nth_app2 hr.1 (Dat.len (Own.read hx)), ← hfl, gd_snoc]
      exact Own.mono (Own.okept hx hf fun k hk e => by have := hvl k e; have := (hlt2 k hk).1; omega) hB
  · rw [List.flatten_append, List.flatten_cons, List.flatten_nil, List.append_nil]
    refine List.nodup_append.2 ⟨nodup_own v', List.nodup_append.2 ⟨hn0.2.1, hfx, fun a ha b hb e => by
      have := hlt1 a ha
      have := (hlt2 b hb).1
      omega⟩, fun a ha b hb2 e => ?_⟩
    subst e
    have ha' := mem_ownBlock.1 ha
    rcases hlie with h | h
    · rw [h] at ha'
      rcases List.mem_append.1 hb2 with hm | hm
      · exact hn0.2.2 a (mem_ownBlock.2 ha') a hm rfl
      · have := hvl a ha'
        have := (hlt2 a hm).1
        omega
    · rw [h] at ha'
      injection ha' with ha'
      rcases List.mem_append.1 hb2 with hm | hm
      · have := hlt1 a hm; omega
      · have := (hlt2 a hm).2; omega
  · intro k hk
    rw [List.flatten_append, List.flatten_cons, List.flatten_nil, List.append_nil] at hk
    rcases List.mem_append.1 hk with hk | hk
    · have hk' := mem_ownBlock.1 hk
      rcases hlie with h | h
      · rw [h] at hk'
        exact .inl (List.mem_append_left _ (mem_ownBlock.2 hk'))
      · rw [h] at hk'
        injection hk' with hk'
        right; omega
    · rcases List.mem_append.1 hk with hk | hk
      · exact .inl (List.mem_append_right _ hk)
      · exact .inr (hlt2 k hk).1
end Go.Proofs.Ytapoillhgimdiaa
/- Walks: the proofs of all cases: the program. -/
namespace Go.Proofs.Ytapoillhgimdiaa
open Go Go.RowKit

attribute [local go_sem] Oper.semAt_some
end Go.Proofs.Ytapoillhgimdiaa
