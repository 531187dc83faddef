/- SplA: texts Split1, Split2 in one. -/
import Derived.Test.YtapoillhgimdiaaQFam3
import Derived.Test.YtapoillhgimdiaaQData2
import Derived.Test.YtapoillhgimdiaaQEnt1
import Derived.Deep.Cut
/- Walks: assertions with one fact more; the other way of a fact. -/
namespace Go.Proofs.Ytapoillhgimdiaa
open Go.RowKit

end Go.Proofs.Ytapoillhgimdiaa
/- Walks: an assertion divided by a fact: the program. -/
namespace Go.Proofs.Ytapoillhgimdiaa
open Go.RowKit

/-- An owned list all of whose blocks lie outside some others. -/
def PX {α : Type} [Own α] [Tid α] (w : World) (B : Nat) (v : Value) (l : List α) (F : List Nat) : Prop :=
  ∃ (xs : List Value) (fps : List (List Nat)), w.ownsRow B (Tid.tid α) (Dat.sz α) v l.length xs ∧ fps.length = l.length ∧ (v.ownBlock.toList ++ fps.flatten).Nodup ∧
    (∀ i, i < l.length → Own.own w B (gd l i) (nth (Dat.sz α) xs i) (gd fps i)) ∧ ∀ k ∈ v.ownBlock.toList ++ fps.flatten, ¬ k ∈ F
section
variable {α : Type} [Own α] [Tid α] {w w' : World} {B : Nat} {v : Value} {l : List α} {F F' : List Nat}
theorem PX.nil (w : World) (B : Nat) (F : List Nat) : PX w B (.slice none 0 0) ([] : List α) F :=
  ⟨[], [], World.ownsRow_nil _ _ _ _, rfl, by simp [Value.ownBlock], fun i hi => absurd hi (by simp), by simp [Value.ownBlock]⟩
theorem PX.keep (h : PX w B v l F) (hb : Below w.heap.size w w') : PX w' B v l F := by
  obtain ⟨xs, fps, hr, hl, hn, ho, hF⟩ := h
  exact ⟨xs, fps, own_keep hr hb, hl, hn, fun i hi => Own.okept (ho i hi) (Below.fr hb) fun _ _ h => h, hF⟩
theorem PX.done (h : PX w B v l F) : OO w B v l := by
  obtain ⟨xs, fps, hr, hl, hn, ho, _⟩ := h
  exact ⟨_, ⟨xs, fps, hr, hl, rfl, ho⟩, hn⟩
theorem PX.form (h : PX w B v l F) : ∃ a cap, v = .slice a l.length cap := h.done.form
theorem PX.grow (h : PX w B v l F) (hFl : ∀ k ∈ F, k < w.heap.size) :
    ∃ xs, w.ownsRow B (Tid.tid α) (Dat.sz α) v l.length xs ∧ ∀ (x : α) (cs : List Value) (fx : List Nat) (v' : Value) (w3 : World), Own.own w B x cs fx → fx.Nodup → (∀ k ∈ fx, k ∈ F) → (∀ k ∈ F', k ∈ F) → (∀ k ∈ fx, ¬ k ∈ F') →
      Fr (fun k => some k = v.ownBlock) w w3 → w3.ownsRow B (Tid.tid α) (Dat.sz α) v' (l.length + 1) (xs ++ cs) → (v'.ownBlock = v.ownBlock ∨ v'.ownBlock = some w.heap.size) → PX w3 B v' (l ++ [x]) F' := by
  obtain ⟨xs, fps, hr, hfl, hn, ho, hF⟩ := h
  refine ⟨xs, hr, fun x cs fx v' w3 hx hfx hin hsub hdis hf hr3 hlie => ?_⟩
  have hlt1 : ∀ k ∈ fps.flatten, k < w.heap.size := fun k hk => by
    obtain ⟨i, hi, hm⟩ := flat_mem hk
    exact (Own.lt (ho i (by omega)) k hm).2
  have hn0 := List.nodup_append.1 hn
  have hvl : ∀ k, some k = v.ownBlock → k < w.heap.size := fun k hk => (own_lt hr hk).2
  refine ⟨xs ++ cs, fps ++ [fx], by rw [List.length_append]; exact hr3, by simp [hfl], ?_, fun i hi => ?_, fun k hk => ?_⟩
  · rw [List.flatten_append, List.flatten_cons, List.flatten_nil, List.append_nil]
    refine List.nodup_append.2 ⟨nodup_own v', List.nodup_append.2 ⟨hn0.2.1, hfx, fun a ha b hb e => ?_⟩, fun a ha b hb2 e => ?_⟩
    · subst e; exact hF a (List.mem_append_right _ ha) (hin a hb)
    · subst e
      have ha' := mem_ownBlock.1 ha
      rcases hlie with h | h
      · rw [h] at ha'
        rcases List.mem_append.1 hb2 with hm | hm
        · exact hn0.2.2 a (mem_ownBlock.2 ha') a hm rfl
        · exact hF a (List.mem_append_left _ (mem_ownBlock.2 ha')) (hin a hm)
      · rw [h] at ha'
        injection ha' with ha'
        rcases List.mem_append.1 hb2 with hm | hm
        · have := hlt1 a hm; omega
        · have := hFl a (hin a hm); omega
  · rw [List.length_append, List.length_singleton] at hi
    by_cases hlt : i < l.length
    · rw [gd_app1 hlt, gd_app1 (by omega), nth_app1 hr.1 hlt]
      refine Own.okept (ho i hlt) hf fun k hk e => ?_
      exact hn0.2.2 k (mem_ownBlock.2 e) k (mem_flat (by omega) hk) rfl
    · obtain rfl : i = l.length := by omega
      rw [gd_snoc, nth_app2 hr.1 (Dat.len (Own.read hx)), ← hfl, gd_snoc]
      exact Own.okept hx hf fun k hk e => hF k (List.mem_append_left _ (mem_ownBlock.2 e)) (hin k hk)
  · rw [List.flatten_append, List.flatten_cons, List.flatten_nil, List.append_nil] at hk
    rcases List.mem_append.1 hk with hk | hk
    · rcases hlie with h | h
      · rw [h] at hk
        exact fun hk2 => hF k (List.mem_append_left _ hk) (hsub k hk2)
      · rw [h] at hk
        have e : k = w.heap.size := by simpa using hk
        intro hk2
        have := hFl k (hsub k hk2)
        omega
    · rcases List.mem_append.1 hk with hk | hk
      · exact fun hk2 => hF k (List.mem_append_right _ hk) (hsub k hk2)
      · exact hdis k hk
end
end Go.Proofs.Ytapoillhgimdiaa
