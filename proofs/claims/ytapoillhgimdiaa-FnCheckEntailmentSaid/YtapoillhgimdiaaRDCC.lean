/- Walks: drawn assertions and a case of them (DrawEntailsCase, DrawProveCase). -/
import Derived.Test.YtapoillhgimdiaaRDEntA
import Derived.Test.YtapoillhgimdiaaRImpA
import Derived.Deep.Cut
import Derived.Deep.DeepMust
import Derived.Test.YtapoillhgimdiaaRMu16
namespace Go.Proofs.Ytapoillhgimdiaa
open Go.RowKit

/-- Two drawn assertions and a drawn list of numbers. -/
def Three (w w' : World) (u1 u2 t1 t2 cv : Value) (A B : Asn) (C : List Int) : Prop := Two w w' u1 u2 t1 t2 A B ∧ (RL w' (fun k => w.heap.size + 2 ≤ k) cv C ∧ C.length ≤ 9)
structure EC (w W : World) (N q : Nat) (p1 p2 q1 q2 : Value) (A B : Asn) : Prop where
  hA : W.heap[w.heap.size]? = some (.cells #[.slice none 0 0, .slice none 0 0] 33 (0, 0))
  hB : W.heap[w.heap.size + 1]? = some (.cells #[.slice none 0 0, .slice none 0 0] 33 (0, 0))
  hP : W.heap[N]? = some (.cells #[p1, p2] 33 (0, 0))
  hQ : W.heap[N + 1]? = some (.cells #[q1, q2] 33 (0, 0))
  r1 : RL W (fun k => w.heap.size + 2 ≤ k ∧ k < N) p1 A.1
  r2 : RL W (fun k => w.heap.size + 2 ≤ k ∧ k < N) p2 A.2
  s1 : RL W (fun k => w.heap.size + 2 ≤ k ∧ k < N) q1 B.1
  s2 : RL W (fun k => w.heap.size + 2 ≤ k ∧ k < N) q2 B.2
  hr : Rdr W (N + 1 + 1) q
  hW : Below w.heap.size w W
  hN : w.heap.size + 2 ≤ N
  hl : (A.1.length ≤ 1100 ∧ A.2.length ≤ 1100) ∧ (B.1.length ≤ 1100 ∧ B.2.length ≤ 1100)
section
variable {w W W' : World} {N q : Nat} {p1 p2 q1 q2 : Value} {A B : Asn} {S : Nat → Prop}
theorem EC.kept (h : EC w W N q p1 p2 q1 q2 A B) (hf : Fr S W W') (hS : ∀ k, S k → N + 1 + 1 < k) : EC w W' N q p1 p2 q1 q2 A B :=
  have no : ∀ k, k < N + 1 + 1 + 1 → ¬ S k := fun k hk hs => by have := hS k hs; omega
  ⟨box_kept h.hA hf (no _ (by have := h.hN; omega)), box_kept h.hB hf (no _ (by have := h.hN; omega)), box_kept h.hP hf (no _ (by omega)), box_kept h.hQ hf (no _ (by omega)),
    h.r1.kept hf fun k _ e => no _ (by omega), h.r2.kept hf fun k _ e => no _ (by omega), h.s1.kept hf fun k _ e => no _ (by omega), h.s2.kept hf fun k _ e => no _ (by omega), h.hr.kept hf (fun k hk => no k (by omega)),
    h.hW.trans (hf.below h.hW.size fun k hk e => by have := hS k e; have := h.hN; omega), h.hN, h.hl⟩
theorem EC.keep (h : EC w W N q p1 p2 q1 q2 A B) (hb : Below W.heap.size W W') : EC w W' N q p1 p2 q1 q2 A B :=
  ⟨box_keep h.hA hb, box_keep h.hB hb, box_keep h.hP hb, box_keep h.hQ hb, h.r1.keep hb, h.r2.keep hb, h.s1.keep hb, h.s2.keep hb, h.hr.keep hb, bt h.hW hb, h.hN, h.hl⟩
end
theorem Three.drew {w W : World} {u1 u2 t1 t2 cv : Value} {A B : Asn} {C : List Int} (h : Three w W u1 u2 t1 t2 cv A B C) : Three w W.drew u1 u2 t1 t2 cv A B C := by
  obtain ⟨⟨h1, ⟨x1, x2⟩, ⟨y1, y2⟩, hb⟩, hL, hl⟩ := h
  have hd := below_drew W
  exact ⟨⟨h1, ⟨x1.keep hd, x2.keep hd⟩, ⟨y1.keep hd, y2.keep hd⟩, bt hb hd⟩, hL.keep hd, hl⟩
end Go.Proofs.Ytapoillhgimdiaa
/- Walks: drawn assertions and a drawn proof of a case (DrawCheckCase). -/
set_option linter.unusedSimpArgs false
set_option linter.unusedVariables false
namespace Go.Proofs.Ytapoillhgimdiaa
open Go.RowKit

theorem le_sum : ∀ (l : List (List Int)) (u : List Int), u ∈ l → u.length ≤ (l.map (Mk.size (α := List Int))).sum
  | [], u, h => by cases h
  | x :: l, u, h => by
    rw [List.map_cons, List.sum_cons]
    rcases List.mem_cons.1 h with e | e
    · subst e; have e3 : Mk.size u = u.length := rfl
      omega
    · have := le_sum l u e; omega
theorem small_parts {p : CPf} {c : Nat} (h : Mk.size p ≤ c) : p.1.length ≤ c ∧ p.2.length ≤ c ∧ ∀ u ∈ p.2, u.length ≤ c := by
  have h2 : p.1.length + (p.2.length + (p.2.map (Mk.size (α := List Int))).sum) ≤ c := h
  refine ⟨by omega, by omega, fun u hu => ?_⟩
  have h3 : u.length ≤ (p.2.map (Mk.size (α := List Int))).sum := le_sum _ _ hu
  omega
end Go.Proofs.Ytapoillhgimdiaa
