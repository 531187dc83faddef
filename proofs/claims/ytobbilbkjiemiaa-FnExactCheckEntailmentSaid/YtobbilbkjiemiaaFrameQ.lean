/- A trodden list of proofs of cases reads as one. -/
import Derived.Test.YtobbilbkjiemiaaFrameC
import Derived.Test.YtobbilbkjiemiaaCaseC
namespace Go.Proofs.Ytobbilbkjiemiaa
open Go.ChangeShapes Go.WideShapes Go.ChangeAt Go.RowKit Go.Joins
variable {H : Type} {enc : TypeId × Value → H} {W : World}
theorem rd_cpf_mkQ {w : World} {S : Nat → Prop} {v1 v2 : Value} {p : CPf} (h1 : RL w S v1 p.1) (h2 : RL w S v2 p.2) : Dat.rd w S p [v1, v2] := ⟨[v1], [v2], rfl, ⟨v1, rfl, h1⟩, ⟨v2, rfl, h2⟩⟩
theorem rl_cpfs {fuel : Nat} {v : Value} {y : DataW H × List MemPlace} (h : DataW.trod enc Try.prog W 0 (fun _ => true) true fuel 26 [v] = some y) : ∃ l : List CPf, RL W (fun _ => True) v l := by
  rcases open_slice_fields Try.underlying26 Try.underlying95 (by kernel_rfl) (by kernel_rfl) h with ⟨hcs, _⟩ | ⟨a, len, cap, m, D, Pl, hcs, _, hl, hm, hmm, _, hi⟩
  · simp at hcs; subst hcs; exact ⟨[], RL.nil _ _⟩
  · simp at hcs; subst hcs
    simp only [if_true] at hmm
    refine rl_mk hl hm (by decide) fun i hil => ?_
    obtain ⟨ys, n, _, _, _, hf⟩ := hi i (by omega)
    obtain ⟨v0, y0, c0, _, t0⟩ := hf 0 _ rfl
    obtain ⟨v1, y1, c1, _, t1⟩ := hf 1 _ rfl
    obtain ⟨l0, r0⟩ := rl_ints t0
    obtain ⟨l1, r1⟩ := rl_intss t1
    refine ⟨(l0, l1), _, rd_cpf_mkQ r0 r1, fun j u hj => ?_⟩
    match j, hj with
    | 0, hj => simp at hj; subst hj; exact c0
    | 1, hj => simp at hj; subst hj; exact c1
end Go.Proofs.Ytobbilbkjiemiaa
