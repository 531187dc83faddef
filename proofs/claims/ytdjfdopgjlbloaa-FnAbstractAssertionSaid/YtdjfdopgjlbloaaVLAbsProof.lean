/- Closed facts of the seat's program that every claim needs. -/
import Derived.Test.YtdjfdopgjlbloaaChecked
import Derived.WalkKit
import Derived.Test.YtdjfdopgjlbloaaVLAbs
import Derived.Test.YtdjfdopgjlbloaaVDraw1
namespace Go.Proofs.Ytdjfdopgjlbloaa
open Go

theorem seat_enters : Try.checked.prog.mayEnter = true := by as_aux_lemma => kernel_rfl
theorem seat_lifts : Try.checked.prog.liftsFinal = false := by as_aux_lemma => kernel_rfl
theorem seat_make : Try.checked.prog.make = some .cut := by as_aux_lemma => kernel_rfl
end Go.Proofs.Ytdjfdopgjlbloaa
/- Proved here: for all arguments, FnAbstractAssertion returns true, and its arguments read as before. No condition. -/
namespace Go.Proofs.Ytdjfdopgjlbloaa.lAbs
open Go.ChangeShapes Go.WideShapes Go.ChangeAt Go.RowKit Go.Joins

theorem cellsB : Try.prog.cellsOf 5 = 1 := by kernel_rfl

set_option maxRecDepth 100000 in
theorem lifted (os : Os) (started : os.Started) (H : Type) (enc : TypeId × Value → H) :
    ReturnsInHanded {} Try.checked os 3 .any (Rows.fnAbstractAssertionSpec.pre6 enc Try.prog Try.f3 Rows.fnAbstractAssertionRow.domain false) (Rows.fnAbstractAssertionSpec.post enc Try.prog Try.f3 false true false false) := by
  refine returnsInHanded_of_change (C := Try.checked) own_knob started (by kernel_rfl) Try.func3
    (ChangeSpec.witness6 (enc := enc) (C := Try.checked) false ⟨#[], #[.slice none 0 0], []⟩ 8 (by kernel_rfl) (by kernel_rfl) (by kernel_rfl) (by kernel_rfl)) ?_
  intro W base args ds gs before hval0 hW hcnd _
  have hval : ∀ (j : Nat) t v, Try.f3.params[j]? = some t → args[j]? = some v → Value.okWide Try.prog W .any base t v := hval0
  have hW' := hW
  obtain ⟨p, q, hA0, hV, rfl, hfz, hnd⟩ := hW
  have hA : DataW.TrodAll enc Try.prog W 0 (fun _ => true) true Try.f3.params.toList args.toList ds p := hA0
  rw [Try.params3] at hA hval
  obtain ⟨v0, vs0, d0, ds0, p0, q0, hargs, rfl, rfl, h0, r0⟩ := trodAll_cons hA
  obtain ⟨rfl, rfl, rfl⟩ := trodAll_nil r0
  obtain rfl : args = #[v0] := by cases args; simp_all
  obtain ⟨rfl, rfl⟩ := trodVars_none hV
  have k0 := h0
  have lt0 : ∀ x ∈ p0, x.block < W.heap.size := by obtain ⟨m, hm⟩ := k0; exact DataW.trod_lt m _ _ _ hm
  obtain ⟨m0, hm0⟩ := h0
  obtain ⟨a0, s0, t0, e0⟩ := okWide_slice Try.underlying22 (hval 0 22 v0 rfl rfl)
  have c0 : v0.cells.toList = [v0] := by rw [e0]; rfl
  rw [c0] at hm0
  obtain ⟨n0, w0⟩ := bytes_of_trod Try.underlying22 Try.underlying5 cellsB hm0
  clear hA0 hval0
  refine (fnAbstractAssertion_walk v0 n0 W w0).mono fun e W' ⟨he, bel⟩ => ?_
  subst he
  exact ⟨_, rfl, _, _, _, [], _, [], hW', trodAll_mk1 (shut_bool Try.underlying4 _), (trodAll_cons_mk (Below.trod laid_out (by kernel_rfl) (of_decide_eq_true (by kernel_rfl)) k0 bel lt0) trodAll_mk0), rfl, bel.frame _, fun h => by cases h⟩

set_option maxHeartbeats 6400000 in
theorem closed : joinedFacts Try.checked.prog 3 Try.f3 Rows.fnAbstractAssertionSpec Rows.fnAbstractAssertionRow = true := by
  simp only [joinedFacts, Bool.and_eq_true, seat_enters, seat_lifts, seat_make, and_true]
  repeat' apply And.intro
  all_goals as_aux_lemma => kernel_rfl

theorem proved : Rows.FnAbstractAssertionSaid :=
  OpenClaim.holds_of_wide 3 Try.f3 rfl rfl rfl rfl rfl rfl rfl ⟨rfl, rfl, rfl, rfl, rfl⟩ rfl rfl rfl rfl rfl (by kernel_rfl) Try.func3 closed
    (of_decide_eq_true (by kernel_rfl)) (by unfold Func.isWrapper; first | (rw [if_pos (by decide +kernel)]; kernel_rfl) | (rw [if_neg (by decide +kernel)]; exact ⟨rfl, rfl⟩))
    (fun os started H enc _ => lifted os started H enc)
#print axioms proved
end Go.Proofs.Ytdjfdopgjlbloaa.lAbs
