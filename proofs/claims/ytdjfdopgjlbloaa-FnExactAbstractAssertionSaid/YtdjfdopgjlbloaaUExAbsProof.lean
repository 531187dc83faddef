/- Proved here: for all arguments, FnExactAbstractAssertion returns true, and its arguments read as before. No condition. -/
import Derived.Test.YtdjfdopgjlbloaaUExAbs
import Derived.Test.YtdjfdopgjlbloaaUSeatF
import Derived.Test.YtdjfdopgjlbloaaUFrameC
namespace Go.Proofs.Ytdjfdopgjlbloaa.exAbs
open Go.ChangeShapes Go.WideShapes Go.ChangeAt Go.RowKit Go.Joins


set_option maxRecDepth 100000 in
theorem lifted (os : Os) (started : os.Started) (H : Type) (enc : TypeId × Value → H) :
    ReturnsInHanded {} Try.checked os 4 .any (Rows.fnExactAbstractAssertionSpec.pre6 enc Try.prog Try.f4 Rows.fnExactAbstractAssertionRow.domain false) (Rows.fnExactAbstractAssertionSpec.post enc Try.prog Try.f4 false true false false) := by
  refine returnsInHanded_of_change (C := Try.checked) own_knob started (by kernel_rfl) Try.func4
    (ChangeSpec.witness6 (enc := enc) (C := Try.checked) false ⟨#[], #[.agg #[.slice none 0 0, .slice none 0 0], .slice none 0 0], []⟩ 8 (by kernel_rfl) (by kernel_rfl) (by kernel_rfl) (by kernel_rfl)) ?_
  intro W base args ds gs before hval0 hW hcnd _
  have hval : ∀ (j : Nat) t v, Try.f4.params[j]? = some t → args[j]? = some v → Value.okWide Try.prog W .any base t v := hval0
  have hW' := hW
  obtain ⟨p, q, hA0, hV, rfl, hfz, hnd⟩ := hW
  have hA : DataW.TrodAll enc Try.prog W 0 (fun _ => true) true Try.f4.params.toList args.toList ds p := hA0
  rw [Try.params4] at hA hval
  obtain ⟨v0, vs0, d0, ds0, p0, q0, hargs, rfl, rfl, h0, r0⟩ := trodAll_cons hA
  obtain ⟨v1, vs1, d1, ds1, p1, q1, rfl, rfl, rfl, h1, r1⟩ := trodAll_cons r0
  obtain ⟨rfl, rfl, rfl⟩ := trodAll_nil r1
  obtain rfl : args = #[v0, v1] := by cases args; simp_all
  obtain ⟨rfl, rfl⟩ := trodVars_none hV
  have k0 := h0
  have lt0 : ∀ x ∈ p0, x.block < W.heap.size := by obtain ⟨m, hm⟩ := k0; exact DataW.trod_lt m _ _ _ hm
  have k1 := h1
  have lt1 : ∀ x ∈ p1, x.block < W.heap.size := by obtain ⟨m, hm⟩ := k1; exact DataW.trod_lt m _ _ _ hm
  obtain ⟨c00, c01, y00, y01, m0, hv0, _, _, hy00, hy01⟩ := open_agg2 Try.underlying38 (by kernel_rfl) (by kernel_rfl) (hval 0 38 v0 rfl rfl) h0
  obtain ⟨l00, w00⟩ := rl_facts hy00
  obtain ⟨l01, w01⟩ := rl_atoms hy01
  obtain ⟨m1, hm1⟩ := h1
  obtain ⟨a1, s1, t1, e1⟩ := okWide_slice Try.underlying27 (hval 1 27 v1 rfl rfl)
  have c1 : v1.cells.toList = [v1] := by rw [e1]; rfl
  rw [c1] at hm1
  obtain ⟨n1, w1⟩ := rl_ints hm1
  clear hA0 hval0
  subst hv0
  refine (fnExactAbstractAssertion_walk c00 c01 v1 (l00, l01) n1 W w00 w01 w1).mono fun e W' ⟨he, bel⟩ => ?_
  subst he
  exact ⟨_, rfl, _, _, _, [], _, [], hW', trodAll_mk1 (shut_bool Try.underlying4 _), (trodAll_cons_mk (Below.trod laid_out (by kernel_rfl) (of_decide_eq_true (by kernel_rfl)) k0 bel lt0) (trodAll_cons_mk (Below.trod laid_out (by kernel_rfl) (of_decide_eq_true (by kernel_rfl)) k1 bel lt1) trodAll_mk0)), rfl, bel.frame _, fun h => by cases h⟩

set_option maxHeartbeats 6400000 in
theorem closed : joinedFacts Try.checked.prog 4 Try.f4 Rows.fnExactAbstractAssertionSpec Rows.fnExactAbstractAssertionRow = true := by
  simp only [joinedFacts, Bool.and_eq_true, seat_enters, seat_lifts, seat_make, and_true]
  repeat' apply And.intro
  all_goals as_aux_lemma => kernel_rfl

theorem proved : Rows.FnExactAbstractAssertionSaid :=
  OpenClaim.holds_of_wide 4 Try.f4 rfl rfl rfl rfl rfl rfl rfl ⟨rfl, rfl, rfl, rfl, rfl⟩ rfl rfl rfl rfl rfl (by kernel_rfl) Try.func4 closed
    (of_decide_eq_true (by kernel_rfl)) (by unfold Func.isWrapper; first | (rw [if_pos (by decide +kernel)]; kernel_rfl) | (rw [if_neg (by decide +kernel)]; exact ⟨rfl, rfl⟩))
    (fun os started H enc _ => lifted os started H enc)
#print axioms proved
end Go.Proofs.Ytdjfdopgjlbloaa.exAbs
