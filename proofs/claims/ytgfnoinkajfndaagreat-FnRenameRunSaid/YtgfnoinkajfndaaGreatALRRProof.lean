/- Closed facts of the seat's program that every claim needs. -/
import Derived.Test.YtgfnoinkajfndaaGreatChecked
import Derived.WalkKit
import Derived.Test.YtgfnoinkajfndaaGreatALRR
import Derived.Test.YtgfnoinkajfndaaGreatADraw1
namespace Go.Proofs.YtgfnoinkajfndaaGreat
open Go

theorem seat_enters : Tryz.checked.prog.mayEnter = true := by as_aux_lemma => kernel_rfl
theorem seat_lifts : Tryz.checked.prog.liftsFinal = false := by as_aux_lemma => kernel_rfl
theorem seat_make : Tryz.checked.prog.make = some .cut := by as_aux_lemma => kernel_rfl
end Go.Proofs.YtgfnoinkajfndaaGreat
/- Proved here: for all arguments, FnRenameRun returns true, and its arguments read as before. No condition. -/
namespace Go.Proofs.YtgfnoinkajfndaaGreat.lRR
open Go.ChangeShapes Go.WideShapes Go.ChangeAt Go.RowKit Go.Joins

theorem cellsB : Tryz.prog.cellsOf 5 = 1 := by kernel_rfl

set_option maxRecDepth 100000 in
theorem lifted (os : Os) (started : os.Started) (H : Type) (enc : TypeId × Value → H) :
    ReturnsInHanded {} Tryz.checked os 3 .any (Rows.fnRenameRunSpec.pre6 enc Tryz.prog Tryz.f3 Rows.fnRenameRunRow.domain false) (Rows.fnRenameRunSpec.post enc Tryz.prog Tryz.f3 false true false false) := by
  refine returnsInHanded_of_change (C := Tryz.checked) own_knob started (by kernel_rfl) Tryz.func3
    (ChangeSpec.witness6 (enc := enc) (C := Tryz.checked) false ⟨#[], #[.slice none 0 0, .slice none 0 0], []⟩ 8 (by kernel_rfl) (by kernel_rfl) (by kernel_rfl) (by kernel_rfl)) ?_
  intro W base args ds gs before hval0 hW hcnd _
  have hval : ∀ (j : Nat) t v, Tryz.f3.params[j]? = some t → args[j]? = some v → Value.okWide Tryz.prog W .any base t v := hval0
  have hW' := hW
  obtain ⟨p, q, hA0, hV, rfl, hfz, hnd⟩ := hW
  have hA : DataW.TrodAll enc Tryz.prog W 0 (fun _ => true) true Tryz.f3.params.toList args.toList ds p := hA0
  rw [Tryz.params3] at hA hval
  obtain ⟨v0, vs0, d0, ds0, p0, q0, hargs, rfl, rfl, h0, r0⟩ := trodAll_cons hA
  obtain ⟨v1, vs1, d1, ds1, p1, q1, rfl, rfl, rfl, h1, r1⟩ := trodAll_cons r0
  obtain ⟨rfl, rfl, rfl⟩ := trodAll_nil r1
  obtain rfl : args = #[v0, v1] := by cases args; simp_all
  obtain ⟨rfl, rfl⟩ := trodVars_none hV
  have k0 := h0
  have lt0 : ∀ x ∈ p0, x.block < W.heap.size := by obtain ⟨m, hm⟩ := k0; exact DataW.trod_lt m _ _ _ hm
  have k1 := h1
  have lt1 : ∀ x ∈ p1, x.block < W.heap.size := by obtain ⟨m, hm⟩ := k1; exact DataW.trod_lt m _ _ _ hm
  obtain ⟨m0, hm0⟩ := h0
  obtain ⟨a0, s0, t0, e0⟩ := okWide_slice Tryz.underlying22 (hval 0 22 v0 rfl rfl)
  have c0 : v0.cells.toList = [v0] := by rw [e0]; rfl
  rw [c0] at hm0
  obtain ⟨n0, w0⟩ := bytes_of_trod Tryz.underlying22 Tryz.underlying5 cellsB hm0
  obtain ⟨m1, hm1⟩ := h1
  obtain ⟨a1, s1, t1, e1⟩ := okWide_slice Tryz.underlying22 (hval 1 22 v1 rfl rfl)
  have c1 : v1.cells.toList = [v1] := by rw [e1]; rfl
  rw [c1] at hm1
  obtain ⟨n1, w1⟩ := bytes_of_trod Tryz.underlying22 Tryz.underlying5 cellsB hm1
  clear hA0 hval0
  refine (fnRenameRun_walk v0 v1 n0 n1 W w0 w1).mono fun e W' ⟨he, bel⟩ => ?_
  subst he
  exact ⟨_, rfl, _, _, _, [], _, [], hW', trodAll_mk1 (shut_bool Tryz.underlying4 _), (trodAll_cons_mk (Below.trod laid_out (by kernel_rfl) (of_decide_eq_true (by kernel_rfl)) k0 bel lt0) (trodAll_cons_mk (Below.trod laid_out (by kernel_rfl) (of_decide_eq_true (by kernel_rfl)) k1 bel lt1) trodAll_mk0)), rfl, bel.frame _, fun h => by cases h⟩

set_option maxHeartbeats 6400000 in
theorem closed : joinedFacts Tryz.checked.prog 3 Tryz.f3 Rows.fnRenameRunSpec Rows.fnRenameRunRow = true := by
  simp only [joinedFacts, Bool.and_eq_true, seat_enters, seat_lifts, seat_make, and_true]
  repeat' apply And.intro
  all_goals as_aux_lemma => kernel_rfl

theorem proved : Rows.FnRenameRunSaid :=
  OpenClaim.holds_of_wide 3 Tryz.f3 rfl rfl rfl rfl rfl rfl rfl ⟨rfl, rfl, rfl, rfl, rfl⟩ rfl rfl rfl rfl rfl (by kernel_rfl) Tryz.func3 closed
    (of_decide_eq_true (by kernel_rfl)) (by unfold Func.isWrapper; first | (rw [if_pos (by decide +kernel)]; kernel_rfl) | (rw [if_neg (by decide +kernel)]; exact ⟨rfl, rfl⟩))
    (fun os started H enc _ => lifted os started H enc)
#print axioms proved
end Go.Proofs.YtgfnoinkajfndaaGreat.lRR
