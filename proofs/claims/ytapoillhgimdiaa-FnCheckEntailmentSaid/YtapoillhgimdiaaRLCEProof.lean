/- The walk of the law FnCheckEntailment. (Printed by a program over lawgen.py.) -/
import Derived.Test.YtapoillhgimdiaaRDCE
import Derived.Test.YtapoillhgimdiaaRHold8
import Derived.Test.YtapoillhgimdiaaRCs7
import Derived.Test.YtapoillhgimdiaaRImpA
import Derived.Test.YtapoillhgimdiaaRChk3
import Derived.Test.YtapoillhgimdiaaRChkA
import Derived.Test.YtapoillhgimdiaaRCase14
import Derived.Deep.Cut
import Derived.Handy
import Derived.Test.YtapoillhgimdiaaChecked
import Derived.WalkKit
import Derived.Test.YtapoillhgimdiaaRDraw1
namespace Go.Proofs.Ytapoillhgimdiaa
open Go.RowKit

set_option maxRecDepth 100000 in
set_option maxHeartbeats 12800000 in
theorem fnCheckEntailment_walk (v : Value) (n : Nat) (w : World) (h : RBytes w v n) :
    Calls Try.prog 15 #[v] w fun e w' => e = .returned (.bool true) ∧ Below w.heap.size w w' := by
  obtain ⟨a, cap, rfl⟩ := bytes_form h
  by_cases hn : n ≤ 1048576
  rotate_left
  · go_enter Try.func15, Try.ntmps15
    go_wp2
    go_ret
    exact ⟨rfl, Below.refl _ _⟩
  go_enter Try.func15, Try.ntmps15
  go_wp2_with fail
  refine (specDrawChkEnt_any _ n _ h).mono ?_
  rintro e w1 ⟨u1, u2, t1, t2, x, A, B, P, rfl, hpl, ⟨r1, r2⟩, ⟨s1, s2⟩, rx, hb⟩
  have hW := hb
  clear hb
  have r_A1 := r1
  have r_A2 := r2
  obtain ⟨Aa1, Ac1, rfl⟩ := r_A1.form
  obtain ⟨Aa2, Ac2, rfl⟩ := r_A2.form
  have r_B1 := s1
  have r_B2 := s2
  obtain ⟨Ba1, Bc1, rfl⟩ := r_B1.form
  obtain ⟨Ba2, Bc2, rfl⟩ := r_B2.form
  have r_P := rx
  obtain ⟨Pa, Pc, rfl⟩ := r_P.form
  have hPl : (P.length : Int) ≤ 362880 := by omega
  clear r1 r2 s1 s2 rx hpl h
  obtain ⟨ok, hok⟩ : ∃ ok, ok = chkE A B P := ⟨_, rfl⟩
  have hbn : (ok != ok) = false := by cases ok <;> rfl
  have hbe : (ok == ok) = true := by cases ok <;> rfl
  have HX := Lib.hid hok
  clear hok
  go_wp2_with fail
  refine (cb (checkEntI_any _ _ _ _ _ A B P _ (r_A1.keep Bl) (r_A2.keep Bl) (r_B1.keep Bl) (r_B2.keep Bl) (r_P.keep Bl)) HX.out.symm).mono ?_
  rintro e w2 ⟨rfl, hb⟩
  have c_A1 := cell_keep hb (p := ⟨w1.heap.size, 0, none⟩) (v := .slice Aa1 A.1.length Ac1) (by simp)
  have c_A2 := cell_keep hb (p := ⟨w1.heap.size, 1, none⟩) (v := .slice Aa2 A.2.length Ac2) (by simp)
  have c_B1 := cell_keep hb (p := ⟨w1.heap.size + 1, 0, none⟩) (v := .slice Ba1 B.1.length Bc1) (by simp)
  have c_B2 := cell_keep hb (p := ⟨w1.heap.size + 1, 1, none⟩) (v := .slice Ba2 B.2.length Bc2) (by simp)
  replace hb : Below w1.heap.size w1 w2 := bt Bl hb
  replace r_A1 := r_A1.keep hb
  replace r_A2 := r_A2.keep hb
  replace r_B1 := r_B1.keep hb
  replace r_B2 := r_B2.keep hb
  replace r_P := r_P.keep hb
  replace hW := bt hW hb
  clear hb
  have z_A : w1.heap.size < w2.heap.size := World.block_lt_of_cell? w2 _ c_A1
  have z_B : w1.heap.size + 1 < w2.heap.size := World.block_lt_of_cell? w2 _ c_B1
  go_wp2_with fail
  refine (cb (checkEntS_any _ _ _ _ _ A B P _ (r_A1.keep Bl) (r_A2.keep Bl) (r_B1.keep Bl) (r_B2.keep Bl) (r_P.keep Bl)) HX.out.symm).mono ?_
  rintro e w3 ⟨rfl, hb⟩
  replace c_A1 := cell_keep hb c_A1
  replace c_A2 := cell_keep hb c_A2
  replace c_B1 := cell_keep hb c_B1
  replace c_B2 := cell_keep hb c_B2
  replace r_A1 := r_A1.keep hb
  replace r_A2 := r_A2.keep hb
  replace r_B1 := r_B1.keep hb
  replace r_B2 := r_B2.keep hb
  replace r_P := r_P.keep hb
  replace hW := bt hW hb
  clear hb
  clear z_A
  have z_A : w1.heap.size < w3.heap.size := World.block_lt_of_cell? w3 _ c_A1
  clear z_B
  have z_B : w1.heap.size + 1 < w3.heap.size := World.block_lt_of_cell? w3 _ c_B1
  cases ok with
  | false =>
    go_wp2_with fail
    refine (cb (checkEntS_any _ _ _ _ _ A B P _ (r_A1.keep Bl) (r_A2.keep Bl) (r_B1.keep Bl) (r_B2.keep Bl) (r_P.keep Bl)) HX.out.symm).mono ?_
    rintro e w4 ⟨rfl, hb⟩
    replace c_A1 := cell_keep hb c_A1
    replace c_A2 := cell_keep hb c_A2
    replace c_B1 := cell_keep hb c_B1
    replace c_B2 := cell_keep hb c_B2
    replace r_A1 := r_A1.keep hb
    replace r_A2 := r_A2.keep hb
    replace r_B1 := r_B1.keep hb
    replace r_B2 := r_B2.keep hb
    replace r_P := r_P.keep hb
    replace hW := bt hW hb
    clear hb
    clear z_A
    have z_A : w1.heap.size < w4.heap.size := World.block_lt_of_cell? w4 _ c_A1
    clear z_B
    have z_B : w1.heap.size + 1 < w4.heap.size := World.block_lt_of_cell? w4 _ c_B1
    go_wp2
    go_ret
    exact ⟨rfl, hW⟩
  | true =>
    obtain ⟨f, hf⟩ : ∃ f, f = consB A := ⟨_, rfl⟩
    go_wp2_with fail
    refine (modelOf_any _ _ A _ (r_A1.keep Bl) (r_A2.keep Bl)).mono ?_
    rw [← hf]
    rintro e w4 ⟨u1, u2, m1, m2, rfl, hm, ⟨i1, i2⟩, hb⟩
    replace c_A1 := cell_keep hb c_A1
    replace c_A2 := cell_keep hb c_A2
    replace c_B1 := cell_keep hb c_B1
    replace c_B2 := cell_keep hb c_B2
    replace r_A1 := r_A1.keep hb
    replace r_A2 := r_A2.keep hb
    replace r_B1 := r_B1.keep hb
    replace r_B2 := r_B2.keep hb
    replace r_P := r_P.keep hb
    replace hW := bt hW hb
    clear hb
    clear z_A
    have z_A : w1.heap.size < w4.heap.size := World.block_lt_of_cell? w4 _ c_A1
    clear z_B
    have z_B : w1.heap.size + 1 < w4.heap.size := World.block_lt_of_cell? w4 _ c_B1
    have r_M1 := i1
    have r_M2 := i2
    obtain ⟨Ma1, Mc1, rfl⟩ := r_M1.form
    obtain ⟨Ma2, Mc2, rfl⟩ := r_M2.form
    obtain ⟨hen, hall⟩ := chk_ent HX.out.symm
    have HM := Lib.hid (And.intro hm (And.intro hen hall))
    clear hm hen hall i1 i2 hf
    go_wp2
    go_loopg [9] P.length (fun q i wr => ∃ k : Nat, k + q = P.length ∧ i = .int .i64 k ∧ Below (w4.alloc (.cells #[.slice Ma1 m1.length Mc1, .slice Ma2 m2.length Mc2] 77)).heap.size (w4.alloc (.cells #[.slice Ma1 m1.length Mc1, .slice Ma2 m2.length Mc2] 77)) wr)
    case atStart => exact ⟨0, by omega, rfl, Below.refl _ _⟩
    case round =>
      obtain ⟨k, hk, rfl, hb⟩ := hrel
      have HK := Lib.hid (And.intro hk hb)
      clear hk
      have c_M1 := cell_keep hb (p := ⟨w4.heap.size, 0, none⟩) (v := .slice Ma1 m1.length Mc1) (by simp)
      have c_M2 := cell_keep hb (p := ⟨w4.heap.size, 1, none⟩) (v := .slice Ma2 m2.length Mc2) (by simp)
      replace hb : Below w4.heap.size w4 wr := bt Bl hb
      replace c_A1 := cell_keep hb c_A1
      replace c_A2 := cell_keep hb c_A2
      replace c_B1 := cell_keep hb c_B1
      replace c_B2 := cell_keep hb c_B2
      replace r_A1 := r_A1.keep hb
      replace r_A2 := r_A2.keep hb
      replace r_B1 := r_B1.keep hb
      replace r_B2 := r_B2.keep hb
      replace r_P := r_P.keep hb
      replace r_M1 := r_M1.keep hb
      replace r_M2 := r_M2.keep hb
      replace hW := bt hW hb
      clear hb
      clear z_A
      have z_A : w1.heap.size < wr.heap.size := World.block_lt_of_cell? wr _ c_A1
      clear z_B
      have z_B : w1.heap.size + 1 < wr.heap.size := World.block_lt_of_cell? wr _ c_B1
      have z_M : w4.heap.size < wr.heap.size := World.block_lt_of_cell? wr _ c_M1
      by_cases hk8 : k < P.length
      · have hki : (k : Int) < (P.length : Int) := by omega
        obtain ⟨_, _, hre, _, _, hrf⟩ := r_P.cpfAt
        simp only [Value.slice.injEq] at hre
        obtain ⟨rfl, hx9, rfl⟩ := hre
        clear hx9
        obtain ⟨gb, ob, u1, u2, rfl, _, hzb, hp1, hp2, q1, q2⟩ := hrf k hk8
        obtain ⟨ua1, uc1, rfl⟩ := q1.form
        obtain ⟨ua2, uc2, rfl⟩ := q2.form
        clear hrf
        have HS := Lib.hid (HM.out.2.2 _ (gd_mem hk8))
        go_wp2
        refine wp_region_ext (by kernel_rfl) (by kernel_rfl) ?_
        repeat (go_big_quiet_step ((go_at_call 32; exact ext_c (cb (checkCaseI_any _ _ _ _ _ _ A B (gd P k) _ (r_A1.keep (ext_below _ _)) (r_A2.keep (ext_below _ _)) (r_B1.keep (ext_below _ _)) (r_B2.keep (ext_below _ _)) (q1.keep (ext_below _ _)) (q2.keep (ext_below _ _))) HS.out))))
        refine wpQuiet_nil ?_
        intro w9 hb9
        have HB9 := Lib.hid (bt HK.out.2 hb9)
        clear hb9
        go_wp2
        go_roundg (gk - 1)
        case rel => exact ⟨k + 1, by have := HK.out.1; omega, by go_num, HB9.out⟩
        case measure => have := HK.out.1; omega
      · obtain rfl : k = P.length := by have := HK.out.1; omega
        go_wp2_with fail
        refine (cb (entailsI_any _ _ _ _ A B _ (r_A1.keep Bl) (r_A2.keep Bl) (r_B1.keep Bl) (r_B2.keep Bl)) HM.out.2.1).mono ?_
        rintro e w5 ⟨rfl, hb⟩
        replace c_A1 := cell_keep hb c_A1
        replace c_A2 := cell_keep hb c_A2
        replace c_B1 := cell_keep hb c_B1
        replace c_B2 := cell_keep hb c_B2
        replace c_M1 := cell_keep hb c_M1
        replace c_M2 := cell_keep hb c_M2
        replace r_A1 := r_A1.keep hb
        replace r_A2 := r_A2.keep hb
        replace r_B1 := r_B1.keep hb
        replace r_B2 := r_B2.keep hb
        replace r_P := r_P.keep hb
        replace r_M1 := r_M1.keep hb
        replace r_M2 := r_M2.keep hb
        replace hW := bt hW hb
        clear hb
        clear z_A
        have z_A : w1.heap.size < w5.heap.size := World.block_lt_of_cell? w5 _ c_A1
        clear z_B
        have z_B : w1.heap.size + 1 < w5.heap.size := World.block_lt_of_cell? w5 _ c_B1
        clear z_M
        have z_M : w4.heap.size < w5.heap.size := World.block_lt_of_cell? w5 _ c_M1
        cases f with
        | false =>
          go_wp2
          go_ret
          exact ⟨rfl, hW⟩
        | true =>
          go_wp2_with fail
          refine (cb (holdsI_any _ _ _ _ m1 m2 B _ (r_M1.keep Bl).ints (r_M2.keep Bl).ints (r_B1.keep Bl) (r_B2.keep Bl)) (ent_sound HM.out.2.1 (HM.out.1 (by trivial)))).mono ?_
          rintro e w6 ⟨rfl, hb⟩
          replace c_A1 := cell_keep hb c_A1
          replace c_A2 := cell_keep hb c_A2
          replace c_B1 := cell_keep hb c_B1
          replace c_B2 := cell_keep hb c_B2
          replace c_M1 := cell_keep hb c_M1
          replace c_M2 := cell_keep hb c_M2
          replace r_A1 := r_A1.keep hb
          replace r_A2 := r_A2.keep hb
          replace r_B1 := r_B1.keep hb
          replace r_B2 := r_B2.keep hb
          replace r_P := r_P.keep hb
          replace r_M1 := r_M1.keep hb
          replace r_M2 := r_M2.keep hb
          replace hW := bt hW hb
          clear hb
          clear z_A
          have z_A : w1.heap.size < w6.heap.size := World.block_lt_of_cell? w6 _ c_A1
          clear z_B
          have z_B : w1.heap.size + 1 < w6.heap.size := World.block_lt_of_cell? w6 _ c_B1
          clear z_M
          have z_M : w4.heap.size < w6.heap.size := World.block_lt_of_cell? w6 _ c_M1
          go_wp2
          go_ret
          exact ⟨rfl, hW⟩
end Go.Proofs.Ytapoillhgimdiaa
/- Closed facts of the seat's program that every claim needs. -/
namespace Go.Proofs.Ytapoillhgimdiaa
open Go

theorem seat_enters : Try.checked.prog.mayEnter = true := by as_aux_lemma => kernel_rfl
theorem seat_lifts : Try.checked.prog.liftsFinal = false := by as_aux_lemma => kernel_rfl
theorem seat_make : Try.checked.prog.make = some .cut := by as_aux_lemma => kernel_rfl
end Go.Proofs.Ytapoillhgimdiaa
/- Proved here: for all arguments, FnCheckEntailment returns true, and its arguments read as before. No condition. -/
namespace Go.Proofs.Ytapoillhgimdiaa.lCE
open Go.ChangeShapes Go.WideShapes Go.ChangeAt Go.RowKit Go.Joins

theorem cellsB : Try.prog.cellsOf 5 = 1 := by kernel_rfl

set_option maxRecDepth 100000 in
theorem lifted (os : Os) (started : os.Started) (H : Type) (enc : TypeId × Value → H) :
    ReturnsInHanded {} Try.checked os 15 .any (Rows.fnCheckEntailmentSpec.pre6 enc Try.prog Try.f15 Rows.fnCheckEntailmentRow.domain false) (Rows.fnCheckEntailmentSpec.post enc Try.prog Try.f15 false true false false) := by
  refine returnsInHanded_of_change (C := Try.checked) own_knob started (by kernel_rfl) Try.func15
    (ChangeSpec.witness6 (enc := enc) (C := Try.checked) false ⟨#[], #[.slice none 0 0], []⟩ 8 (by kernel_rfl) (by kernel_rfl) (by kernel_rfl) (by kernel_rfl)) ?_
  intro W base args ds gs before hval0 hW hcnd _
  have hval : ∀ (j : Nat) t v, Try.f15.params[j]? = some t → args[j]? = some v → Value.okWide Try.prog W .any base t v := hval0
  have hW' := hW
  obtain ⟨p, q, hA0, hV, rfl, hfz, hnd⟩ := hW
  have hA : DataW.TrodAll enc Try.prog W 0 (fun _ => true) true Try.f15.params.toList args.toList ds p := hA0
  rw [Try.params15] at hA hval
  obtain ⟨v0, vs0, d0, ds0, p0, q0, hargs, rfl, rfl, h0, r0⟩ := trodAll_cons hA
  obtain ⟨rfl, rfl, rfl⟩ := trodAll_nil r0
  obtain rfl : args = #[v0] := by cases args; simp_all
  obtain ⟨rfl, rfl⟩ := trodVars_none hV
  have k0 := h0
  have lt0 : ∀ x ∈ p0, x.block < W.heap.size := by obtain ⟨m, hm⟩ := k0; exact DataW.trod_lt m _ _ _ hm
  obtain ⟨m0, hm0⟩ := h0
  obtain ⟨a0, s0, t0, e0⟩ := okWide_slice Try.underlying40 (hval 0 40 v0 rfl rfl)
  have c0 : v0.cells.toList = [v0] := by rw [e0]; rfl
  rw [c0] at hm0
  obtain ⟨n0, w0⟩ := bytes_of_trod Try.underlying40 Try.underlying5 cellsB hm0
  clear hA0 hval0
  refine (fnCheckEntailment_walk v0 n0 W w0).mono fun e W' ⟨he, bel⟩ => ?_
  subst he
  exact ⟨_, rfl, _, _, _, [], _, [], hW', trodAll_mk1 (shut_bool Try.underlying4 _), (trodAll_cons_mk (Below.trod laid_out (by kernel_rfl) (of_decide_eq_true (by kernel_rfl)) k0 bel lt0) trodAll_mk0), rfl, bel.frame _, fun h => by cases h⟩

set_option maxHeartbeats 6400000 in
theorem closed : joinedFacts Try.checked.prog 15 Try.f15 Rows.fnCheckEntailmentSpec Rows.fnCheckEntailmentRow = true := by
  simp only [joinedFacts, Bool.and_eq_true, seat_enters, seat_lifts, seat_make, and_true]
  repeat' apply And.intro
  all_goals as_aux_lemma => kernel_rfl

theorem proved : Rows.FnCheckEntailmentSaid :=
  OpenClaim.holds_of_wide 15 Try.f15 rfl rfl rfl rfl rfl rfl rfl ⟨rfl, rfl, rfl, rfl, rfl⟩ rfl rfl rfl rfl rfl (by kernel_rfl) Try.func15 closed
    (of_decide_eq_true (by kernel_rfl)) (by unfold Func.isWrapper; first | (rw [if_pos (by decide +kernel)]; kernel_rfl) | (rw [if_neg (by decide +kernel)]; exact ⟨rfl, rfl⟩))
    (fun os started H enc _ => lifted os started H enc)
#print axioms proved
end Go.Proofs.Ytapoillhgimdiaa.lCE
