/- The walk of the law FnFamilyEntails. (Printed by a program over lawgen.py.) -/
import Derived.Test.YtapoillhgimdiaaPDHolds1
import Derived.Test.YtapoillhgimdiaaPMdl3
import Derived.Test.YtapoillhgimdiaaPHold8
import Derived.Test.YtapoillhgimdiaaPCs7
import Derived.Test.YtapoillhgimdiaaPEnt2
import Derived.Test.YtapoillhgimdiaaPFam3
import Derived.Deep.Cut
import Derived.Handy
import Derived.Test.YtapoillhgimdiaaPLFHoProof
import Derived.Test.YtapoillhgimdiaaPDraw1
namespace Go.Proofs.Ytapoillhgimdiaa
open Go.RowKit

theorem famEnt_sound {a b : List Asn} (h : famEntB a b = true) {x : Asn} (hx : x ∈ a) {vl hs : List Int} (hh : holdsB vl hs x = true) : famHoldsB vl hs b = true := by
  rw [famEntB, Bool.and_eq_true, Bool.and_eq_true, List.all_eq_true] at h
  have h2 := h.2.2 x hx
  have hc : consB x = true := (cons_iff (holds_iff.1 hh).asn).2 ⟨_, tv_zero vl, (holds_iff.1 hh).poss⟩
  rw [one_test hc, List.any_eq_true] at h2
  obtain ⟨y, hy, he⟩ := h2
  rw [famHoldsB, (holds_iff.1 hh).valid, h.2.1, Bool.true_and, Bool.true_and, List.any_eq_true]
  exact ⟨y, hy, ent_sound he hh⟩
theorem famEnt_refl {a : List Asn} (ha : famB a = true) : famEntB a a = true := by
  rw [famEntB, ha, Bool.true_and, Bool.true_and, List.all_eq_true]
  intro x hx
  rw [famOne, Bool.or_eq_true, List.any_eq_true]
  exact .inr ⟨x, hx, ent_refl (fam_mem ha hx)⟩
theorem famEnt_fams {a b : List Asn} (h : famEntB a b = true) : famB a = true ∧ famB b = true := by
  rw [famEntB, Bool.and_eq_true, Bool.and_eq_true] at h
  exact ⟨h.1, h.2.1⟩
set_option maxRecDepth 100000 in
set_option maxHeartbeats 12800000 in
theorem fnFamilyEntails_walk (v : Value) (n : Nat) (w : World) (h : RBytes w v n) :
    Calls Try.prog 14 #[v] w fun e w' => e = .returned (.bool true) ∧ Below w.heap.size w w' := by
  obtain ⟨a, cap, rfl⟩ := bytes_form h
  by_cases hn : n ≤ 1048576
  rotate_left
  · go_enter Try.func14, Try.ntmps14
    go_wp2
    go_ret
    exact ⟨rfl, Below.refl _ _⟩
  go_enter Try.func14, Try.ntmps14
  go_wp2_with fail
  refine (specDrawFamEnt_any _ n _ h).mono ?_
  rintro e w1 ⟨u1, u2, A, B, rfl, hAB, r1, r2, hb⟩
  have hW := hb
  clear hb
  have r_A := r1
  obtain ⟨Aa, Ac, rfl⟩ := r_A.form
  have r_B := r2
  obtain ⟨Ba, Bc, rfl⟩ := r_B.form
  have hAl : (A.length : Int) ≤ 1013 := by have := hAB.1.1; omega
  clear r1 r2 hAB h
  obtain ⟨ok, hok⟩ : ∃ ok, ok = famEntB A B := ⟨_, rfl⟩
  have hbn : (ok != ok) = false := by cases ok <;> rfl
  have hbe : (ok == ok) = true := by cases ok <;> rfl
  have HX := Lib.hid hok
  clear hok
  go_wp2_with fail
  refine (cb (famEntI_any _ _ A B _ (r_A.keep Bl) (r_B.keep Bl)) HX.out.symm).mono ?_
  rintro e w2 ⟨rfl, hb⟩
  replace r_A := r_A.keep hb
  replace r_B := r_B.keep hb
  replace hW := bt hW hb
  clear hb
  go_wp2_with fail
  refine (cb (famEntS_any _ _ A B _ (r_A.keep Bl) (r_B.keep Bl)) HX.out.symm).mono ?_
  rintro e w3 ⟨rfl, hb⟩
  replace r_A := r_A.keep hb
  replace r_B := r_B.keep hb
  replace hW := bt hW hb
  clear hb
  cases ok with
  | false =>
    go_wp2_with fail
    refine (cb (famEntS_any _ _ A B _ (r_A.keep Bl) (r_B.keep Bl)) HX.out.symm).mono ?_
    rintro e w4 ⟨rfl, hb⟩
    replace r_A := r_A.keep hb
    replace r_B := r_B.keep hb
    replace hW := bt hW hb
    clear hb
    go_wp2
    go_ret
    exact ⟨rfl, hW⟩
  | true =>
    go_wp2
    go_loopg [6] A.length (fun q i wr => ∃ k : Nat, k + q = A.length ∧ i = .int .i64 k ∧ Below w3.heap.size w3 wr)
    case atStart => exact ⟨0, by omega, rfl, Below.refl _ _⟩
    case round =>
      obtain ⟨k, hk, rfl, hb⟩ := hrel
      have HK := Lib.hid (And.intro hk hb)
      clear hk
      replace r_A := r_A.keep hb
      replace r_B := r_B.keep hb
      replace hW := bt hW hb
      clear hb
      by_cases hk8 : k < A.length
      · have hki : (k : Int) < (A.length : Int) := by omega
        obtain ⟨_, _, hre, _, _, hrf⟩ := r_A.asnAt
        simp only [Value.slice.injEq] at hre
        obtain ⟨rfl, _, rfl⟩ := hre
        obtain ⟨gb, ob, u1, u2, rfl, _, hzb, hp1, hp2, q1, q2⟩ := hrf k hk8
        obtain ⟨ua1, uc1, rfl⟩ := q1.form
        obtain ⟨ua2, uc2, rfl⟩ := q2.form
        clear hrf
        obtain ⟨f, hf⟩ : ∃ f, f = consB (gd A k) := ⟨_, rfl⟩
        go_wp2_with fail
        refine (modelOf_any _ _ (gd A k) _ (q1.keep Bl) (q2.keep Bl)).mono ?_
        rw [← hf]
        rintro e w4 ⟨u1, u2, m1, m2, rfl, hm, ⟨i1, i2⟩, hb⟩
        replace r_A := r_A.keep hb
        replace r_B := r_B.keep hb
        replace hW := bt hW hb
        have hQ := hb
        clear hb
        have r_S1 := i1
        have r_S2 := i2
        obtain ⟨Sa1, Sc1, rfl⟩ := r_S1.form
        obtain ⟨Sa2, Sc2, rfl⟩ := r_S2.form
        have HM := Lib.hid (And.intro (gd_mem hk8) hm)
        clear hm i1 i2 hf
        cases f with
        | false =>
          go_wp2
          go_roundg (gk - 1)
          case rel => exact ⟨k + 1, by have := HK.out.1; omega, by go_num, bt HK.out.2 (bt hQ Bl)⟩
          case measure => have := HK.out.1; omega
        | true =>
          go_wp2_with fail
          refine (cb (famHoldsI_any _ _ _ m1 m2 B _ (r_S1.keep Bl).ints (r_S2.keep Bl).ints (r_B.keep Bl)) (famEnt_sound HX.out.symm HM.out.1 (HM.out.2 (by trivial)))).mono ?_
          rintro e w5 ⟨rfl, hb⟩
          have c_S1 := cell_keep hb (p := ⟨w4.heap.size, 0, none⟩) (v := .slice Sa1 m1.length Sc1) (by simp)
          have c_S2 := cell_keep hb (p := ⟨w4.heap.size, 1, none⟩) (v := .slice Sa2 m2.length Sc2) (by simp)
          replace hb : Below w4.heap.size w4 w5 := bt Bl hb
          replace r_A := r_A.keep hb
          replace r_B := r_B.keep hb
          replace r_S1 := r_S1.keep hb
          replace r_S2 := r_S2.keep hb
          replace hW := bt hW hb
          replace hQ := bt hQ hb
          clear hb
          have z_S : w4.heap.size < w5.heap.size := World.block_lt_of_cell? w5 _ c_S1
          go_wp2
          go_roundg (gk - 1)
          case rel => exact ⟨k + 1, by have := HK.out.1; omega, by go_num, bt HK.out.2 hQ⟩
          case measure => have := HK.out.1; omega
      · obtain rfl : k = A.length := by have := HK.out.1; omega
        obtain ⟨fA, fB⟩ := famEnt_fams HX.out.symm
        have HR := Lib.hid (And.intro (famEnt_refl fA) (famEnt_refl fB))
        clear fA fB
        go_wp2_with fail
        refine (cb (famEntI_any _ _ A A _ (r_A.keep Bl) (r_A.keep Bl)) HR.out.1).mono ?_
        rintro e w4 ⟨rfl, hb⟩
        replace r_A := r_A.keep hb
        replace r_B := r_B.keep hb
        replace hW := bt hW hb
        clear hb
        go_wp2_with fail
        refine (cb (famEntI_any _ _ B B _ (r_B.keep Bl) (r_B.keep Bl)) HR.out.2).mono ?_
        rintro e w5 ⟨rfl, hb⟩
        replace r_A := r_A.keep hb
        replace r_B := r_B.keep hb
        replace hW := bt hW hb
        clear hb
        go_wp2
        go_ret
        exact ⟨rfl, hW⟩
end Go.Proofs.Ytapoillhgimdiaa
/- Proved here: for all arguments, FnFamilyEntails returns true, and its arguments read as before. No condition. -/
namespace Go.Proofs.Ytapoillhgimdiaa.lFEn
open Go.ChangeShapes Go.WideShapes Go.ChangeAt Go.RowKit Go.Joins

theorem cellsB : Try.prog.cellsOf 5 = 1 := by kernel_rfl

set_option maxRecDepth 100000 in
theorem lifted (os : Os) (started : os.Started) (H : Type) (enc : TypeId × Value → H) :
    ReturnsInHanded {} Try.checked os 14 .any (Rows.fnFamilyEntailsSpec.pre6 enc Try.prog Try.f14 Rows.fnFamilyEntailsRow.domain false) (Rows.fnFamilyEntailsSpec.post enc Try.prog Try.f14 false true false false) := by
  refine returnsInHanded_of_change (C := Try.checked) own_knob started (by kernel_rfl) Try.func14
    (ChangeSpec.witness6 (enc := enc) (C := Try.checked) false ⟨#[], #[.slice none 0 0], []⟩ 8 (by kernel_rfl) (by kernel_rfl) (by kernel_rfl) (by kernel_rfl)) ?_
  intro W base args ds gs before hval0 hW hcnd _
  have hval : ∀ (j : Nat) t v, Try.f14.params[j]? = some t → args[j]? = some v → Value.okWide Try.prog W .any base t v := hval0
  have hW' := hW
  obtain ⟨p, q, hA0, hV, rfl, hfz, hnd⟩ := hW
  have hA : DataW.TrodAll enc Try.prog W 0 (fun _ => true) true Try.f14.params.toList args.toList ds p := hA0
  rw [Try.params14] at hA hval
  obtain ⟨v0, vs0, d0, ds0, p0, q0, hargs, rfl, rfl, h0, r0⟩ := trodAll_cons hA
  obtain ⟨rfl, rfl, rfl⟩ := trodAll_nil r0
  obtain rfl : args = #[v0] := by cases args; simp_all
  obtain ⟨rfl, rfl⟩ := trodVars_none hV
  have k0 := h0
  have lt0 : ∀ x ∈ p0, x.block < W.heap.size := by obtain ⟨m, hm⟩ := k0; exact DataW.trod_lt m _ _ _ hm
  obtain ⟨m0, hm0⟩ := h0
  obtain ⟨a0, s0, t0, e0⟩ := okWide_slice Try.underlying40 (hval 0 40 v0 rfl rfl)
  have c0 : v0.cells.toList = [v0] := by rw [e0]; rfl
  rw [c0] at hm0
  obtain ⟨n0, w0⟩ := bytes_of_trod Try.underlying40 Try.underlying5 cellsB hm0
  clear hA0 hval0
  refine (fnFamilyEntails_walk v0 n0 W w0).mono fun e W' ⟨he, bel⟩ => ?_
  subst he
  exact ⟨_, rfl, _, _, _, [], _, [], hW', trodAll_mk1 (shut_bool Try.underlying4 _), (trodAll_cons_mk (Below.trod laid_out (by kernel_rfl) (of_decide_eq_true (by kernel_rfl)) k0 bel lt0) trodAll_mk0), rfl, bel.frame _, fun h => by cases h⟩

set_option maxHeartbeats 6400000 in
theorem closed : joinedFacts Try.checked.prog 14 Try.f14 Rows.fnFamilyEntailsSpec Rows.fnFamilyEntailsRow = true := by
  simp only [joinedFacts, Bool.and_eq_true, seat_enters, seat_lifts, seat_make, and_true]
  repeat' apply And.intro
  all_goals as_aux_lemma => kernel_rfl

theorem proved : Rows.FnFamilyEntailsSaid :=
  OpenClaim.holds_of_wide 14 Try.f14 rfl rfl rfl rfl rfl rfl rfl ⟨rfl, rfl, rfl, rfl, rfl⟩ rfl rfl rfl rfl rfl (by kernel_rfl) Try.func14 closed
    (of_decide_eq_true (by kernel_rfl)) (by unfold Func.isWrapper; first | (rw [if_pos (by decide +kernel)]; kernel_rfl) | (rw [if_neg (by decide +kernel)]; exact ⟨rfl, rfl⟩))
    (fun os started H enc _ => lifted os started H enc)
#print axioms proved
end Go.Proofs.Ytapoillhgimdiaa.lFEn
