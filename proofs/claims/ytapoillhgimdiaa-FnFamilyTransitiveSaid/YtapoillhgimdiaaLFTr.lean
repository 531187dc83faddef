/- The walk of the law FnFamilyTransitive. (Printed by a program over lawgen.py.) -/
import Derived.Test.YtapoillhgimdiaaDFam2
import Derived.Test.YtapoillhgimdiaaTrm
import Derived.Test.YtapoillhgimdiaaEnt2
import Derived.Deep.Cut
import Derived.Handy
namespace Go.Proofs.Ytapoillhgimdiaa
open Go.RowKit

theorem famEnt_parts {a b : List Asn} (h : famEntB a b = true) : famB a = true ∧ famB b = true ∧ ∀ x ∈ a, consB x = true → ∃ y ∈ b, entB x y = true := by
  rw [famEntB, Bool.and_eq_true, Bool.and_eq_true, List.all_eq_true] at h
  refine ⟨h.1, h.2.1, fun x hx hc => ?_⟩
  have h2 := h.2.2 x hx
  rw [one_test hc, List.any_eq_true] at h2
  exact h2
theorem famEnt_mk {a b : List Asn} (ha : famB a = true) (hb : famB b = true) (h : ∀ x ∈ a, consB x = true → ∃ y ∈ b, entB x y = true) : famEntB a b = true := by
  rw [famEntB, ha, hb, Bool.true_and, Bool.true_and, List.all_eq_true]
  intro x hx
  cases hc : consB x with
  | false => exact one_skip hc
  | true => rw [one_test hc, List.any_eq_true]; exact h x hx hc
theorem famEnt_trans {a b c : List Asn} (h1 : famEntB a b = true) (h2 : famEntB b c = true) : famEntB a c = true := by
  obtain ⟨a1, _, e1⟩ := famEnt_parts h1
  obtain ⟨_, c2, e2⟩ := famEnt_parts h2
  refine famEnt_mk a1 c2 fun x hx hc => ?_
  obtain ⟨y, hy, exy⟩ := e1 x hx hc
  obtain ⟨z, hz, eyz⟩ := e2 y hy (cons_ent hc exy)
  exact ⟨z, hz, ent_trans exy eyz⟩
theorem join_fam {a b : List Asn} (h : joinOk a b = true) : joinL a b = a ++ b ∧ famB (a ++ b) = true := by
  refine ⟨by rw [joinL, if_pos h], ?_⟩
  simp only [joinOk, famB, Bool.and_eq_true, decide_eq_true_eq, List.length_append, List.all_append] at h ⊢
  exact ⟨by omega, h.1.2, h.2.1.2⟩
theorem famEnt_join {a b c d : List Asn} (h1 : famEntB a b = true) (hp : joinOk a c = true) (hq : joinOk b d = true) (h2 : famEntB c d = true) : famEntB (joinL a c) (joinL b d) = true := by
  obtain ⟨ea, ha⟩ := join_fam hp
  obtain ⟨eb, hb⟩ := join_fam hq
  obtain ⟨_, _, e1⟩ := famEnt_parts h1
  obtain ⟨_, _, e2⟩ := famEnt_parts h2
  rw [ea, eb]
  refine famEnt_mk ha hb fun x hx hc => ?_
  rcases List.mem_append.1 hx with hx | hx
  · obtain ⟨y, hy, e⟩ := e1 x hx hc
    exact ⟨y, List.mem_append_left _ hy, e⟩
  · obtain ⟨y, hy, e⟩ := e2 x hx hc
    exact ⟨y, List.mem_append_right _ hy, e⟩
set_option maxRecDepth 100000 in
set_option maxHeartbeats 12800000 in
theorem fnFamilyTransitive_walk (v u : Value) (n m : Nat) (w : World) (h : RBytes w v n) (h' : RBytes w u m) :
    Calls Try.prog 8 #[v, u] w fun e w' => e = .returned (.bool true) ∧ Below w.heap.size w w' := by
  obtain ⟨a, cap, rfl⟩ := bytes_form h
  obtain ⟨a', cap', rfl⟩ := bytes_form h'
  by_cases hn : n ≤ 1048576
  rotate_left
  · go_enter Try.func8, Try.ntmps8
    go_wp2
    go_ret
    exact ⟨rfl, Below.refl _ _⟩
  by_cases hm : m ≤ 1048576
  rotate_left
  · go_enter Try.func8, Try.ntmps8
    go_wp2
    go_ret
    exact ⟨rfl, Below.refl _ _⟩
  go_enter Try.func8, Try.ntmps8
  go_wp2_with fail
  refine (specDrawFamEnt_any _ n _ h).mono ?_
  rintro e w1 ⟨u1, u2, A, B, rfl, hAB, r1, r2, hb⟩
  have hW := hb
  clear hb
  have r_A := r1
  obtain ⟨Aa, Ac, rfl⟩ := r_A.form
  have r_B := r2
  obtain ⟨Ba, Bc, rfl⟩ := r_B.form
  clear r1 r2 hAB h
  go_wp2_with fail
  refine (specDrawFamEnt_any _ m _ (h'.keep hW)).mono ?_
  rintro e w2 ⟨u1, u2, C, D, rfl, hCD, r1, r2, hb⟩
  replace r_A := r_A.keep hb
  replace r_B := r_B.keep hb
  replace hW := bt hW hb
  clear hb
  have r_C := r1
  obtain ⟨Ca, Cc, rfl⟩ := r_C.form
  have r_D := r2
  obtain ⟨Da, Dc, rfl⟩ := r_D.form
  clear r1 r2 hCD h'
  obtain ⟨ok, hok⟩ : ∃ ok, ok = famEntB A B := ⟨_, rfl⟩
  have hbn : (ok != ok) = false := by cases ok <;> rfl
  have hbe : (ok == ok) = true := by cases ok <;> rfl
  have HX := Lib.hid hok
  clear hok
  go_wp2_with fail
  refine (cb (famEntI_any _ _ A B _ (r_A.keep Bl) (r_B.keep Bl)) HX.out.symm).mono ?_
  rintro e w3 ⟨rfl, hb⟩
  replace r_A := r_A.keep hb
  replace r_B := r_B.keep hb
  replace r_C := r_C.keep hb
  replace r_D := r_D.keep hb
  replace hW := bt hW hb
  clear hb
  go_wp2_with fail
  refine (cb (famEntS_any _ _ A B _ (r_A.keep Bl) (r_B.keep Bl)) HX.out.symm).mono ?_
  rintro e w4 ⟨rfl, hb⟩
  replace r_A := r_A.keep hb
  replace r_B := r_B.keep hb
  replace r_C := r_C.keep hb
  replace r_D := r_D.keep hb
  replace hW := bt hW hb
  clear hb
  cases ok with
  | false =>
    go_wp2_with fail
    refine (cb (famEntS_any _ _ A B _ (r_A.keep Bl) (r_B.keep Bl)) HX.out.symm).mono ?_
    rintro e w5 ⟨rfl, hb⟩
    replace r_A := r_A.keep hb
    replace r_B := r_B.keep hb
    replace r_C := r_C.keep hb
    replace r_D := r_D.keep hb
    replace hW := bt hW hb
    clear hb
    go_wp2
    go_ret
    exact ⟨rfl, hW⟩
  | true =>
    have hxy := famEnt_join (c := C) (d := D) HX.out.symm
    have hac := famEnt_trans (c := C) HX.out.symm
    obtain ⟨p, hp⟩ : ∃ x, x = joinOk A C := ⟨_, rfl⟩
    obtain ⟨X, hX⟩ : ∃ x, x = joinL A C := ⟨_, rfl⟩
    obtain ⟨q, hq⟩ : ∃ x, x = joinOk B D := ⟨_, rfl⟩
    obtain ⟨Y, hY⟩ : ∃ x, x = joinL B D := ⟨_, rfl⟩
    obtain ⟨t1, ht1⟩ : ∃ x, x = famEntB B C := ⟨_, rfl⟩
    obtain ⟨t2, ht2⟩ : ∃ x, x = famEntB C D := ⟨_, rfl⟩
    rw [← hp, ← hX, ← hq, ← hY, ← ht2] at hxy
    rw [← ht1] at hac
    have HJ := Lib.hid (And.intro (And.intro hp hX) (And.intro hq hY))
    have HT := Lib.hid (And.intro (And.intro ht1 ht2) (And.intro hac hxy))
    clear hp hX hq hY ht1 ht2 hac hxy
    go_wp2_with fail
    refine (familyJoinI_any _ _ A C _ (r_A.keep Bl) (r_C.keep Bl)).mono ?_
    rw [← HJ.out.1.1, ← HJ.out.1.2]
    rintro e w5 ⟨x, rfl, hx, hb⟩
    replace r_A := r_A.keep hb
    replace r_B := r_B.keep hb
    replace r_C := r_C.keep hb
    replace r_D := r_D.keep hb
    replace hW := bt hW hb
    clear hb
    have r_X := hx.read.any
    obtain ⟨Xa, Xc, rfl⟩ := r_X.form
    clear hx
    go_wp2_with fail
    refine (familyJoinI_any _ _ B D _ (r_B.keep Bl) (r_D.keep Bl)).mono ?_
    rw [← HJ.out.2.1, ← HJ.out.2.2]
    rintro e w6 ⟨x, rfl, hx, hb⟩
    replace r_A := r_A.keep hb
    replace r_B := r_B.keep hb
    replace r_C := r_C.keep hb
    replace r_D := r_D.keep hb
    replace r_X := r_X.keep hb
    replace hW := bt hW hb
    clear hb
    have r_Y := hx.read.any
    obtain ⟨Ya, Yc, rfl⟩ := r_Y.form
    clear hx
    cases p with
    | false =>
      cases q with
      | false =>
        cases t1 with
        | false =>
          go_wp2_with fail
          refine (cb (famEntI_any _ _ B C _ (r_B.keep Bl) (r_C.keep Bl)) HT.out.1.1.symm).mono ?_
          rintro e w7 ⟨rfl, hb⟩
          replace r_A := r_A.keep hb
          replace r_B := r_B.keep hb
          replace r_C := r_C.keep hb
          replace r_D := r_D.keep hb
          replace r_X := r_X.keep hb
          replace r_Y := r_Y.keep hb
          replace hW := bt hW hb
          clear hb
          go_wp2
          go_ret
          exact ⟨rfl, hW⟩

        | true =>
          go_wp2_with fail
          refine (cb (famEntI_any _ _ B C _ (r_B.keep Bl) (r_C.keep Bl)) HT.out.1.1.symm).mono ?_
          rintro e w7 ⟨rfl, hb⟩
          replace r_A := r_A.keep hb
          replace r_B := r_B.keep hb
          replace r_C := r_C.keep hb
          replace r_D := r_D.keep hb
          replace r_X := r_X.keep hb
          replace r_Y := r_Y.keep hb
          replace hW := bt hW hb
          clear hb
          go_wp2_with fail
          refine (cb (famEntI_any _ _ A C _ (r_A.keep Bl) (r_C.keep Bl)) (HT.out.2.1 (by trivial))).mono ?_
          rintro e w8 ⟨rfl, hb⟩
          replace r_A := r_A.keep hb
          replace r_B := r_B.keep hb
          replace r_C := r_C.keep hb
          replace r_D := r_D.keep hb
          replace r_X := r_X.keep hb
          replace r_Y := r_Y.keep hb
          replace hW := bt hW hb
          clear hb
          go_wp2
          go_ret
          exact ⟨rfl, hW⟩

      | true =>
        cases t1 with
        | false =>
          go_wp2_with fail
          refine (cb (famEntI_any _ _ B C _ (r_B.keep Bl) (r_C.keep Bl)) HT.out.1.1.symm).mono ?_
          rintro e w7 ⟨rfl, hb⟩
          replace r_A := r_A.keep hb
          replace r_B := r_B.keep hb
          replace r_C := r_C.keep hb
          replace r_D := r_D.keep hb
          replace r_X := r_X.keep hb
          replace r_Y := r_Y.keep hb
          replace hW := bt hW hb
          clear hb
          go_wp2
          go_ret
          exact ⟨rfl, hW⟩

        | true =>
          go_wp2_with fail
          refine (cb (famEntI_any _ _ B C _ (r_B.keep Bl) (r_C.keep Bl)) HT.out.1.1.symm).mono ?_
          rintro e w7 ⟨rfl, hb⟩
          replace r_A := r_A.keep hb
          replace r_B := r_B.keep hb
          replace r_C := r_C.keep hb
          replace r_D := r_D.keep hb
          replace r_X := r_X.keep hb
          replace r_Y := r_Y.keep hb
          replace hW := bt hW hb
          clear hb
          go_wp2_with fail
          refine (cb (famEntI_any _ _ A C _ (r_A.keep Bl) (r_C.keep Bl)) (HT.out.2.1 (by trivial))).mono ?_
          rintro e w8 ⟨rfl, hb⟩
          replace r_A := r_A.keep hb
          replace r_B := r_B.keep hb
          replace r_C := r_C.keep hb
          replace r_D := r_D.keep hb
          replace r_X := r_X.keep hb
          replace r_Y := r_Y.keep hb
          replace hW := bt hW hb
          clear hb
          go_wp2
          go_ret
          exact ⟨rfl, hW⟩

    | true =>
      cases q with
      | false =>
        cases t1 with
        | false =>
          go_wp2_with fail
          refine (cb (famEntI_any _ _ B C _ (r_B.keep Bl) (r_C.keep Bl)) HT.out.1.1.symm).mono ?_
          rintro e w7 ⟨rfl, hb⟩
          replace r_A := r_A.keep hb
          replace r_B := r_B.keep hb
          replace r_C := r_C.keep hb
          replace r_D := r_D.keep hb
          replace r_X := r_X.keep hb
          replace r_Y := r_Y.keep hb
          replace hW := bt hW hb
          clear hb
          go_wp2
          go_ret
          exact ⟨rfl, hW⟩

        | true =>
          go_wp2_with fail
          refine (cb (famEntI_any _ _ B C _ (r_B.keep Bl) (r_C.keep Bl)) HT.out.1.1.symm).mono ?_
          rintro e w7 ⟨rfl, hb⟩
          replace r_A := r_A.keep hb
          replace r_B := r_B.keep hb
          replace r_C := r_C.keep hb
          replace r_D := r_D.keep hb
          replace r_X := r_X.keep hb
          replace r_Y := r_Y.keep hb
          replace hW := bt hW hb
          clear hb
          go_wp2_with fail
          refine (cb (famEntI_any _ _ A C _ (r_A.keep Bl) (r_C.keep Bl)) (HT.out.2.1 (by trivial))).mono ?_
          rintro e w8 ⟨rfl, hb⟩
          replace r_A := r_A.keep hb
          replace r_B := r_B.keep hb
          replace r_C := r_C.keep hb
          replace r_D := r_D.keep hb
          replace r_X := r_X.keep hb
          replace r_Y := r_Y.keep hb
          replace hW := bt hW hb
          clear hb
          go_wp2
          go_ret
          exact ⟨rfl, hW⟩

      | true =>
        cases t1 with
        | false =>
          go_wp2_with fail
          refine (cb (famEntI_any _ _ B C _ (r_B.keep Bl) (r_C.keep Bl)) HT.out.1.1.symm).mono ?_
          rintro e w7 ⟨rfl, hb⟩
          replace r_A := r_A.keep hb
          replace r_B := r_B.keep hb
          replace r_C := r_C.keep hb
          replace r_D := r_D.keep hb
          replace r_X := r_X.keep hb
          replace r_Y := r_Y.keep hb
          replace hW := bt hW hb
          clear hb
          cases t2 with
          | false =>
            go_wp2_with fail
            refine (cb (famEntI_any _ _ C D _ (r_C.keep Bl) (r_D.keep Bl)) HT.out.1.2.symm).mono ?_
            rintro e w8 ⟨rfl, hb⟩
            replace r_A := r_A.keep hb
            replace r_B := r_B.keep hb
            replace r_C := r_C.keep hb
            replace r_D := r_D.keep hb
            replace r_X := r_X.keep hb
            replace r_Y := r_Y.keep hb
            replace hW := bt hW hb
            clear hb
            go_wp2
            go_ret
            exact ⟨rfl, hW⟩
          | true =>
            go_wp2_with fail
            refine (cb (famEntI_any _ _ C D _ (r_C.keep Bl) (r_D.keep Bl)) HT.out.1.2.symm).mono ?_
            rintro e w8 ⟨rfl, hb⟩
            replace r_A := r_A.keep hb
            replace r_B := r_B.keep hb
            replace r_C := r_C.keep hb
            replace r_D := r_D.keep hb
            replace r_X := r_X.keep hb
            replace r_Y := r_Y.keep hb
            replace hW := bt hW hb
            clear hb
            go_wp2_with fail
            refine (cb (famEntI_any _ _ X Y _ (r_X.keep Bl) (r_Y.keep Bl)) (HT.out.2.2 (by trivial) (by trivial) (by trivial))).mono ?_
            rintro e w9 ⟨rfl, hb⟩
            replace r_A := r_A.keep hb
            replace r_B := r_B.keep hb
            replace r_C := r_C.keep hb
            replace r_D := r_D.keep hb
            replace r_X := r_X.keep hb
            replace r_Y := r_Y.keep hb
            replace hW := bt hW hb
            clear hb
            go_wp2
            go_ret
            exact ⟨rfl, hW⟩

        | true =>
          go_wp2_with fail
          refine (cb (famEntI_any _ _ B C _ (r_B.keep Bl) (r_C.keep Bl)) HT.out.1.1.symm).mono ?_
          rintro e w7 ⟨rfl, hb⟩
          replace r_A := r_A.keep hb
          replace r_B := r_B.keep hb
          replace r_C := r_C.keep hb
          replace r_D := r_D.keep hb
          replace r_X := r_X.keep hb
          replace r_Y := r_Y.keep hb
          replace hW := bt hW hb
          clear hb
          go_wp2_with fail
          refine (cb (famEntI_any _ _ A C _ (r_A.keep Bl) (r_C.keep Bl)) (HT.out.2.1 (by trivial))).mono ?_
          rintro e w8 ⟨rfl, hb⟩
          replace r_A := r_A.keep hb
          replace r_B := r_B.keep hb
          replace r_C := r_C.keep hb
          replace r_D := r_D.keep hb
          replace r_X := r_X.keep hb
          replace r_Y := r_Y.keep hb
          replace hW := bt hW hb
          clear hb
          cases t2 with
          | false =>
            go_wp2_with fail
            refine (cb (famEntI_any _ _ C D _ (r_C.keep Bl) (r_D.keep Bl)) HT.out.1.2.symm).mono ?_
            rintro e w9 ⟨rfl, hb⟩
            replace r_A := r_A.keep hb
            replace r_B := r_B.keep hb
            replace r_C := r_C.keep hb
            replace r_D := r_D.keep hb
            replace r_X := r_X.keep hb
            replace r_Y := r_Y.keep hb
            replace hW := bt hW hb
            clear hb
            go_wp2
            go_ret
            exact ⟨rfl, hW⟩
          | true =>
            go_wp2_with fail
            refine (cb (famEntI_any _ _ C D _ (r_C.keep Bl) (r_D.keep Bl)) HT.out.1.2.symm).mono ?_
            rintro e w9 ⟨rfl, hb⟩
            replace r_A := r_A.keep hb
            replace r_B := r_B.keep hb
            replace r_C := r_C.keep hb
            replace r_D := r_D.keep hb
            replace r_X := r_X.keep hb
            replace r_Y := r_Y.keep hb
            replace hW := bt hW hb
            clear hb
            go_wp2_with fail
            refine (cb (famEntI_any _ _ X Y _ (r_X.keep Bl) (r_Y.keep Bl)) (HT.out.2.2 (by trivial) (by trivial) (by trivial))).mono ?_
            rintro e w10 ⟨rfl, hb⟩
            replace r_A := r_A.keep hb
            replace r_B := r_B.keep hb
            replace r_C := r_C.keep hb
            replace r_D := r_D.keep hb
            replace r_X := r_X.keep hb
            replace r_Y := r_Y.keep hb
            replace hW := bt hW hb
            clear hb
            go_wp2
            go_ret
            exact ⟨rfl, hW⟩
end Go.Proofs.Ytapoillhgimdiaa
