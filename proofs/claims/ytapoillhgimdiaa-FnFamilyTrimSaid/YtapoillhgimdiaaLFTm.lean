/- The walk of the law FnFamilyTrim. (Printed by a program over lawgen.py.) -/
import Derived.Test.YtapoillhgimdiaaDFam2
import Derived.Test.YtapoillhgimdiaaTrmW
import Derived.Test.YtapoillhgimdiaaEnt2
import Derived.Test.YtapoillhgimdiaaSam
import Derived.Deep.Cut
import Derived.Handy
namespace Go.Proofs.Ytapoillhgimdiaa
open Go.RowKit

theorem trim_law {a : List Asn} (h : famB a = true) : famB (trimR a) = true ∧ trimR (trimR a) = trimR a ∧ (famEntB (trimR a) a = true ∧ famEntB a (trimR a) = true) ∧ (trimR a).length ≤ a.length := by
  have e : trimR a = trimL a := by rw [trimR, if_pos h]
  have hf := trim_fam h
  rw [e]
  refine ⟨hf, ?_, trim_ent h, trimTo_len a a.length⟩
  rw [trimR, if_pos hf]
  exact trim_again h
set_option maxRecDepth 100000 in
set_option maxHeartbeats 12800000 in
theorem fnFamilyTrim_walk (v : Value) (n : Nat) (w : World) (h : RBytes w v n) :
    Calls Try.prog 10 #[v] w fun e w' => e = .returned (.bool true) ∧ Below w.heap.size w w' := by
  obtain ⟨a, cap, rfl⟩ := bytes_form h
  by_cases hn : n ≤ 1048576
  rotate_left
  · go_enter Try.func10, Try.ntmps10
    go_wp2
    go_ret
    exact ⟨rfl, Below.refl _ _⟩
  go_enter Try.func10, Try.ntmps10
  go_wp2_with fail
  refine (specDrawFamTrim_any _ n _ h).mono ?_
  rintro e w1 ⟨u1, A, rfl, hA, r1, hb⟩
  have hW := hb
  clear hb
  have r_A := r1
  obtain ⟨Aa, Ac, rfl⟩ := r_A.form
  clear r1 hA h
  obtain ⟨ok, hok⟩ : ∃ ok, ok = famB A := ⟨_, rfl⟩
  obtain ⟨X, hX⟩ : ∃ X, X = trimR A := ⟨_, rfl⟩
  have hbn : (ok != ok) = false := by cases ok <;> rfl
  have hbe : (ok == ok) = true := by cases ok <;> rfl
  have HX := Lib.hid (And.intro hok hX)
  clear hok hX
  go_wp2_with fail
  refine (familyTrimI_any _ A _ (r_A.keep Bl)).mono ?_
  rw [← HX.out.1, ← HX.out.2]
  rintro e w2 ⟨x, rfl, hx, hb⟩
  replace r_A := r_A.keep hb
  replace hW := bt hW hb
  clear hb
  have r_X := hx.read.any
  obtain ⟨Xa, Xc, rfl⟩ := r_X.form
  clear hx
  go_wp2_with fail
  refine (familyTrimS_any _ A _ (r_A.keep Bl)).mono ?_
  rw [← HX.out.1, ← HX.out.2]
  rintro e w3 ⟨y, rfl, hy, hb⟩
  replace r_A := r_A.keep hb
  replace r_X := r_X.keep hb
  replace hW := bt hW hb
  clear hb
  have r_W := hy
  obtain ⟨Wa, Wc, rfl⟩ := r_W.form
  clear hy
  go_wp2_with fail
  refine (slAsns_any _ _ X _ (r_X.keep Bl) (r_W.keep Bl)).mono ?_
  rintro e w4 ⟨rfl, hb⟩
  replace r_A := r_A.keep hb
  replace r_X := r_X.keep hb
  replace r_W := r_W.keep hb
  replace hW := bt hW hb
  clear hb
  cases ok with
  | false =>
    go_wp2_with fail
    refine (slAsns_any _ _ X _ (r_X.keep Bl) (r_W.keep Bl)).mono ?_
    rintro e w5 ⟨rfl, hb⟩
    replace r_A := r_A.keep hb
    replace r_X := r_X.keep hb
    replace r_W := r_W.keep hb
    replace hW := bt hW hb
    clear hb
    go_wp2
    go_ret
    exact ⟨rfl, hW⟩
  | true =>
    have hlw := trim_law HX.out.1.symm
    rw [← HX.out.2] at hlw
    have HE := Lib.hid hlw
    clear hlw
    go_wp2_with fail
    refine (familyTrimI_any _ X _ (r_X.keep Bl)).mono ?_
    rw [HE.out.1, HE.out.2.1]
    rintro e w5 ⟨x, rfl, hx, hb⟩
    replace r_A := r_A.keep hb
    replace r_X := r_X.keep hb
    replace r_W := r_W.keep hb
    replace hW := bt hW hb
    clear hb
    have r_Y := hx.read.any
    obtain ⟨Ya, Yc, rfl⟩ := r_Y.form
    clear hx
    go_wp2_with fail
    refine (cb (famEntI_any _ _ X A _ (r_X.keep Bl) (r_A.keep Bl)) HE.out.2.2.1.1).mono ?_
    rintro e w6 ⟨rfl, hb⟩
    replace r_A := r_A.keep hb
    replace r_X := r_X.keep hb
    replace r_W := r_W.keep hb
    replace r_Y := r_Y.keep hb
    replace hW := bt hW hb
    clear hb
    go_wp2_with fail
    refine (cb (famEntI_any _ _ A X _ (r_A.keep Bl) (r_X.keep Bl)) HE.out.2.2.1.2).mono ?_
    rintro e w7 ⟨rfl, hb⟩
    replace r_A := r_A.keep hb
    replace r_X := r_X.keep hb
    replace r_W := r_W.keep hb
    replace r_Y := r_Y.keep hb
    replace hW := bt hW hb
    clear hb
    go_wp2_with fail
    refine (slAsns_any _ _ X _ (r_Y.keep Bl) (r_X.keep Bl)).mono ?_
    rintro e w8 ⟨rfl, hb⟩
    replace r_A := r_A.keep hb
    replace r_X := r_X.keep hb
    replace r_W := r_W.keep hb
    replace r_Y := r_Y.keep hb
    replace hW := bt hW hb
    clear hb
    have hle : (X.length : Int) ≤ (A.length : Int) := by have := HE.out.2.2.2; omega
    go_wp2
    go_ret
    exact ⟨rfl, hW⟩
end Go.Proofs.Ytapoillhgimdiaa
