/- The walk of the law FnFamilyHolds. (Printed by a program over lawgen.py.) -/
import Derived.Test.YtapoillhgimdiaaPDFam3
import Derived.Test.YtapoillhgimdiaaPHold8
import Derived.Test.YtapoillhgimdiaaPCs6
import Derived.Test.YtapoillhgimdiaaPFam3
import Derived.Deep.Cut
import Derived.Handy
namespace Go.Proofs.Ytapoillhgimdiaa
open Go.RowKit

theorem join_fam2 {a b : List Asn} (h : joinOk a b = true) : joinL a b = a ++ b ∧ (famB a = true ∧ famB b = true) ∧ famB (a ++ b) = true := by
  refine ⟨by rw [joinL, if_pos h], ?_⟩
  simp only [joinOk, famB, Bool.and_eq_true, decide_eq_true_eq, List.length_append, List.all_append] at h ⊢
  exact ⟨⟨h.1, h.2.1⟩, by omega, h.1.2, h.2.1.2⟩
theorem fam_holds {vl hs : List Int} {l : List Asn} (hf : famB l = true) : famHoldsB vl hs l = l.any (holdsB vl hs) := by
  rw [famHoldsB, hf, Bool.true_and]
  cases h : l.any (holdsB vl hs) with
  | false => rw [Bool.and_false]
  | true =>
    obtain ⟨a, ha, hh⟩ := List.any_eq_true.1 h
    rw [(holds_iff.1 hh).1]; rfl
theorem any_more {f : Asn → Bool} {l : List Asn} {k : Nat} (h : k < l.length) : (l.take (k + 1)).any f = ((l.take k).any f || f (gd l k)) := by
  rw [take_gd h, List.any_append]; simp
set_option maxRecDepth 100000 in
set_option maxHeartbeats 12800000 in
theorem fnFamilyHolds_walk (v u : Value) (n m : Nat) (w : World) (h : RBytes w v n) (h' : RBytes w u m) :
    Calls Try.prog 11 #[v, u] w fun e w' => e = .returned (.bool true) ∧ Below w.heap.size w w' := by
  obtain ⟨a, cap, rfl⟩ := bytes_form h
  obtain ⟨a', cap', rfl⟩ := bytes_form h'
  by_cases hn : n ≤ 1048576
  rotate_left
  · go_enter Try.func11, Try.ntmps11
    go_wp2
    go_ret
    exact ⟨rfl, Below.refl _ _⟩
  by_cases hm : m ≤ 1048576
  rotate_left
  · go_enter Try.func11, Try.ntmps11
    go_wp2
    go_ret
    exact ⟨rfl, Below.refl _ _⟩
  go_enter Try.func11, Try.ntmps11
  go_wp2_with fail
  refine (specDrawFamHolds_any _ n _ h).mono ?_
  rintro e w1 ⟨u1, u2, x, m1, m2, A, rfl, hm1, hA, ⟨i1, i2⟩, r1, hb⟩
  have hW := hb
  clear hb
  have r_S1 := i1
  have r_S2 := i2
  obtain ⟨Sa1, Sc1, rfl⟩ := r_S1.form
  obtain ⟨Sa2, Sc2, rfl⟩ := r_S2.form
  have r_A := r1
  obtain ⟨Aa, Ac, rfl⟩ := r_A.form
  have hAl : (A.length : Int) ≤ 1013 := by have := hA.1; omega
  clear i1 i2 r1 hA hm1 h
  go_wp2_with fail
  refine (specDrawFamJoin_any _ m _ ((h'.keep hW).keep Bl)).mono ?_
  rintro e w2 ⟨u1, u2, C, B, rfl, hCB, r1, r2, hb⟩
  have c_S1 := cell_keep hb (p := ⟨w1.heap.size, 0, none⟩) (v := .slice Sa1 m1.length Sc1) (by simp)
  have c_S2 := cell_keep hb (p := ⟨w1.heap.size, 1, none⟩) (v := .slice Sa2 m2.length Sc2) (by simp)
  replace hb : Below w1.heap.size w1 w2 := bt Bl hb
  replace r_S1 := r_S1.keep hb
  replace r_S2 := r_S2.keep hb
  replace r_A := r_A.keep hb
  replace hW := bt hW hb
  clear hb
  have z_S : w1.heap.size < w2.heap.size := World.block_lt_of_cell? w2 _ c_S1
  have r_C := r1
  obtain ⟨Ca, Cc, rfl⟩ := r_C.form
  have r_B := r2
  obtain ⟨Ba, Bc, rfl⟩ := r_B.form
  clear r1 r2 hCB h'
  clear r_C
  obtain ⟨ok, hok⟩ : ∃ x, x = famHoldsB m1 m2 A := ⟨_, rfl⟩
  obtain ⟨p, hp⟩ : ∃ x, x = joinOk A B := ⟨_, rfl⟩
  obtain ⟨X, hX⟩ : ∃ x, x = joinL A B := ⟨_, rfl⟩
  obtain ⟨t, ht⟩ : ∃ x, x = famHoldsB m1 m2 B := ⟨_, rfl⟩
  have hbn : (ok != ok) = false := by cases ok <;> rfl
  have hbe : (ok == ok) = true := by cases ok <;> rfl
  have hbt : (t == t) = true := by cases t <;> rfl
  have HX := Lib.hid (And.intro (And.intro hok hp) (And.intro hX ht))
  clear hok hp hX ht
  go_wp2_with fail
  refine (cb (famHoldsI_any _ _ _ m1 m2 A _ (r_S1.keep Bl).ints (r_S2.keep Bl).ints (r_A.keep Bl)) HX.out.1.1.symm).mono ?_
  rintro e w3 ⟨rfl, hb⟩
  replace c_S1 := cell_keep hb c_S1
  replace c_S2 := cell_keep hb c_S2
  replace r_S1 := r_S1.keep hb
  replace r_S2 := r_S2.keep hb
  replace r_A := r_A.keep hb
  replace r_B := r_B.keep hb
  replace hW := bt hW hb
  clear hb
  clear z_S
  have z_S : w1.heap.size < w3.heap.size := World.block_lt_of_cell? w3 _ c_S1
  go_wp2_with fail
  refine (familyJoinI_any _ _ A B _ (r_A.keep Bl) (r_B.keep Bl)).mono ?_
  rw [← HX.out.1.2, ← HX.out.2.1]
  rintro e w4 ⟨x, rfl, hx, hb⟩
  replace c_S1 := cell_keep hb c_S1
  replace c_S2 := cell_keep hb c_S2
  replace r_S1 := r_S1.keep hb
  replace r_S2 := r_S2.keep hb
  replace r_A := r_A.keep hb
  replace r_B := r_B.keep hb
  replace hW := bt hW hb
  clear hb
  clear z_S
  have z_S : w1.heap.size < w4.heap.size := World.block_lt_of_cell? w4 _ c_S1
  have r_X := hx.read.any
  obtain ⟨Xa, Xc, rfl⟩ := r_X.form
  clear hx
  go_wp2_with fail
  refine (cb (famHoldsS_any _ _ _ m1 m2 A _ (r_S1.keep Bl).ints (r_S2.keep Bl).ints (r_A.keep Bl)) HX.out.1.1.symm).mono ?_
  rintro e w5 ⟨rfl, hb⟩
  replace c_S1 := cell_keep hb c_S1
  replace c_S2 := cell_keep hb c_S2
  replace r_S1 := r_S1.keep hb
  replace r_S2 := r_S2.keep hb
  replace r_A := r_A.keep hb
  replace r_B := r_B.keep hb
  replace r_X := r_X.keep hb
  replace hW := bt hW hb
  clear hb
  clear z_S
  have z_S : w1.heap.size < w5.heap.size := World.block_lt_of_cell? w5 _ c_S1
  cases p with
  | false =>
    go_wp2_with fail
    refine (cb (famHoldsS_any _ _ _ m1 m2 A _ (r_S1.keep Bl).ints (r_S2.keep Bl).ints (r_A.keep Bl)) HX.out.1.1.symm).mono ?_
    rintro e w6 ⟨rfl, hb⟩
    replace c_S1 := cell_keep hb c_S1
    replace c_S2 := cell_keep hb c_S2
    replace r_S1 := r_S1.keep hb
    replace r_S2 := r_S2.keep hb
    replace r_A := r_A.keep hb
    replace r_B := r_B.keep hb
    replace r_X := r_X.keep hb
    replace hW := bt hW hb
    clear hb
    clear z_S
    have z_S : w1.heap.size < w6.heap.size := World.block_lt_of_cell? w6 _ c_S1
    go_wp2
    go_ret
    exact ⟨rfl, hW⟩
  | true =>
    obtain ⟨eX, ⟨fA, fB⟩, fX⟩ := join_fam2 HX.out.1.2.symm
    have hs1 : A.any (holdsB m1 m2) = ok := (fam_holds fA).symm.trans HX.out.1.1.symm
    have hs2 : famHoldsB m1 m2 X = (ok || t) := by rw [HX.out.2.1, eX, fam_holds fX, List.any_append, hs1, HX.out.2.2, fam_holds fB]
    have HL := Lib.hid (And.intro hs1 hs2)
    clear hs1 hs2 eX fA fB fX
    go_wp2
    go_loopg [12, 13] A.length (fun q x i wr => ∃ (k : Nat) (b : Bool), k + q = A.length ∧ i = .int .i64 k ∧ x = .bool b ∧ b = (A.take k).any (holdsB m1 m2) ∧ Below w5.heap.size w5 wr)
    case atStart => exact ⟨0, false, by omega, rfl, rfl, by simp, Below.refl _ _⟩
    case round =>
      obtain ⟨k, b, hk, rfl, rfl, hbk, hb⟩ := hrel
      have HK := Lib.hid (And.intro (And.intro hk hbk) hb)
      clear hk hbk
      replace c_S1 := cell_keep hb c_S1
      replace c_S2 := cell_keep hb c_S2
      replace r_S1 := r_S1.keep hb
      replace r_S2 := r_S2.keep hb
      replace r_A := r_A.keep hb
      replace r_B := r_B.keep hb
      replace r_X := r_X.keep hb
      replace hW := bt hW hb
      clear hb
      clear z_S
      have z_S : w1.heap.size < wr.heap.size := World.block_lt_of_cell? wr _ c_S1
      by_cases hk8 : k < A.length
      · have hki : (k : Int) < (A.length : Int) := by omega
        obtain ⟨_, _, hre, _, _, hrf⟩ := r_A.asnAt
        simp only [Value.slice.injEq] at hre
        obtain ⟨rfl, _, rfl⟩ := hre
        obtain ⟨gb, ob, u1, u2, rfl, _, hzb, hp1, hp2, q1, q2⟩ := hrf k hk8
        obtain ⟨ua1, uc1, rfl⟩ := q1.form
        obtain ⟨ua2, uc2, rfl⟩ := q2.form
        clear hrf
        cases b with
        | true =>
          have HS := Lib.hid (show true = (A.take (k + 1)).any (holdsB m1 m2) by rw [any_more hk8, ← HK.out.1.2]; rfl)
          go_wp2
          refine wp_region_ext (by kernel_rfl) (by kernel_rfl) ?_
          repeat (go_big_quiet_step (fail))
          refine wpQuiet_nil ?_
          intro w9 hb9
          have HB9 := Lib.hid (bt HK.out.2 hb9)
          clear hb9
          go_wp2
          go_roundg (gk - 1)
          case rel => exact ⟨k + 1, true, by have := HK.out.1.1; omega, by go_num, rfl, HS.out, HB9.out⟩
          case measure => have := HK.out.1.1; omega
        | false =>
          obtain ⟨e1, he1⟩ : ∃ x, holdsB m1 m2 (gd A k) = x := ⟨_, rfl⟩
          have HS := Lib.hid (And.intro he1 (show e1 = (A.take (k + 1)).any (holdsB m1 m2) by rw [any_more hk8, ← HK.out.1.2, he1]; rfl))
          clear he1
          go_wp2
          refine wp_region_ext (by kernel_rfl) (by kernel_rfl) ?_
          repeat (go_big_quiet_step ((go_at_call 63; with_reducible exact ext_c (cb (holdsI_any _ _ _ _ m1 m2 (gd A k) _ (r_S1.ints.keep (ext_below _ _)) (r_S2.ints.keep (ext_below _ _)) (q1.keep (ext_below _ _)) (q2.keep (ext_below _ _))) HS.out.1))))
          refine wpQuiet_nil ?_
          intro w9 hb9
          have HB9 := Lib.hid (bt HK.out.2 hb9)
          clear hb9
          go_wp2
          go_roundg (gk - 1)
          case rel => exact ⟨k + 1, e1, by have := HK.out.1.1; omega, by go_num, rfl, HS.out.2, HB9.out⟩
          case measure => have := HK.out.1.1; omega
      · obtain rfl : k = A.length := by have := HK.out.1.1; omega
        have hbo : b = ok := by rw [HK.out.1.2, List.take_length]; exact HL.out.1
        subst hbo
        cases b with
        | false =>
          go_wp2_with fail
          refine (cb (famHoldsI_any _ _ _ m1 m2 X _ (r_S1.keep Bl).ints (r_S2.keep Bl).ints (r_X.keep Bl)) HL.out.2).mono ?_
          rintro e w6 ⟨rfl, hb⟩
          replace c_S1 := cell_keep hb c_S1
          replace c_S2 := cell_keep hb c_S2
          replace r_S1 := r_S1.keep hb
          replace r_S2 := r_S2.keep hb
          replace r_A := r_A.keep hb
          replace r_B := r_B.keep hb
          replace r_X := r_X.keep hb
          replace hW := bt hW hb
          clear hb
          clear z_S
          have z_S : w1.heap.size < w6.heap.size := World.block_lt_of_cell? w6 _ c_S1
          go_wp2_with fail
          refine (cb (famHoldsI_any _ _ _ m1 m2 B _ (r_S1.keep Bl).ints (r_S2.keep Bl).ints (r_B.keep Bl)) HX.out.2.2.symm).mono ?_
          rintro e w7 ⟨rfl, hb⟩
          replace c_S1 := cell_keep hb c_S1
          replace c_S2 := cell_keep hb c_S2
          replace r_S1 := r_S1.keep hb
          replace r_S2 := r_S2.keep hb
          replace r_A := r_A.keep hb
          replace r_B := r_B.keep hb
          replace r_X := r_X.keep hb
          replace hW := bt hW hb
          clear hb
          clear z_S
          have z_S : w1.heap.size < w7.heap.size := World.block_lt_of_cell? w7 _ c_S1
          go_wp2
          go_ret
          exact ⟨rfl, hW⟩
        | true =>
          go_wp2_with fail
          refine (cb (famHoldsI_any _ _ _ m1 m2 X _ (r_S1.keep Bl).ints (r_S2.keep Bl).ints (r_X.keep Bl)) HL.out.2).mono ?_
          rintro e w6 ⟨rfl, hb⟩
          replace c_S1 := cell_keep hb c_S1
          replace c_S2 := cell_keep hb c_S2
          replace r_S1 := r_S1.keep hb
          replace r_S2 := r_S2.keep hb
          replace r_A := r_A.keep hb
          replace r_B := r_B.keep hb
          replace r_X := r_X.keep hb
          replace hW := bt hW hb
          clear hb
          clear z_S
          have z_S : w1.heap.size < w6.heap.size := World.block_lt_of_cell? w6 _ c_S1
          go_wp2
          go_ret
          exact ⟨rfl, hW⟩
end Go.Proofs.Ytapoillhgimdiaa
