/- The walk of the law FnProveEntailment. (Printed by a program over lawgen.py.) -/
import Derived.Test.YtapoillhgimdiaaQDEntA
import Derived.Test.YtapoillhgimdiaaQPEA
import Derived.Test.YtapoillhgimdiaaQChk3
import Derived.Test.YtapoillhgimdiaaQSlp
import Derived.Deep.Cut
import Derived.Handy
namespace Go.Proofs.Ytapoillhgimdiaa
open Go.RowKit

set_option maxRecDepth 100000 in
set_option maxHeartbeats 12800000 in
theorem fnProveEntailment_walk (v : Value) (n : Nat) (w : World) (h : RBytes w v n) :
    Calls Try.prog 6 #[v] w fun e w' => e = .returned (.bool true) ∧ Below w.heap.size w w' := by
  obtain ⟨a, cap, rfl⟩ := bytes_form h
  by_cases hn : n ≤ 1048576
  rotate_left
  · go_enter Try.func6, Try.ntmps6
    go_wp2
    go_ret
    exact ⟨rfl, Below.refl _ _⟩
  go_enter Try.func6, Try.ntmps6
  go_wp2_with fail
  refine (specDrawProveEnt_any _ n _ h).mono ?_
  rintro e w1 ⟨u1, u2, t1, t2, A, B, rfl, hl, ⟨r1, r2⟩, ⟨s1, s2⟩, hb⟩
  have hW := hb
  clear hb
  have r_A1 := r1.any
  have r_A2 := r2.any
  obtain ⟨Aa1, Ac1, rfl⟩ := r_A1.form
  obtain ⟨Aa2, Ac2, rfl⟩ := r_A2.form
  have r_B1 := s1.any
  have r_B2 := s2.any
  obtain ⟨Ba1, Bc1, rfl⟩ := r_B1.form
  obtain ⟨Ba2, Bc2, rfl⟩ := r_B2.form
  clear r1 r2 s1 s2 hl h
  obtain ⟨ok, hok⟩ : ∃ ok, ok = entB A B := ⟨_, rfl⟩
  obtain ⟨D, hD⟩ : ∃ D, D = provE A B := ⟨_, rfl⟩
  have hbn : (ok != ok) = false := by cases ok <;> rfl
  have hbe : (ok == ok) = true := by cases ok <;> rfl
  have HX := Lib.hid (And.intro hok hD)
  clear hok hD
  go_wp2_with fail
  refine (proveEntI_any _ _ _ _ A B _ (r_A1.keep Bl) (r_A2.keep Bl) (r_B1.keep Bl) (r_B2.keep Bl)).mono ?_
  rw [← HX.out.1, ← HX.out.2]
  rintro e w2 ⟨x, rfl, hx, hb⟩
  have c_A1 := cell_keep hb (p := ⟨w1.heap.size, 0, none⟩) (v := .slice Aa1 A.1.length Ac1) (by simp)
  have c_A2 := cell_keep hb (p := ⟨w1.heap.size, 1, none⟩) (v := .slice Aa2 A.2.length Ac2) (by simp)
  have c_B1 := cell_keep hb (p := ⟨w1.heap.size + 1, 0, none⟩) (v := .slice Ba1 B.1.length Bc1) (by simp)
  have c_B2 := cell_keep hb (p := ⟨w1.heap.size + 1, 1, none⟩) (v := .slice Ba2 B.2.length Bc2) (by simp)
  replace hb : Below w1.heap.size w1 w2 := bt Bl hb
  replace r_A1 := r_A1.keep hb
  replace r_A2 := r_A2.keep hb
  replace r_B1 := r_B1.keep hb
  replace r_B2 := r_B2.keep hb
  replace hW := bt hW hb
  clear hb
  have z_A : w1.heap.size < w2.heap.size := World.block_lt_of_cell? w2 _ c_A1
  have z_B : w1.heap.size + 1 < w2.heap.size := World.block_lt_of_cell? w2 _ c_B1
  have r_P := hx.read.any
  obtain ⟨Pa, Pc, rfl⟩ := r_P.form
  clear hx
  go_wp2_with fail
  refine (proveEntS_any _ _ _ _ A B _ (r_A1.keep Bl) (r_A2.keep Bl) (r_B1.keep Bl) (r_B2.keep Bl)).mono ?_
  rw [← HX.out.1, ← HX.out.2]
  rintro e w3 ⟨y, rfl, hy, hb⟩
  replace c_A1 := cell_keep hb c_A1
  replace c_A2 := cell_keep hb c_A2
  replace c_B1 := cell_keep hb c_B1
  replace c_B2 := cell_keep hb c_B2
  replace r_A1 := r_A1.keep hb
  replace r_A2 := r_A2.keep hb
  replace r_B1 := r_B1.keep hb
  replace r_B2 := r_B2.keep hb
  replace r_P := r_P.keep hb
  replace hW := bt hW hb
  clear hb
  clear z_A
  have z_A : w1.heap.size < w3.heap.size := World.block_lt_of_cell? w3 _ c_A1
  clear z_B
  have z_B : w1.heap.size + 1 < w3.heap.size := World.block_lt_of_cell? w3 _ c_B1
  have r_W := hy.any
  obtain ⟨Wa, Wc, rfl⟩ := r_W.form
  clear hy
  go_wp2_with fail
  refine (slProofs_any _ _ D _ (r_P.keep Bl) (r_W.keep Bl)).mono ?_
  rintro e w4 ⟨rfl, hb⟩
  replace c_A1 := cell_keep hb c_A1
  replace c_A2 := cell_keep hb c_A2
  replace c_B1 := cell_keep hb c_B1
  replace c_B2 := cell_keep hb c_B2
  replace r_A1 := r_A1.keep hb
  replace r_A2 := r_A2.keep hb
  replace r_B1 := r_B1.keep hb
  replace r_B2 := r_B2.keep hb
  replace r_P := r_P.keep hb
  replace r_W := r_W.keep hb
  replace hW := bt hW hb
  clear hb
  clear z_A
  have z_A : w1.heap.size < w4.heap.size := World.block_lt_of_cell? w4 _ c_A1
  clear z_B
  have z_B : w1.heap.size + 1 < w4.heap.size := World.block_lt_of_cell? w4 _ c_B1
  go_wp2_with fail
  refine (cb (entailsI_any _ _ _ _ A B _ (r_A1.keep Bl) (r_A2.keep Bl) (r_B1.keep Bl) (r_B2.keep Bl)) HX.out.1.symm).mono ?_
  rintro e w5 ⟨rfl, hb⟩
  replace c_A1 := cell_keep hb c_A1
  replace c_A2 := cell_keep hb c_A2
  replace c_B1 := cell_keep hb c_B1
  replace c_B2 := cell_keep hb c_B2
  replace r_A1 := r_A1.keep hb
  replace r_A2 := r_A2.keep hb
  replace r_B1 := r_B1.keep hb
  replace r_B2 := r_B2.keep hb
  replace r_P := r_P.keep hb
  replace r_W := r_W.keep hb
  replace hW := bt hW hb
  clear hb
  clear z_A
  have z_A : w1.heap.size < w5.heap.size := World.block_lt_of_cell? w5 _ c_A1
  clear z_B
  have z_B : w1.heap.size + 1 < w5.heap.size := World.block_lt_of_cell? w5 _ c_B1
  cases ok with
  | false =>
    go_wp2_with fail
    refine (slProofs_any _ _ D _ (r_P.keep Bl) (r_W.keep Bl)).mono ?_
    rintro e w6 ⟨rfl, hb⟩
    replace c_A1 := cell_keep hb c_A1
    replace c_A2 := cell_keep hb c_A2
    replace c_B1 := cell_keep hb c_B1
    replace c_B2 := cell_keep hb c_B2
    replace r_A1 := r_A1.keep hb
    replace r_A2 := r_A2.keep hb
    replace r_B1 := r_B1.keep hb
    replace r_B2 := r_B2.keep hb
    replace r_P := r_P.keep hb
    replace r_W := r_W.keep hb
    replace hW := bt hW hb
    clear hb
    clear z_A
    have z_A : w1.heap.size < w6.heap.size := World.block_lt_of_cell? w6 _ c_A1
    clear z_B
    have z_B : w1.heap.size + 1 < w6.heap.size := World.block_lt_of_cell? w6 _ c_B1
    go_wp2_with fail
    refine (cb (entailsI_any _ _ _ _ A B _ (r_A1.keep Bl) (r_A2.keep Bl) (r_B1.keep Bl) (r_B2.keep Bl)) HX.out.1.symm).mono ?_
    rintro e w7 ⟨rfl, hb⟩
    replace c_A1 := cell_keep hb c_A1
    replace c_A2 := cell_keep hb c_A2
    replace c_B1 := cell_keep hb c_B1
    replace c_B2 := cell_keep hb c_B2
    replace r_A1 := r_A1.keep hb
    replace r_A2 := r_A2.keep hb
    replace r_B1 := r_B1.keep hb
    replace r_B2 := r_B2.keep hb
    replace r_P := r_P.keep hb
    replace r_W := r_W.keep hb
    replace hW := bt hW hb
    clear hb
    clear z_A
    have z_A : w1.heap.size < w7.heap.size := World.block_lt_of_cell? w7 _ c_A1
    clear z_B
    have z_B : w1.heap.size + 1 < w7.heap.size := World.block_lt_of_cell? w7 _ c_B1
    go_wp2
    go_ret
    exact ⟨rfl, hW⟩
  | true =>
    have hck := provE_chk HX.out.1.symm
    have hcn := provE_len HX.out.1.symm
    rw [← HX.out.2] at hck hcn
    obtain ⟨c, hc⟩ : ∃ c, consB A = c := ⟨_, rfl⟩
    rw [hc] at hcn
    have HE := Lib.hid (And.intro hck hc)
    clear hck hc
    have hce : (c == c) = true := by cases c <;> rfl
    go_wp2_with fail
    refine (cb (checkEntI_any _ _ _ _ _ A B D _ (r_A1.keep Bl) (r_A2.keep Bl) (r_B1.keep Bl) (r_B2.keep Bl) (r_P.keep Bl)) HE.out.1).mono ?_
    rintro e w6 ⟨rfl, hb⟩
    replace c_A1 := cell_keep hb c_A1
    replace c_A2 := cell_keep hb c_A2
    replace c_B1 := cell_keep hb c_B1
    replace c_B2 := cell_keep hb c_B2
    replace r_A1 := r_A1.keep hb
    replace r_A2 := r_A2.keep hb
    replace r_B1 := r_B1.keep hb
    replace r_B2 := r_B2.keep hb
    replace r_P := r_P.keep hb
    replace r_W := r_W.keep hb
    replace hW := bt hW hb
    clear hb
    clear z_A
    have z_A : w1.heap.size < w6.heap.size := World.block_lt_of_cell? w6 _ c_A1
    clear z_B
    have z_B : w1.heap.size + 1 < w6.heap.size := World.block_lt_of_cell? w6 _ c_B1
    go_wp2_with fail
    refine (cb (consistentI_any _ _ A _ (r_A1.keep Bl) (r_A2.keep Bl)) HE.out.2).mono ?_
    rintro e w7 ⟨rfl, hb⟩
    replace c_A1 := cell_keep hb c_A1
    replace c_A2 := cell_keep hb c_A2
    replace c_B1 := cell_keep hb c_B1
    replace c_B2 := cell_keep hb c_B2
    replace r_A1 := r_A1.keep hb
    replace r_A2 := r_A2.keep hb
    replace r_B1 := r_B1.keep hb
    replace r_B2 := r_B2.keep hb
    replace r_P := r_P.keep hb
    replace r_W := r_W.keep hb
    replace hW := bt hW hb
    clear hb
    clear z_A
    have z_A : w1.heap.size < w7.heap.size := World.block_lt_of_cell? w7 _ c_A1
    clear z_B
    have z_B : w1.heap.size + 1 < w7.heap.size := World.block_lt_of_cell? w7 _ c_B1
    go_wp2
    go_ret
    exact ⟨rfl, hW⟩
end Go.Proofs.Ytapoillhgimdiaa
