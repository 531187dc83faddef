/- The walk of the law FnProveCase. (Printed by a program over lawgen.py.) -/
import Derived.Test.YtapoillhgimdiaaQDEntC
import Derived.Test.YtapoillhgimdiaaQEntCI
import Derived.Test.YtapoillhgimdiaaQPln1
import Derived.Test.YtapoillhgimdiaaQCase14
import Derived.Test.YtapoillhgimdiaaQSlp
import Derived.Deep.Cut
import Derived.Handy
namespace Go.Proofs.Ytapoillhgimdiaa
open Go.RowKit

theorem three_flat {w w' : World} {e : Ending} (h : ∃ (u1 u2 t1 t2 cv : Value) (A B : Asn) (C : List Int), e = .returned (.tuple #[.agg #[u1, u2], .agg #[t1, t2], cv]) ∧ Three w w' u1 u2 t1 t2 cv A B C) :
    ∃ (u1 u2 t1 t2 cv : Value) (A B : Asn) (C : List Int), e = .returned (.tuple #[.agg #[u1, u2], .agg #[t1, t2], cv]) ∧ (RL w' (fun k => w.heap.size + 2 ≤ k) u1 A.1 ∧ RL w' (fun k => w.heap.size + 2 ≤ k) u2 A.2) ∧ (RL w' (fun k => w.heap.size + 2 ≤ k) t1 B.1 ∧ RL w' (fun k => w.heap.size + 2 ≤ k) t2 B.2) ∧ RL w' (fun k => w.heap.size + 2 ≤ k) cv C ∧ Below w.heap.size w w' := by
  obtain ⟨u1, u2, t1, t2, cv, A, B, C, h0, ⟨_, h1, h2, hb⟩, hc, _⟩ := h
  exact ⟨u1, u2, t1, t2, cv, A, B, C, h0, h1, h2, hc, hb⟩
set_option maxRecDepth 100000 in
set_option maxHeartbeats 12800000 in
theorem fnProveCase_walk (v : Value) (n : Nat) (w : World) (h : RBytes w v n) :
    Calls Try.prog 4 #[v] w fun e w' => e = .returned (.bool true) ∧ Below w.heap.size w w' := by
  obtain ⟨a, cap, rfl⟩ := bytes_form h
  by_cases hn : n ≤ 1048576
  rotate_left
  · go_enter Try.func4, Try.ntmps4
    go_wp2
    go_ret
    exact ⟨rfl, Below.refl _ _⟩
  go_enter Try.func4, Try.ntmps4
  go_wp2_with fail
  refine ((specDrawProveCase_any _ n _ h).mono fun _ _ h => three_flat h).mono ?_
  rintro e w1 ⟨u1, u2, t1, t2, cv, A, B, C, rfl, ⟨r1, r2⟩, ⟨s1, s2⟩, hc, hb⟩
  have hW := hb
  clear hb
  have r_A1 := r1.any
  have r_A2 := r2.any
  obtain ⟨Aa1, Ac1, rfl⟩ := r_A1.form
  obtain ⟨Aa2, Ac2, rfl⟩ := r_A2.form
  have r_B1 := s1.any
  have r_B2 := s2.any
  obtain ⟨Ba1, Bc1, rfl⟩ := r_B1.form
  obtain ⟨Ba2, Bc2, rfl⟩ := r_B2.form
  have r_C := hc.any
  obtain ⟨Ca, Cc, rfl⟩ := r_C.form
  clear r1 r2 s1 s2 hc h
  obtain ⟨ok, hok⟩ : ∃ ok, ok = provB A B C := ⟨_, rfl⟩
  obtain ⟨D, hD⟩ : ∃ D, D = proveR A B C := ⟨_, rfl⟩
  have hbn : (ok != ok) = false := by cases ok <;> rfl
  have hbe : (ok == ok) = true := by cases ok <;> rfl
  have HX := Lib.hid (And.intro hok hD)
  clear hok hD
  go_wp2_with fail
  refine (proveI_any _ _ _ _ _ A B C _ (r_A1.keep Bl) (r_A2.keep Bl) (r_B1.keep Bl) (r_B2.keep Bl) (r_C.keep Bl)).mono ?_
  rw [← HX.out.1, ← HX.out.2]
  rintro e w2 ⟨x1, x2, rfl, hx, hb⟩
  have c_A1 := cell_keep hb (p := ⟨w1.heap.size, 0, none⟩) (v := .slice Aa1 A.1.length Ac1) (by simp)
  have c_A2 := cell_keep hb (p := ⟨w1.heap.size, 1, none⟩) (v := .slice Aa2 A.2.length Ac2) (by simp)
  have c_B1 := cell_keep hb (p := ⟨w1.heap.size + 1, 0, none⟩) (v := .slice Ba1 B.1.length Bc1) (by simp)
  have c_B2 := cell_keep hb (p := ⟨w1.heap.size + 1, 1, none⟩) (v := .slice Ba2 B.2.length Bc2) (by simp)
  replace hb : Below w1.heap.size w1 w2 := bt Bl hb
  replace r_A1 := r_A1.keep hb
  replace r_A2 := r_A2.keep hb
  replace r_B1 := r_B1.keep hb
  replace r_B2 := r_B2.keep hb
  replace r_C := r_C.keep hb
  replace hW := bt hW hb
  clear hb
  have z_A : w1.heap.size < w2.heap.size := World.block_lt_of_cell? w2 _ c_A1
  have z_B : w1.heap.size + 1 < w2.heap.size := World.block_lt_of_cell? w2 _ c_B1
  have r_P1 := hx.one.any
  have r_P2 := hx.two.any
  obtain ⟨Pa1, Pc1, rfl⟩ := r_P1.form
  obtain ⟨Pa2, Pc2, rfl⟩ := r_P2.form
  clear hx
  go_wp2_with fail
  refine (proveS_any _ _ _ _ _ A B C _ (r_A1.keep Bl) (r_A2.keep Bl) (r_B1.keep Bl) (r_B2.keep Bl) (r_C.keep Bl)).mono ?_
  rw [← HX.out.1, ← HX.out.2]
  rintro e w3 ⟨y1, y2, rfl, ⟨p1, p2⟩, hb⟩
  have c_P1 := cell_keep hb (p := ⟨w2.heap.size, 0, none⟩) (v := .slice Pa1 D.1.length Pc1) (by simp)
  have c_P2 := cell_keep hb (p := ⟨w2.heap.size, 1, none⟩) (v := .slice Pa2 D.2.length Pc2) (by simp)
  replace hb : Below w2.heap.size w2 w3 := bt Bl hb
  replace c_A1 := cell_keep hb c_A1
  replace c_A2 := cell_keep hb c_A2
  replace c_B1 := cell_keep hb c_B1
  replace c_B2 := cell_keep hb c_B2
  replace r_A1 := r_A1.keep hb
  replace r_A2 := r_A2.keep hb
  replace r_B1 := r_B1.keep hb
  replace r_B2 := r_B2.keep hb
  replace r_C := r_C.keep hb
  replace r_P1 := r_P1.keep hb
  replace r_P2 := r_P2.keep hb
  replace hW := bt hW hb
  clear hb
  clear z_A
  have z_A : w1.heap.size < w3.heap.size := World.block_lt_of_cell? w3 _ c_A1
  clear z_B
  have z_B : w1.heap.size + 1 < w3.heap.size := World.block_lt_of_cell? w3 _ c_B1
  have z_P : w2.heap.size < w3.heap.size := World.block_lt_of_cell? w3 _ c_P1
  have r_W1 := p1.any
  have r_W2 := p2.any
  obtain ⟨Wa1, Wc1, rfl⟩ := r_W1.form
  obtain ⟨Wa2, Wc2, rfl⟩ := r_W2.form
  clear p1 p2
  go_wp2_with fail
  refine (slProof_any _ _ _ _ D _ (r_P1.keep Bl) (r_P2.keep Bl) (r_W1.keep Bl) (r_W2.keep Bl)).mono ?_
  rintro e w4 ⟨rfl, hb⟩
  have c_W1 := cell_keep hb (p := ⟨w3.heap.size, 0, none⟩) (v := .slice Wa1 D.1.length Wc1) (by simp)
  have c_W2 := cell_keep hb (p := ⟨w3.heap.size, 1, none⟩) (v := .slice Wa2 D.2.length Wc2) (by simp)
  replace hb : Below w3.heap.size w3 w4 := bt Bl hb
  replace c_A1 := cell_keep hb c_A1
  replace c_A2 := cell_keep hb c_A2
  replace c_B1 := cell_keep hb c_B1
  replace c_B2 := cell_keep hb c_B2
  replace c_P1 := cell_keep hb c_P1
  replace c_P2 := cell_keep hb c_P2
  replace r_A1 := r_A1.keep hb
  replace r_A2 := r_A2.keep hb
  replace r_B1 := r_B1.keep hb
  replace r_B2 := r_B2.keep hb
  replace r_C := r_C.keep hb
  replace r_P1 := r_P1.keep hb
  replace r_P2 := r_P2.keep hb
  replace r_W1 := r_W1.keep hb
  replace r_W2 := r_W2.keep hb
  replace hW := bt hW hb
  clear hb
  clear z_A
  have z_A : w1.heap.size < w4.heap.size := World.block_lt_of_cell? w4 _ c_A1
  clear z_B
  have z_B : w1.heap.size + 1 < w4.heap.size := World.block_lt_of_cell? w4 _ c_B1
  clear z_P
  have z_P : w2.heap.size < w4.heap.size := World.block_lt_of_cell? w4 _ c_P1
  have z_W : w3.heap.size < w4.heap.size := World.block_lt_of_cell? w4 _ c_W1
  go_wp2_with fail
  refine (cb (entCaseI_any _ _ _ _ _ A B C _ (r_A1.keep Bl) (r_A2.keep Bl) (r_B1.keep Bl) (r_B2.keep Bl) (r_C.keep Bl)) HX.out.1.symm).mono ?_
  rintro e w5 ⟨rfl, hb⟩
  replace c_A1 := cell_keep hb c_A1
  replace c_A2 := cell_keep hb c_A2
  replace c_B1 := cell_keep hb c_B1
  replace c_B2 := cell_keep hb c_B2
  replace c_P1 := cell_keep hb c_P1
  replace c_P2 := cell_keep hb c_P2
  replace c_W1 := cell_keep hb c_W1
  replace c_W2 := cell_keep hb c_W2
  replace r_A1 := r_A1.keep hb
  replace r_A2 := r_A2.keep hb
  replace r_B1 := r_B1.keep hb
  replace r_B2 := r_B2.keep hb
  replace r_C := r_C.keep hb
  replace r_P1 := r_P1.keep hb
  replace r_P2 := r_P2.keep hb
  replace r_W1 := r_W1.keep hb
  replace r_W2 := r_W2.keep hb
  replace hW := bt hW hb
  clear hb
  clear z_A
  have z_A : w1.heap.size < w5.heap.size := World.block_lt_of_cell? w5 _ c_A1
  clear z_B
  have z_B : w1.heap.size + 1 < w5.heap.size := World.block_lt_of_cell? w5 _ c_B1
  clear z_P
  have z_P : w2.heap.size < w5.heap.size := World.block_lt_of_cell? w5 _ c_P1
  clear z_W
  have z_W : w3.heap.size < w5.heap.size := World.block_lt_of_cell? w5 _ c_W1
  cases ok with
  | false =>
    go_wp2_with fail
    refine (slProof_any _ _ _ _ D _ (r_P1.keep Bl) (r_P2.keep Bl) (r_W1.keep Bl) (r_W2.keep Bl)).mono ?_
    rintro e w6 ⟨rfl, hb⟩
    replace c_A1 := cell_keep hb c_A1
    replace c_A2 := cell_keep hb c_A2
    replace c_B1 := cell_keep hb c_B1
    replace c_B2 := cell_keep hb c_B2
    replace c_P1 := cell_keep hb c_P1
    replace c_P2 := cell_keep hb c_P2
    replace c_W1 := cell_keep hb c_W1
    replace c_W2 := cell_keep hb c_W2
    replace r_A1 := r_A1.keep hb
    replace r_A2 := r_A2.keep hb
    replace r_B1 := r_B1.keep hb
    replace r_B2 := r_B2.keep hb
    replace r_C := r_C.keep hb
    replace r_P1 := r_P1.keep hb
    replace r_P2 := r_P2.keep hb
    replace r_W1 := r_W1.keep hb
    replace r_W2 := r_W2.keep hb
    replace hW := bt hW hb
    clear hb
    clear z_A
    have z_A : w1.heap.size < w6.heap.size := World.block_lt_of_cell? w6 _ c_A1
    clear z_B
    have z_B : w1.heap.size + 1 < w6.heap.size := World.block_lt_of_cell? w6 _ c_B1
    clear z_P
    have z_P : w2.heap.size < w6.heap.size := World.block_lt_of_cell? w6 _ c_P1
    clear z_W
    have z_W : w3.heap.size < w6.heap.size := World.block_lt_of_cell? w6 _ c_W1
    go_wp2_with fail
    refine (cb (entCaseI_any _ _ _ _ _ A B C _ (r_A1.keep Bl) (r_A2.keep Bl) (r_B1.keep Bl) (r_B2.keep Bl) (r_C.keep Bl)) HX.out.1.symm).mono ?_
    rintro e w7 ⟨rfl, hb⟩
    replace c_A1 := cell_keep hb c_A1
    replace c_A2 := cell_keep hb c_A2
    replace c_B1 := cell_keep hb c_B1
    replace c_B2 := cell_keep hb c_B2
    replace c_P1 := cell_keep hb c_P1
    replace c_P2 := cell_keep hb c_P2
    replace c_W1 := cell_keep hb c_W1
    replace c_W2 := cell_keep hb c_W2
    replace r_A1 := r_A1.keep hb
    replace r_A2 := r_A2.keep hb
    replace r_B1 := r_B1.keep hb
    replace r_B2 := r_B2.keep hb
    replace r_C := r_C.keep hb
    replace r_P1 := r_P1.keep hb
    replace r_P2 := r_P2.keep hb
    replace r_W1 := r_W1.keep hb
    replace r_W2 := r_W2.keep hb
    replace hW := bt hW hb
    clear hb
    clear z_A
    have z_A : w1.heap.size < w7.heap.size := World.block_lt_of_cell? w7 _ c_A1
    clear z_B
    have z_B : w1.heap.size + 1 < w7.heap.size := World.block_lt_of_cell? w7 _ c_B1
    clear z_P
    have z_P : w2.heap.size < w7.heap.size := World.block_lt_of_cell? w7 _ c_P1
    clear z_W
    have z_W : w3.heap.size < w7.heap.size := World.block_lt_of_cell? w7 _ c_W1
    go_wp2
    go_ret
    exact ⟨rfl, hW⟩
  | true =>
    have hpc := prove_checks HX.out.1.symm
    rw [← HX.out.2] at hpc
    have HE := Lib.hid hpc
    clear hpc
    go_wp2_with fail
    refine (cb (checkCaseI_any _ _ _ _ _ _ A B D _ (r_A1.keep Bl) (r_A2.keep Bl) (r_B1.keep Bl) (r_B2.keep Bl) (r_P1.keep Bl) (r_P2.keep Bl)) HE.out.1).mono ?_
    rintro e w6 ⟨rfl, hb⟩
    replace c_A1 := cell_keep hb c_A1
    replace c_A2 := cell_keep hb c_A2
    replace c_B1 := cell_keep hb c_B1
    replace c_B2 := cell_keep hb c_B2
    replace c_P1 := cell_keep hb c_P1
    replace c_P2 := cell_keep hb c_P2
    replace c_W1 := cell_keep hb c_W1
    replace c_W2 := cell_keep hb c_W2
    replace r_A1 := r_A1.keep hb
    replace r_A2 := r_A2.keep hb
    replace r_B1 := r_B1.keep hb
    replace r_B2 := r_B2.keep hb
    replace r_C := r_C.keep hb
    replace r_P1 := r_P1.keep hb
    replace r_P2 := r_P2.keep hb
    replace r_W1 := r_W1.keep hb
    replace r_W2 := r_W2.keep hb
    replace hW := bt hW hb
    clear hb
    clear z_A
    have z_A : w1.heap.size < w6.heap.size := World.block_lt_of_cell? w6 _ c_A1
    clear z_B
    have z_B : w1.heap.size + 1 < w6.heap.size := World.block_lt_of_cell? w6 _ c_B1
    clear z_P
    have z_P : w2.heap.size < w6.heap.size := World.block_lt_of_cell? w6 _ c_P1
    clear z_W
    have z_W : w3.heap.size < w6.heap.size := World.block_lt_of_cell? w6 _ c_W1
    go_wp2_with fail
    refine (cb (slInts_any _ _ D.1 C _ (r_P1.keep Bl).ints (r_C.keep Bl).ints) (decide_eq_true HE.out.2)).mono ?_
    rintro e w7 ⟨rfl, hb⟩
    replace c_A1 := cell_keep hb c_A1
    replace c_A2 := cell_keep hb c_A2
    replace c_B1 := cell_keep hb c_B1
    replace c_B2 := cell_keep hb c_B2
    replace c_P1 := cell_keep hb c_P1
    replace c_P2 := cell_keep hb c_P2
    replace c_W1 := cell_keep hb c_W1
    replace c_W2 := cell_keep hb c_W2
    replace r_A1 := r_A1.keep hb
    replace r_A2 := r_A2.keep hb
    replace r_B1 := r_B1.keep hb
    replace r_B2 := r_B2.keep hb
    replace r_C := r_C.keep hb
    replace r_P1 := r_P1.keep hb
    replace r_P2 := r_P2.keep hb
    replace r_W1 := r_W1.keep hb
    replace r_W2 := r_W2.keep hb
    replace hW := bt hW hb
    clear hb
    clear z_A
    have z_A : w1.heap.size < w7.heap.size := World.block_lt_of_cell? w7 _ c_A1
    clear z_B
    have z_B : w1.heap.size + 1 < w7.heap.size := World.block_lt_of_cell? w7 _ c_B1
    clear z_P
    have z_P : w2.heap.size < w7.heap.size := World.block_lt_of_cell? w7 _ c_P1
    clear z_W
    have z_W : w3.heap.size < w7.heap.size := World.block_lt_of_cell? w7 _ c_W1
    go_wp2
    go_ret
    exact ⟨rfl, hW⟩
end Go.Proofs.Ytapoillhgimdiaa
