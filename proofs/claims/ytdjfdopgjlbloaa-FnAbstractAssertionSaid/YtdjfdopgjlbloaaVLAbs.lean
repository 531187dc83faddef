/- The walk of the law FnAbstractAssertion. (Printed by a program over lawgen.py.) -/
import Derived.Test.YtdjfdopgjlbloaaVDTidy
import Derived.Test.YtdjfdopgjlbloaaVAbsA
import Derived.Test.YtdjfdopgjlbloaaVItrB
import Derived.Test.YtdjfdopgjlbloaaVSam
import Derived.Deep.Cut
import Derived.Handy
namespace Go.Proofs.Ytdjfdopgjlbloaa
open Go.RowKit

theorem abs_fine {a : Asn} {l : List Int} (h : absOk a l = true) : entB a (absR a l) = true ∧ ((absR a l).2.length ≤ a.2.length ∧ asnB (absR a l) = true) := by
  have ha : asnB a = true := h
  have hl := absB_law (m := keepM l) ha
  rw [absR, if_pos ha]
  exact ⟨hl.1, hl.2, absB_valid ha⟩
set_option maxRecDepth 100000 in
set_option maxHeartbeats 12800000 in
theorem fnAbstractAssertion_walk (v : Value) (n : Nat) (w : World) (h : RBytes w v n) :
    Calls Try.prog 3 #[v] w fun e w' => e = .returned (.bool true) ∧ Below w.heap.size w w' := by
  obtain ⟨a, cap, rfl⟩ := bytes_form h
  by_cases hn : n ≤ 1048576
  rotate_left
  · go_enter Try.func3, Try.ntmps3
    go_wp2
    go_ret
    exact ⟨rfl, Below.refl _ _⟩
  go_enter Try.func3, Try.ntmps3
  go_wp2_with fail
  refine (specDrawAbs_any _ n _ h hn).mono ?_
  rintro e w1 ⟨u1, u2, kv, A, l, rfl, hl, ⟨r1, r2⟩, hk, hb⟩
  have hW := hb
  clear hb
  have r_A1 := r1.any
  have r_A2 := r2.any
  obtain ⟨Aa1, Ac1, rfl⟩ := r_A1.form
  obtain ⟨Aa2, Ac2, rfl⟩ := r_A2.form
  have r_K := hk.rl.any
  obtain ⟨Ka, Kc, rfl⟩ := r_K.form
  clear r1 r2 hk h
  have hA40 : (A.2.length : Int) ≤ 40 := by have := hl.1.2; omega
  clear hl
  obtain ⟨ok, hok⟩ : ∃ ok, ok = absOk A l := ⟨_, rfl⟩
  obtain ⟨C, hC⟩ : ∃ C, C = absR A l := ⟨_, rfl⟩
  have hbn : (ok != ok) = false := by cases ok <;> rfl
  have hbe : (ok == ok) = true := by cases ok <;> rfl
  have HX := Lib.hid (And.intro hok hC)
  clear hok hC
  go_wp2_with fail
  refine (abstractI_any _ _ _ A l _ (r_A1.keep Bl) (r_A2.keep Bl) (r_K.keep Bl)).mono ?_
  rw [← HX.out.1, ← HX.out.2]
  rintro e w2 ⟨x1, x2, rfl, hx, hb⟩
  have c_A1 := cell_keep hb (p := ⟨w1.heap.size, 0, none⟩) (v := .slice Aa1 A.1.length Ac1) (by simp)
  have c_A2 := cell_keep hb (p := ⟨w1.heap.size, 1, none⟩) (v := .slice Aa2 A.2.length Ac2) (by simp)
  replace hb : Below w1.heap.size w1 w2 := bt Bl hb
  replace r_A1 := r_A1.keep hb
  replace r_A2 := r_A2.keep hb
  replace r_K := r_K.keep hb
  replace hW := bt hW hb
  clear hb
  have z_A : w1.heap.size < w2.heap.size := World.block_lt_of_cell? w2 _ c_A1
  have r_C1 := hx.one.any
  have r_C2 := hx.two.any
  obtain ⟨Ca1, Cc1, rfl⟩ := r_C1.form
  obtain ⟨Ca2, Cc2, rfl⟩ := r_C2.form
  clear hx
  go_wp2_with fail
  refine (abstractS_any _ _ _ A l _ (r_A1.keep Bl) (r_A2.keep Bl) (r_K.keep Bl)).mono ?_
  rw [← HX.out.1, ← HX.out.2]
  rintro e w3 ⟨y1, y2, rfl, ⟨p1, p2⟩, hb⟩
  have c_C1 := cell_keep hb (p := ⟨w2.heap.size, 0, none⟩) (v := .slice Ca1 C.1.length Cc1) (by simp)
  have c_C2 := cell_keep hb (p := ⟨w2.heap.size, 1, none⟩) (v := .slice Ca2 C.2.length Cc2) (by simp)
  replace hb : Below w2.heap.size w2 w3 := bt Bl hb
  replace c_A1 := cell_keep hb c_A1
  replace c_A2 := cell_keep hb c_A2
  replace r_A1 := r_A1.keep hb
  replace r_A2 := r_A2.keep hb
  replace r_K := r_K.keep hb
  replace r_C1 := r_C1.keep hb
  replace r_C2 := r_C2.keep hb
  replace hW := bt hW hb
  clear hb
  clear z_A
  have z_A : w1.heap.size < w3.heap.size := World.block_lt_of_cell? w3 _ c_A1
  have z_C : w2.heap.size < w3.heap.size := World.block_lt_of_cell? w3 _ c_C1
  have r_W1 := p1.any
  have r_W2 := p2.any
  obtain ⟨Wa1, Wc1, rfl⟩ := r_W1.form
  obtain ⟨Wa2, Wc2, rfl⟩ := r_W2.form
  clear p1 p2
  go_wp2_with fail
  refine (asnSame_any _ _ _ _ C _ (r_C1.keep Bl) (r_C2.keep Bl) (r_W1.keep Bl) (r_W2.keep Bl)).mono ?_
  rintro e w4 ⟨rfl, hb⟩
  have c_W1 := cell_keep hb (p := ⟨w3.heap.size, 0, none⟩) (v := .slice Wa1 C.1.length Wc1) (by simp)
  have c_W2 := cell_keep hb (p := ⟨w3.heap.size, 1, none⟩) (v := .slice Wa2 C.2.length Wc2) (by simp)
  replace hb : Below w3.heap.size w3 w4 := bt Bl hb
  replace c_A1 := cell_keep hb c_A1
  replace c_A2 := cell_keep hb c_A2
  replace c_C1 := cell_keep hb c_C1
  replace c_C2 := cell_keep hb c_C2
  replace r_A1 := r_A1.keep hb
  replace r_A2 := r_A2.keep hb
  replace r_K := r_K.keep hb
  replace r_C1 := r_C1.keep hb
  replace r_C2 := r_C2.keep hb
  replace r_W1 := r_W1.keep hb
  replace r_W2 := r_W2.keep hb
  replace hW := bt hW hb
  clear hb
  clear z_A
  have z_A : w1.heap.size < w4.heap.size := World.block_lt_of_cell? w4 _ c_A1
  clear z_C
  have z_C : w2.heap.size < w4.heap.size := World.block_lt_of_cell? w4 _ c_C1
  have z_W : w3.heap.size < w4.heap.size := World.block_lt_of_cell? w4 _ c_W1
  cases ok with
  | false =>
    go_wp2_with fail
    refine (asnSame_any _ _ _ _ C _ (r_C1.keep Bl) (r_C2.keep Bl) (r_W1.keep Bl) (r_W2.keep Bl)).mono ?_
    rintro e w5 ⟨rfl, hb⟩
    replace c_A1 := cell_keep hb c_A1
    replace c_A2 := cell_keep hb c_A2
    replace c_C1 := cell_keep hb c_C1
    replace c_C2 := cell_keep hb c_C2
    replace c_W1 := cell_keep hb c_W1
    replace c_W2 := cell_keep hb c_W2
    replace r_A1 := r_A1.keep hb
    replace r_A2 := r_A2.keep hb
    replace r_K := r_K.keep hb
    replace r_C1 := r_C1.keep hb
    replace r_C2 := r_C2.keep hb
    replace r_W1 := r_W1.keep hb
    replace r_W2 := r_W2.keep hb
    replace hW := bt hW hb
    clear hb
    clear z_A
    have z_A : w1.heap.size < w5.heap.size := World.block_lt_of_cell? w5 _ c_A1
    clear z_C
    have z_C : w2.heap.size < w5.heap.size := World.block_lt_of_cell? w5 _ c_C1
    clear z_W
    have z_W : w3.heap.size < w5.heap.size := World.block_lt_of_cell? w5 _ c_W1
    go_wp2
    go_ret
    exact ⟨rfl, hW⟩
  | true =>
    have hcl := abs_fine HX.out.1.symm
    rw [← HX.out.2] at hcl
    have HE := Lib.hid hcl
    have hlen : (C.2.length : Int) ≤ (A.2.length : Int) := by have := hcl.2.1; omega
    have hlenb : decide (C.2.length ≤ A.2.length) = true := decide_eq_true hcl.2.1
    clear hcl
    go_wp2_with fail
    refine (cb (entailsI_any _ _ _ _ A C _ (r_A1.keep Bl) (r_A2.keep Bl) (r_C1.keep Bl) (r_C2.keep Bl)) HE.out.1).mono ?_
    rintro e w5 ⟨rfl, hb⟩
    replace c_A1 := cell_keep hb c_A1
    replace c_A2 := cell_keep hb c_A2
    replace c_C1 := cell_keep hb c_C1
    replace c_C2 := cell_keep hb c_C2
    replace c_W1 := cell_keep hb c_W1
    replace c_W2 := cell_keep hb c_W2
    replace r_A1 := r_A1.keep hb
    replace r_A2 := r_A2.keep hb
    replace r_K := r_K.keep hb
    replace r_C1 := r_C1.keep hb
    replace r_C2 := r_C2.keep hb
    replace r_W1 := r_W1.keep hb
    replace r_W2 := r_W2.keep hb
    replace hW := bt hW hb
    clear hb
    clear z_A
    have z_A : w1.heap.size < w5.heap.size := World.block_lt_of_cell? w5 _ c_A1
    clear z_C
    have z_C : w2.heap.size < w5.heap.size := World.block_lt_of_cell? w5 _ c_C1
    clear z_W
    have z_W : w3.heap.size < w5.heap.size := World.block_lt_of_cell? w5 _ c_W1
    go_wp2_with fail
    refine (cb (asnValidI_any _ _ C _ (r_C1.keep Bl) (r_C2.keep Bl)) HE.out.2.2).mono ?_
    rintro e w6 ⟨rfl, hb⟩
    replace c_A1 := cell_keep hb c_A1
    replace c_A2 := cell_keep hb c_A2
    replace c_C1 := cell_keep hb c_C1
    replace c_C2 := cell_keep hb c_C2
    replace c_W1 := cell_keep hb c_W1
    replace c_W2 := cell_keep hb c_W2
    replace r_A1 := r_A1.keep hb
    replace r_A2 := r_A2.keep hb
    replace r_K := r_K.keep hb
    replace r_C1 := r_C1.keep hb
    replace r_C2 := r_C2.keep hb
    replace r_W1 := r_W1.keep hb
    replace r_W2 := r_W2.keep hb
    replace hW := bt hW hb
    clear hb
    clear z_A
    have z_A : w1.heap.size < w6.heap.size := World.block_lt_of_cell? w6 _ c_A1
    clear z_C
    have z_C : w2.heap.size < w6.heap.size := World.block_lt_of_cell? w6 _ c_C1
    clear z_W
    have z_W : w3.heap.size < w6.heap.size := World.block_lt_of_cell? w6 _ c_W1
    go_wp2
    go_ret
    exact ⟨rfl, hW⟩
end Go.Proofs.Ytdjfdopgjlbloaa
