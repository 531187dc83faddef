/- The walk of the law FnWeakerOf. (Printed by a program over lawgen.py.) -/
import Derived.Test.YtapoillhgimdiaaDEnt2
import Derived.Test.YtapoillhgimdiaaWeak
import Derived.Test.YtapoillhgimdiaaItrB
import Derived.Test.YtapoillhgimdiaaSam
import Derived.Deep.Cut
import Derived.Handy
namespace Go.Proofs.Ytapoillhgimdiaa
open Go.RowKit

theorem weak_none {a b : Asn} (h : weakOk a b = false) : entB a b = false ∧ entB b a = false := by
  rw [weakOk, Bool.or_eq_false_iff] at h; exact h
theorem weak_law {a b : Asn} (h : weakOk a b = true) : (entB a (weakR a b) = true ∧ entB b (weakR a b) = true) ∧ (weakOk b a = true ∧ (entB (weakR a b) (weakR b a) = true ∧ entB (weakR b a) (weakR a b) = true)) := by
  have h2 : weakOk b a = true := by rw [weakOk, Bool.or_comm]; exact h
  cases h1 : entB a b with
  | true =>
    have hb := ent_refl (ent_right h1)
    have e : weakR a b = b := by rw [weakR, if_pos h1]
    rw [e]
    refine ⟨⟨h1, hb⟩, h2, ?_⟩
    cases h3 : entB b a with
    | true => rw [weakR, if_pos h3]; exact ⟨h3, h1⟩
    | false => rw [weakR, if_neg (by rw [h3]; decide), if_pos h1]; exact ⟨hb, hb⟩
  | false =>
    have h3 : entB b a = true := by rw [weakOk, h1, Bool.false_or] at h; exact h
    have ha := ent_refl (ent_right h3)
    have e : weakR a b = a := by rw [weakR, if_neg (by rw [h1]; decide), if_pos h3]
    have e2 : weakR b a = a := by rw [weakR, if_pos h3]
    rw [e, e2]
    exact ⟨⟨ha, h3⟩, h2, ha, ha⟩
set_option maxRecDepth 100000 in
set_option maxHeartbeats 1600000 in
theorem equivI_any {S1 S2 S3 S4 : Nat → Prop} (v1 v2 u1 u2 : Value) (a b : Asn) (w : World) (h1 : RL w S1 v1 a.1) (h2 : RL w S2 v2 a.2) (k1 : RL w S3 u1 b.1) (k2 : RL w S4 u2 b.2) (he : entB a b = true ∧ entB b a = true) :
    Calls Try.prog 45 #[.agg #[v1, v2], .agg #[u1, u2]] w fun e w' => e = .returned (.bool true) ∧ Below w.heap.size w w' := by
  obtain ⟨xa1, xc1, rfl⟩ := h1.form
  obtain ⟨xa2, xc2, rfl⟩ := h2.form
  obtain ⟨ya1, yc1, rfl⟩ := k1.form
  obtain ⟨ya2, yc2, rfl⟩ := k2.form
  have HE := Lib.hid he
  clear he
  go_enter Try.func45, Try.ntmps45
  go_wp2_with fail
  refine (cb (entailsI_any _ _ _ _ a b _ (h1.keep Bl) (h2.keep Bl) (k1.keep Bl) (k2.keep Bl)) HE.out.1).mono ?_
  rintro e w1 ⟨rfl, hb⟩
  have hc0 := cell_keep hb (p := ⟨w.heap.size, 0, none⟩) (v := .slice xa1 a.1.length xc1) (by simp)
  have hc1 := cell_keep hb (p := ⟨w.heap.size, 1, none⟩) (v := .slice xa2 a.2.length xc2) (by simp)
  have hd0 := cell_keep hb (p := ⟨w.heap.size + 1, 0, none⟩) (v := .slice ya1 b.1.length yc1) (by simp)
  have hd1 := cell_keep hb (p := ⟨w.heap.size + 1, 1, none⟩) (v := .slice ya2 b.2.length yc2) (by simp)
  have hW : Below w.heap.size w w1 := bt Bl hb
  clear hb
  go_wp2_with fail
  refine (cb (entailsI_any _ _ _ _ b a _ (k1.keep hW) (k2.keep hW) (h1.keep hW) (h2.keep hW)) HE.out.2).mono ?_
  rintro e w2 ⟨rfl, hb⟩
  go_wp2
  go_returns
  exact ⟨rfl, bt hW hb⟩
set_option maxRecDepth 100000 in
set_option maxHeartbeats 12800000 in
theorem fnWeakerOf_walk (v : Value) (n : Nat) (w : World) (h : RBytes w v n) :
    Calls Try.prog 7 #[v] w fun e w' => e = .returned (.bool true) ∧ Below w.heap.size w w' := by
  obtain ⟨a, cap, rfl⟩ := bytes_form h
  by_cases hn : n ≤ 1048576
  rotate_left
  · go_enter Try.func7, Try.ntmps7
    go_wp2
    go_ret
    exact ⟨rfl, Below.refl _ _⟩
  go_enter Try.func7, Try.ntmps7
  go_wp2_with fail
  refine (specDrawWeaker_any _ n _ h hn).mono ?_
  rintro e w1 ⟨u1, u2, t1, t2, A, B, rfl, hl, ⟨r1, r2⟩, ⟨s1, s2⟩, hb⟩
  have hW := hb
  clear hb
  have r_A1 := r1.any
  have r_A2 := r2.any
  obtain ⟨Aa1, Ac1, rfl⟩ := r_A1.form
  obtain ⟨Aa2, Ac2, rfl⟩ := r_A2.form
  have r_B1 := s1.any
  have r_B2 := s2.any
  obtain ⟨Ba1, Bc1, rfl⟩ := r_B1.form
  obtain ⟨Ba2, Bc2, rfl⟩ := r_B2.form
  clear r1 r2 s1 s2 hl h
  obtain ⟨ok, hok⟩ : ∃ ok, ok = weakOk A B := ⟨_, rfl⟩
  obtain ⟨C, hC⟩ : ∃ C, C = weakR A B := ⟨_, rfl⟩
  have hbn : (ok != ok) = false := by cases ok <;> rfl
  have hbe : (ok == ok) = true := by cases ok <;> rfl
  have HX := Lib.hid (And.intro hok hC)
  clear hok hC
  go_wp2_with fail
  refine (weakerI_any _ _ _ _ A B _ (r_A1.keep Bl) (r_A2.keep Bl) (r_B1.keep Bl) (r_B2.keep Bl)).mono ?_
  rw [← HX.out.1, ← HX.out.2]
  rintro e w2 ⟨x1, x2, rfl, hx, hb⟩
  have c_A1 := cell_keep hb (p := ⟨w1.heap.size, 0, none⟩) (v := .slice Aa1 A.1.length Ac1) (by simp)
  have c_A2 := cell_keep hb (p := ⟨w1.heap.size, 1, none⟩) (v := .slice Aa2 A.2.length Ac2) (by simp)
  have c_B1 := cell_keep hb (p := ⟨w1.heap.size + 1, 0, none⟩) (v := .slice Ba1 B.1.length Bc1) (by simp)
  have c_B2 := cell_keep hb (p := ⟨w1.heap.size + 1, 1, none⟩) (v := .slice Ba2 B.2.length Bc2) (by simp)
  replace hb : Below w1.heap.size w1 w2 := bt Bl hb
  replace r_A1 := r_A1.keep hb
  replace r_A2 := r_A2.keep hb
  replace r_B1 := r_B1.keep hb
  replace r_B2 := r_B2.keep hb
  replace hW := bt hW hb
  clear hb
  have z_A : w1.heap.size < w2.heap.size := World.block_lt_of_cell? w2 _ c_A1
  have z_B : w1.heap.size + 1 < w2.heap.size := World.block_lt_of_cell? w2 _ c_B1
  have r_C1 := hx.one.any
  have r_C2 := hx.two.any
  obtain ⟨Ca1, Cc1, rfl⟩ := r_C1.form
  obtain ⟨Ca2, Cc2, rfl⟩ := r_C2.form
  clear hx
  go_wp2_with fail
  refine (weakerS_any _ _ _ _ A B _ (r_A1.keep Bl) (r_A2.keep Bl) (r_B1.keep Bl) (r_B2.keep Bl)).mono ?_
  rw [← HX.out.1, ← HX.out.2]
  rintro e w3 ⟨y1, y2, rfl, ⟨p1, p2⟩, hb⟩
  have c_C1 := cell_keep hb (p := ⟨w2.heap.size, 0, none⟩) (v := .slice Ca1 C.1.length Cc1) (by simp)
  have c_C2 := cell_keep hb (p := ⟨w2.heap.size, 1, none⟩) (v := .slice Ca2 C.2.length Cc2) (by simp)
  replace hb : Below w2.heap.size w2 w3 := bt Bl hb
  replace c_A1 := cell_keep hb c_A1
  replace c_A2 := cell_keep hb c_A2
  replace c_B1 := cell_keep hb c_B1
  replace c_B2 := cell_keep hb c_B2
  replace r_A1 := r_A1.keep hb
  replace r_A2 := r_A2.keep hb
  replace r_B1 := r_B1.keep hb
  replace r_B2 := r_B2.keep hb
  replace r_C1 := r_C1.keep hb
  replace r_C2 := r_C2.keep hb
  replace hW := bt hW hb
  clear hb
  clear z_A
  have z_A : w1.heap.size < w3.heap.size := World.block_lt_of_cell? w3 _ c_A1
  clear z_B
  have z_B : w1.heap.size + 1 < w3.heap.size := World.block_lt_of_cell? w3 _ c_B1
  have z_C : w2.heap.size < w3.heap.size := World.block_lt_of_cell? w3 _ c_C1
  have r_W1 := p1.any
  have r_W2 := p2.any
  obtain ⟨Wa1, Wc1, rfl⟩ := r_W1.form
  obtain ⟨Wa2, Wc2, rfl⟩ := r_W2.form
  clear p1 p2
  go_wp2_with fail
  refine (asnSame_any _ _ _ _ C _ (r_C1.keep Bl) (r_C2.keep Bl) (r_W1.keep Bl) (r_W2.keep Bl)).mono ?_
  rintro e w4 ⟨rfl, hb⟩
  have c_W1 := cell_keep hb (p := ⟨w3.heap.size, 0, none⟩) (v := .slice Wa1 C.1.length Wc1) (by simp)
  have c_W2 := cell_keep hb (p := ⟨w3.heap.size, 1, none⟩) (v := .slice Wa2 C.2.length Wc2) (by simp)
  replace hb : Below w3.heap.size w3 w4 := bt Bl hb
  replace c_A1 := cell_keep hb c_A1
  replace c_A2 := cell_keep hb c_A2
  replace c_B1 := cell_keep hb c_B1
  replace c_B2 := cell_keep hb c_B2
  replace c_C1 := cell_keep hb c_C1
  replace c_C2 := cell_keep hb c_C2
  replace r_A1 := r_A1.keep hb
  replace r_A2 := r_A2.keep hb
  replace r_B1 := r_B1.keep hb
  replace r_B2 := r_B2.keep hb
  replace r_C1 := r_C1.keep hb
  replace r_C2 := r_C2.keep hb
  replace r_W1 := r_W1.keep hb
  replace r_W2 := r_W2.keep hb
  replace hW := bt hW hb
  clear hb
  clear z_A
  have z_A : w1.heap.size < w4.heap.size := World.block_lt_of_cell? w4 _ c_A1
  clear z_B
  have z_B : w1.heap.size + 1 < w4.heap.size := World.block_lt_of_cell? w4 _ c_B1
  clear z_C
  have z_C : w2.heap.size < w4.heap.size := World.block_lt_of_cell? w4 _ c_C1
  have z_W : w3.heap.size < w4.heap.size := World.block_lt_of_cell? w4 _ c_W1
  cases ok with
  | false =>
    have HE := Lib.hid (weak_none HX.out.1.symm)
    go_wp2_with fail
    refine (asnSame_any _ _ _ _ C _ (r_C1.keep Bl) (r_C2.keep Bl) (r_W1.keep Bl) (r_W2.keep Bl)).mono ?_
    rintro e w5 ⟨rfl, hb⟩
    replace c_A1 := cell_keep hb c_A1
    replace c_A2 := cell_keep hb c_A2
    replace c_B1 := cell_keep hb c_B1
    replace c_B2 := cell_keep hb c_B2
    replace c_C1 := cell_keep hb c_C1
    replace c_C2 := cell_keep hb c_C2
    replace c_W1 := cell_keep hb c_W1
    replace c_W2 := cell_keep hb c_W2
    replace r_A1 := r_A1.keep hb
    replace r_A2 := r_A2.keep hb
    replace r_B1 := r_B1.keep hb
    replace r_B2 := r_B2.keep hb
    replace r_C1 := r_C1.keep hb
    replace r_C2 := r_C2.keep hb
    replace r_W1 := r_W1.keep hb
    replace r_W2 := r_W2.keep hb
    replace hW := bt hW hb
    clear hb
    clear z_A
    have z_A : w1.heap.size < w5.heap.size := World.block_lt_of_cell? w5 _ c_A1
    clear z_B
    have z_B : w1.heap.size + 1 < w5.heap.size := World.block_lt_of_cell? w5 _ c_B1
    clear z_C
    have z_C : w2.heap.size < w5.heap.size := World.block_lt_of_cell? w5 _ c_C1
    clear z_W
    have z_W : w3.heap.size < w5.heap.size := World.block_lt_of_cell? w5 _ c_W1
    go_wp2_with fail
    refine (cb (entailsI_any _ _ _ _ A B _ (r_A1.keep Bl) (r_A2.keep Bl) (r_B1.keep Bl) (r_B2.keep Bl)) HE.out.1).mono ?_
    rintro e w6 ⟨rfl, hb⟩
    replace c_A1 := cell_keep hb c_A1
    replace c_A2 := cell_keep hb c_A2
    replace c_B1 := cell_keep hb c_B1
    replace c_B2 := cell_keep hb c_B2
    replace c_C1 := cell_keep hb c_C1
    replace c_C2 := cell_keep hb c_C2
    replace c_W1 := cell_keep hb c_W1
    replace c_W2 := cell_keep hb c_W2
    replace r_A1 := r_A1.keep hb
    replace r_A2 := r_A2.keep hb
    replace r_B1 := r_B1.keep hb
    replace r_B2 := r_B2.keep hb
    replace r_C1 := r_C1.keep hb
    replace r_C2 := r_C2.keep hb
    replace r_W1 := r_W1.keep hb
    replace r_W2 := r_W2.keep hb
    replace hW := bt hW hb
    clear hb
    clear z_A
    have z_A : w1.heap.size < w6.heap.size := World.block_lt_of_cell? w6 _ c_A1
    clear z_B
    have z_B : w1.heap.size + 1 < w6.heap.size := World.block_lt_of_cell? w6 _ c_B1
    clear z_C
    have z_C : w2.heap.size < w6.heap.size := World.block_lt_of_cell? w6 _ c_C1
    clear z_W
    have z_W : w3.heap.size < w6.heap.size := World.block_lt_of_cell? w6 _ c_W1
    go_wp2_with fail
    refine (cb (entailsI_any _ _ _ _ B A _ (r_B1.keep Bl) (r_B2.keep Bl) (r_A1.keep Bl) (r_A2.keep Bl)) HE.out.2).mono ?_
    rintro e w7 ⟨rfl, hb⟩
    replace c_A1 := cell_keep hb c_A1
    replace c_A2 := cell_keep hb c_A2
    replace c_B1 := cell_keep hb c_B1
    replace c_B2 := cell_keep hb c_B2
    replace c_C1 := cell_keep hb c_C1
    replace c_C2 := cell_keep hb c_C2
    replace c_W1 := cell_keep hb c_W1
    replace c_W2 := cell_keep hb c_W2
    replace r_A1 := r_A1.keep hb
    replace r_A2 := r_A2.keep hb
    replace r_B1 := r_B1.keep hb
    replace r_B2 := r_B2.keep hb
    replace r_C1 := r_C1.keep hb
    replace r_C2 := r_C2.keep hb
    replace r_W1 := r_W1.keep hb
    replace r_W2 := r_W2.keep hb
    replace hW := bt hW hb
    clear hb
    clear z_A
    have z_A : w1.heap.size < w7.heap.size := World.block_lt_of_cell? w7 _ c_A1
    clear z_B
    have z_B : w1.heap.size + 1 < w7.heap.size := World.block_lt_of_cell? w7 _ c_B1
    clear z_C
    have z_C : w2.heap.size < w7.heap.size := World.block_lt_of_cell? w7 _ c_C1
    clear z_W
    have z_W : w3.heap.size < w7.heap.size := World.block_lt_of_cell? w7 _ c_W1
    go_wp2
    go_ret
    exact ⟨rfl, hW⟩
  | true =>
    have hwl := weak_law HX.out.1.symm
    rw [← HX.out.2] at hwl
    obtain ⟨D, hD⟩ : ∃ D, D = weakR B A := ⟨_, rfl⟩
    rw [← hD] at hwl
    have HE := Lib.hid (And.intro hwl hD)
    clear hwl hD
    go_wp2_with fail
    refine (weakerI_any _ _ _ _ B A _ (r_B1.keep Bl) (r_B2.keep Bl) (r_A1.keep Bl) (r_A2.keep Bl)).mono ?_
    rw [HE.out.1.2.1, ← HE.out.2]
    rintro e w5 ⟨d1, d2, rfl, hd, hb⟩
    replace c_A1 := cell_keep hb c_A1
    replace c_A2 := cell_keep hb c_A2
    replace c_B1 := cell_keep hb c_B1
    replace c_B2 := cell_keep hb c_B2
    replace c_C1 := cell_keep hb c_C1
    replace c_C2 := cell_keep hb c_C2
    replace c_W1 := cell_keep hb c_W1
    replace c_W2 := cell_keep hb c_W2
    replace r_A1 := r_A1.keep hb
    replace r_A2 := r_A2.keep hb
    replace r_B1 := r_B1.keep hb
    replace r_B2 := r_B2.keep hb
    replace r_C1 := r_C1.keep hb
    replace r_C2 := r_C2.keep hb
    replace r_W1 := r_W1.keep hb
    replace r_W2 := r_W2.keep hb
    replace hW := bt hW hb
    clear hb
    clear z_A
    have z_A : w1.heap.size < w5.heap.size := World.block_lt_of_cell? w5 _ c_A1
    clear z_B
    have z_B : w1.heap.size + 1 < w5.heap.size := World.block_lt_of_cell? w5 _ c_B1
    clear z_C
    have z_C : w2.heap.size < w5.heap.size := World.block_lt_of_cell? w5 _ c_C1
    clear z_W
    have z_W : w3.heap.size < w5.heap.size := World.block_lt_of_cell? w5 _ c_W1
    have r_D1 := hd.one.any
    have r_D2 := hd.two.any
    obtain ⟨Da1, Dc1, rfl⟩ := r_D1.form
    obtain ⟨Da2, Dc2, rfl⟩ := r_D2.form
    clear hd
    go_wp2_with fail
    refine (cb (entailsI_any _ _ _ _ A C _ (r_A1.keep Bl) (r_A2.keep Bl) (r_C1.keep Bl) (r_C2.keep Bl)) HE.out.1.1.1).mono ?_
    rintro e w6 ⟨rfl, hb⟩
    have c_D1 := cell_keep hb (p := ⟨w5.heap.size, 0, none⟩) (v := .slice Da1 D.1.length Dc1) (by simp)
    have c_D2 := cell_keep hb (p := ⟨w5.heap.size, 1, none⟩) (v := .slice Da2 D.2.length Dc2) (by simp)
    replace hb : Below w5.heap.size w5 w6 := bt Bl hb
    replace c_A1 := cell_keep hb c_A1
    replace c_A2 := cell_keep hb c_A2
    replace c_B1 := cell_keep hb c_B1
    replace c_B2 := cell_keep hb c_B2
    replace c_C1 := cell_keep hb c_C1
    replace c_C2 := cell_keep hb c_C2
    replace c_W1 := cell_keep hb c_W1
    replace c_W2 := cell_keep hb c_W2
    replace r_A1 := r_A1.keep hb
    replace r_A2 := r_A2.keep hb
    replace r_B1 := r_B1.keep hb
    replace r_B2 := r_B2.keep hb
    replace r_C1 := r_C1.keep hb
    replace r_C2 := r_C2.keep hb
    replace r_W1 := r_W1.keep hb
    replace r_W2 := r_W2.keep hb
    replace r_D1 := r_D1.keep hb
    replace r_D2 := r_D2.keep hb
    replace hW := bt hW hb
    clear hb
    clear z_A
    have z_A : w1.heap.size < w6.heap.size := World.block_lt_of_cell? w6 _ c_A1
    clear z_B
    have z_B : w1.heap.size + 1 < w6.heap.size := World.block_lt_of_cell? w6 _ c_B1
    clear z_C
    have z_C : w2.heap.size < w6.heap.size := World.block_lt_of_cell? w6 _ c_C1
    clear z_W
    have z_W : w3.heap.size < w6.heap.size := World.block_lt_of_cell? w6 _ c_W1
    have z_D : w5.heap.size < w6.heap.size := World.block_lt_of_cell? w6 _ c_D1
    go_wp2_with fail
    refine (cb (entailsI_any _ _ _ _ B C _ (r_B1.keep Bl) (r_B2.keep Bl) (r_C1.keep Bl) (r_C2.keep Bl)) HE.out.1.1.2).mono ?_
    rintro e w7 ⟨rfl, hb⟩
    replace c_A1 := cell_keep hb c_A1
    replace c_A2 := cell_keep hb c_A2
    replace c_B1 := cell_keep hb c_B1
    replace c_B2 := cell_keep hb c_B2
    replace c_C1 := cell_keep hb c_C1
    replace c_C2 := cell_keep hb c_C2
    replace c_W1 := cell_keep hb c_W1
    replace c_W2 := cell_keep hb c_W2
    replace c_D1 := cell_keep hb c_D1
    replace c_D2 := cell_keep hb c_D2
    replace r_A1 := r_A1.keep hb
    replace r_A2 := r_A2.keep hb
    replace r_B1 := r_B1.keep hb
    replace r_B2 := r_B2.keep hb
    replace r_C1 := r_C1.keep hb
    replace r_C2 := r_C2.keep hb
    replace r_W1 := r_W1.keep hb
    replace r_W2 := r_W2.keep hb
    replace r_D1 := r_D1.keep hb
    replace r_D2 := r_D2.keep hb
    replace hW := bt hW hb
    clear hb
    clear z_A
    have z_A : w1.heap.size < w7.heap.size := World.block_lt_of_cell? w7 _ c_A1
    clear z_B
    have z_B : w1.heap.size + 1 < w7.heap.size := World.block_lt_of_cell? w7 _ c_B1
    clear z_C
    have z_C : w2.heap.size < w7.heap.size := World.block_lt_of_cell? w7 _ c_C1
    clear z_W
    have z_W : w3.heap.size < w7.heap.size := World.block_lt_of_cell? w7 _ c_W1
    clear z_D
    have z_D : w5.heap.size < w7.heap.size := World.block_lt_of_cell? w7 _ c_D1
    go_wp2_with fail
    refine (equivI_any _ _ _ _ C D _ (r_C1.keep Bl) (r_C2.keep Bl) (r_D1.keep Bl) (r_D2.keep Bl) HE.out.1.2.2).mono ?_
    rintro e w8 ⟨rfl, hb⟩
    replace c_A1 := cell_keep hb c_A1
    replace c_A2 := cell_keep hb c_A2
    replace c_B1 := cell_keep hb c_B1
    replace c_B2 := cell_keep hb c_B2
    replace c_C1 := cell_keep hb c_C1
    replace c_C2 := cell_keep hb c_C2
    replace c_W1 := cell_keep hb c_W1
    replace c_W2 := cell_keep hb c_W2
    replace c_D1 := cell_keep hb c_D1
    replace c_D2 := cell_keep hb c_D2
    replace r_A1 := r_A1.keep hb
    replace r_A2 := r_A2.keep hb
    replace r_B1 := r_B1.keep hb
    replace r_B2 := r_B2.keep hb
    replace r_C1 := r_C1.keep hb
    replace r_C2 := r_C2.keep hb
    replace r_W1 := r_W1.keep hb
    replace r_W2 := r_W2.keep hb
    replace r_D1 := r_D1.keep hb
    replace r_D2 := r_D2.keep hb
    replace hW := bt hW hb
    clear hb
    clear z_A
    have z_A : w1.heap.size < w8.heap.size := World.block_lt_of_cell? w8 _ c_A1
    clear z_B
    have z_B : w1.heap.size + 1 < w8.heap.size := World.block_lt_of_cell? w8 _ c_B1
    clear z_C
    have z_C : w2.heap.size < w8.heap.size := World.block_lt_of_cell? w8 _ c_C1
    clear z_W
    have z_W : w3.heap.size < w8.heap.size := World.block_lt_of_cell? w8 _ c_W1
    clear z_D
    have z_D : w5.heap.size < w8.heap.size := World.block_lt_of_cell? w8 _ c_D1
    go_wp2
    go_ret
    exact ⟨rfl, hW⟩
end Go.Proofs.Ytapoillhgimdiaa
