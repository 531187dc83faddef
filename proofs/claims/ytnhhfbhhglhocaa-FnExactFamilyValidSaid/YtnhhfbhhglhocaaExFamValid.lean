/- The walk of the law FnExactFamilyValid. -/
import Derived.Test.YtnhhfbhhglhocaaLx2
import Derived.Test.YtnhhfbhhglhocaaLs3
namespace Go.Proofs.Ytnhhfbhhglhocaa
open Go.RowKit

set_option maxHeartbeats 3200000 in
theorem fnExactFamilyValid_walk {S : Nat → Prop} (v : Value) (l : List Asn) (w : World) (h : RL w S v l) :
    Calls Try.prog 3 #[v] w fun e w' => e = .returned (.bool true) ∧ Below w.heap.size w w' := by
  obtain ⟨a, c, rfl⟩ := h.form
  have hsp : (1048576 : Int) < (Mk.size l : Nat) ∨ ((Mk.size l : Nat) : Int) ≤ 1048576 := by omega
  rcases hsp with hb | hf
  · have HB := Lib.hid (szF_big hb)
    clear hb
    go_enter Try.func3, Try.ntmps3
    go_wp2_with fail
    refine (szAssertionS_rl _ l _ _ h (by omega) (by omega)).mono ?_
    rw [HB.out]
    rintro e w1 ⟨rfl, hW⟩
    go_wp2
    go_ret
    exact ⟨rfl, hW⟩
  have HS := Lib.hid (szF_fit hf)
  have hsz : Mk.size l ≤ 1048576 := by omega
  have hnn : ¬ (1048576 : Int) - ((Mk.size l : Nat) : Int) < 0 := by omega
  obtain ⟨t, ht⟩ : ∃ t, famB l = t := ⟨_, rfl⟩
  have HT := Lib.hid ht
  have hbne : (t != t) = false := by cases t <;> rfl
  clear hf ht
  go_enter Try.func3, Try.ntmps3
  go_wp2_with fail
  refine (szAssertionS_rl _ l _ _ h (by omega) (by omega)).mono ?_
  rw [HS.out]
  rintro e w1 ⟨rfl, hW⟩
  go_wp2_with fail
  refine (toAssertionS_rl _ l _ (h.keep hW) hsz).mono ?_
  rintro e w2 ⟨v2, rfl, o2, hb⟩
  replace hW := bt hW hb
  obtain ⟨a2, c2, rfl⟩ := o2.form
  go_wp2_with fail
  refine (cb (famValidS_any _ l _ o2.read) HT.out).mono ?_
  rintro e w3 ⟨rfl, hb⟩
  replace hW := bt hW hb
  clear o2
  go_wp2_with fail
  refine (toAssertionS_rl _ l _ (h.keep hW) hsz).mono ?_
  rintro e w4 ⟨v4, rfl, o4, hb⟩
  replace hW := bt hW hb
  obtain ⟨a4, c4, rfl⟩ := o4.form
  go_wp2_with fail
  refine (cb (famValidI_any _ l _ o4.read) HT.out).mono ?_
  rintro e w5 ⟨rfl, hb⟩
  replace hW := bt hW hb
  have r4 := o4.read.keep hb
  clear o4
  go_wp2_with fail
  refine (toAssertionS_rl _ l _ (h.keep hW) hsz).mono ?_
  rintro e w6 ⟨v6, rfl, o6, hb⟩
  replace hW := bt hW hb
  obtain ⟨a6, c6, rfl⟩ := o6.form
  go_wp2_with fail
  refine (cb (b := true) (eqAssertionS_rl _ _ l l _ (r4.keep hb) o6.read) (by simp)).mono ?_
  rintro e w7 ⟨rfl, hb⟩
  go_wp2
  go_ret
  exact ⟨rfl, bt hW hb⟩
end Go.Proofs.Ytnhhfbhhglhocaa
