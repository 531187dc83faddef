/- The walk of the law FnExactFamilyEntails. -/
import Derived.Test.YthoingdcmdhllaaEnt2
import Derived.Test.YthoingdcmdhllaaData2
namespace Go.Proofs.Ythoingdcmdhllaa
open Go.RowKit

set_option maxRecDepth 100000 in
set_option maxHeartbeats 6400000 in
theorem fnExactFamilyEntails_walk {S0 S1 : Nat → Prop} (v0 v1 : Value) (l0 l1 : List Asn) (w : World) (h0 : RL w S0 v0 l0) (h1 : RL w S1 v1 l1) :
    Calls Try.prog 13 #[v0, v1] w fun e w' => e = .returned (.bool true) ∧ Below w.heap.size w w' := by
  obtain ⟨a0, c0, rfl⟩ := h0.form
  obtain ⟨a1, c1, rfl⟩ := h1.form
  have hsp0 : (1048576 : Int) < (Mk.size l0 : Nat) ∨ ((Mk.size l0 : Nat) : Int) ≤ (1048576 : Int) := by omega
  rcases hsp0 with hbig | hfit0
  · have HB := Lib.hid (szF_big hbig)
    clear hbig
    go_enter Try.func13, Try.ntmps13
    go_wp2_with fail
    refine (szAssertionS_rl _ l0 _ _ (h0) (by omega) (by omega)).mono ?_
    rw [HB.out]
    rintro e z ⟨rfl, hb⟩
    go_wp2
    go_ret
    exact ⟨rfl, hb⟩
  have HS0 := Lib.hid (szF_fit hfit0)
  have hs0 : Mk.size l0 ≤ 1048576 := by omega
  have hnn0 : ¬ (1048576 : Int) - ((Mk.size l0 : Nat) : Int) < 0 := by omega
  have hsp1 : (1048576 : Int) - ((Mk.size l0 : Nat) : Int) < (Mk.size l1 : Nat) ∨ ((Mk.size l1 : Nat) : Int) ≤ (1048576 : Int) - ((Mk.size l0 : Nat) : Int) := by omega
  rcases hsp1 with hbig | hfit1
  · have HB := Lib.hid (szF_big hbig)
    clear hbig
    go_enter Try.func13, Try.ntmps13
    go_wp2_with fail
    refine (szAssertionS_rl _ l0 _ _ (h0) (by omega) (by omega)).mono ?_
    rw [HS0.out]
    rintro e z0 ⟨rfl, hb0⟩
    have hW := hb0
    go_wp2_with fail
    refine (szAssertionS_rl _ l1 _ _ (h1.keep hW) (by omega) (by omega)).mono ?_
    rw [HB.out]
    rintro e z ⟨rfl, hb⟩
    go_wp2
    go_ret
    exact ⟨rfl, bt hW hb⟩
  have HS1 := Lib.hid (szF_fit hfit1)
  have hs1 : Mk.size l1 ≤ 1048576 := by omega
  have hnn1 : ¬ (1048576 : Int) - ((Mk.size l0 : Nat) : Int) - ((Mk.size l1 : Nat) : Int) < 0 := by omega
  obtain ⟨t, ht⟩ : ∃ t, famEntB l0 l1 = t := ⟨_, rfl⟩
  have HT := Lib.hid ht
  have hbne : (t != t) = false := by cases t <;> rfl
  clear hfit0 hfit1 ht
  go_enter Try.func13, Try.ntmps13
  go_wp2_with fail
  refine (szAssertionS_rl _ l0 _ _ (h0) (by omega) (by omega)).mono ?_
  rw [HS0.out]
  rintro e z0 ⟨rfl, hb0⟩
  have hW := hb0
  go_wp2_with fail
  refine (szAssertionS_rl _ l1 _ _ (h1.keep hW) (by omega) (by omega)).mono ?_
  rw [HS1.out]
  rintro e z1 ⟨rfl, hb1⟩
  replace hW := bt hW hb1
  go_wp2_with fail
  refine (toAssertionS_rl _ l0 _ (h0.keep hW) hs0).mono ?_
  rintro e w1 ⟨y0, rfl, oy0, hb⟩
  replace hW := bt hW hb
  obtain ⟨ya0, yc0, rfl⟩ := oy0.form
  go_wp2_with fail
  refine (toAssertionS_rl _ l1 _ (h1.keep hW) hs1).mono ?_
  rintro e w1 ⟨y1, rfl, oy1, hb⟩
  replace hW := bt hW hb
  replace oy0 := oy0.keep hb
  obtain ⟨ya1, yc1, rfl⟩ := oy1.form
  go_wp2_with fail
  refine (cb (famEntS_any _ _ l0 l1 _ oy0.read oy1.read) HT.out).mono ?_
  rintro e w1 ⟨rfl, hb⟩
  replace hW := bt hW hb
  clear oy0 oy1
  go_wp2_with fail
  refine (toAssertionS_rl _ l0 _ (h0.keep hW) hs0).mono ?_
  rintro e w1 ⟨x0, rfl, ox0, hb⟩
  replace hW := bt hW hb
  obtain ⟨xa0, xc0, rfl⟩ := ox0.form
  go_wp2_with fail
  refine (toAssertionS_rl _ l1 _ (h1.keep hW) hs1).mono ?_
  rintro e w1 ⟨x1, rfl, ox1, hb⟩
  replace hW := bt hW hb
  replace ox0 := ox0.keep hb
  obtain ⟨xa1, xc1, rfl⟩ := ox1.form
  go_wp2_with fail
  refine (cb (famEntI_any _ _ l0 l1 _ ox0.read ox1.read) HT.out).mono ?_
  rintro e w1 ⟨rfl, hb⟩
  replace hW := bt hW hb
  replace ox0 := ox0.keep hb
  replace ox1 := ox1.keep hb
  go_wp2_with fail
  refine (toAssertionS_rl _ l0 _ (h0.keep hW) hs0).mono ?_
  rintro e w1 ⟨t0, rfl, ot0, hb⟩
  replace hW := bt hW hb
  replace ox0 := ox0.keep hb
  replace ox1 := ox1.keep hb
  obtain ⟨ta0, tc0, rfl⟩ := ot0.form
  go_wp2_with fail
  refine (cb (b := true) (eqAssertionS_rl _ _ l0 l0 _ ox0.read ot0.read) (by simp)).mono ?_
  rintro e w1 ⟨rfl, hb⟩
  replace hW := bt hW hb
  replace ox1 := ox1.keep hb
  clear ot0 ox0
  go_wp2_with fail
  refine (toAssertionS_rl _ l1 _ (h1.keep hW) hs1).mono ?_
  rintro e w1 ⟨t1, rfl, ot1, hb⟩
  replace hW := bt hW hb
  replace ox1 := ox1.keep hb
  obtain ⟨ta1, tc1, rfl⟩ := ot1.form
  go_wp2_with fail
  refine (cb (b := true) (eqAssertionS_rl _ _ l1 l1 _ ox1.read ot1.read) (by simp)).mono ?_
  rintro e w1 ⟨rfl, hb⟩
  replace hW := bt hW hb
  go_wp2
  go_ret
  exact ⟨rfl, hW⟩
end Go.Proofs.Ythoingdcmdhllaa
