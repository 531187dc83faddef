/- The walk of the law FnExactFamilyTrim. -/
import Derived.Test.YtapoillhgimdiaaTrmW
import Derived.Test.YtapoillhgimdiaaData2
namespace Go.Proofs.Ytapoillhgimdiaa
open Go.RowKit

set_option maxRecDepth 100000 in
set_option maxHeartbeats 6400000 in
theorem fnExactFamilyTrim_walk {S0 : Nat → Prop} (v0 : Value) (l0 : List (Asn)) (w : World) (h0 : RL w S0 v0 l0) :
    Calls Try.prog 9 #[v0] w fun e w' => e = .returned (.bool true) ∧ Below w.heap.size w w' := by
  obtain ⟨a0, c0, rfl⟩ := h0.form
  have hsp0 : (1048576 : Int) < (Mk.size l0 : Nat) ∨ ((Mk.size l0 : Nat) : Int) ≤ (1048576 : Int) := by omega
  rcases hsp0 with hbig | hfit0
  · have HB := Lib.hid (szF_big hbig)
    clear hbig
    go_enter Try.func9, Try.ntmps9
    go_wp2_with fail
    refine (szAssertionS_rl _ l0 _ _ (h0) (by omega) (by omega)).mono ?_
    rw [HB.out]
    rintro e z ⟨rfl, hb⟩
    go_wp2
    go_ret
    exact ⟨rfl, hb⟩
  have HS0 := Lib.hid (szF_fit hfit0)
  have hs0 : Mk.size l0 ≤ 1048576 := by omega
  have hnn0 : ¬ (1048576 : Int) - ((Mk.size l0 : Nat) : Int) < 0 := by omega
  obtain ⟨D, hD⟩ : ∃ D, D = trimR l0 := ⟨_, rfl⟩
  have hsD : Mk.size (trimR l0) ≤ 1048576 := trimR_size hs0
  rw [← hD] at hsD
  obtain ⟨ok, hok⟩ : ∃ ok, ok = famB l0 := ⟨_, rfl⟩
  have hbne : (ok != ok) = false := by cases ok <;> rfl
  have hbeq : (ok == ok) = true := by cases ok <;> rfl
  have HD := Lib.hid (And.intro hD hok)
  clear hD hok
  clear hfit0
  go_enter Try.func9, Try.ntmps9
  go_wp2_with fail
  refine (szAssertionS_rl _ l0 _ _ (h0) (by omega) (by omega)).mono ?_
  rw [HS0.out]
  rintro e z0 ⟨rfl, hb0⟩
  have hW := hb0
  go_wp2_with fail
  refine (toAssertionS_rl _ l0 _ (h0.keep hW) hs0).mono ?_
  rintro e w1 ⟨y0, rfl, oy0, hb⟩
  replace hW := bt hW hb
  obtain ⟨ya0, yc0, rfl⟩ := oy0.form
  go_wp2_with fail
  refine (familyTrimS_any _ l0 _ oy0.read).mono ?_
  rw [← HD.out.1, ← HD.out.2]; rintro e w1 ⟨u0, rfl, ru0, hb⟩
  replace hW := bt hW hb
  replace oy0 := oy0.keep hb
  replace ru0 := ru0.lt
  obtain ⟨s0, hs0⟩ : ∃ s, s = w1.heap.size := ⟨_, rfl⟩
  rw [← hs0] at ru0
  have hle0 : s0 ≤ w1.heap.size := by omega
  have hle : w.heap.size ≤ s0 := by have := hW.size; omega
  clear hs0 oy0
  obtain ⟨ua0, uc0, rfl⟩ := ru0.form
  go_wp2_with fail
  refine (toAssertionS_rl _ l0 _ (h0.keep hW) hs0).mono ?_
  rintro e w1 ⟨x0, rfl, ⟨f0, ox0, nx0⟩, hb⟩
  replace hW := bt hW hb
  replace ru0 := ru0.keep hb
  obtain ⟨xa0, xc0, rfl⟩ := ox0.read.form
  replace ox0 := ox0.mono (B' := s0) hle0
  have hz0 := hb.size
  obtain ⟨s1, hse1⟩ : ∃ s, s = w1.heap.size := ⟨_, rfl⟩
  have lx0 : ∀ k ∈ f0, s0 ≤ k ∧ k < s1 := by rw [hse1]; exact ox0.lt
  have hle1 : s1 ≤ w1.heap.size := by omega
  have hlt0 : s0 ≤ s1 := by omega
  clear hse1 hz0
  go_wp2_with fail
  refine (familyTrimI_any _ l0 _ ox0.read).mono ?_
  rw [← HD.out.1, ← HD.out.2]; rintro e w1 ⟨g0, rfl, ⟨fg, og, ng⟩, hb⟩
  replace hW := bt hW hb
  replace ru0 := ru0.keep hb
  replace ox0 := ox0.keep hb
  obtain ⟨ga0, gc0, rfl⟩ := og.read.form
  replace og := og.mono (B' := s1) hle1
  have lg : ∀ k ∈ fg, s1 ≤ k := fun k hk => (og.lt k hk).1
  go_wp2_with fail
  refine (cb (b := true) (eqAssertionS_rl _ _ D D _ og.read ru0) (by simp)).mono ?_
  rintro e w1 ⟨rfl, hb⟩
  replace hW := bt hW hb
  replace ru0 := ru0.keep hb
  replace ox0 := ox0.keep hb
  replace og := og.keep hb
  go_wp2_with fail
  refine (toAssertionS_rl _ l0 _ (h0.keep hW) hs0).mono ?_
  rintro e w1 ⟨t0, rfl, ot0, hb⟩
  replace hW := bt hW hb
  replace ru0 := ru0.keep hb
  replace ox0 := ox0.keep hb
  replace og := og.keep hb
  obtain ⟨ta0, tc0, rfl⟩ := ot0.form
  go_wp2_with fail
  refine (cb (b := true) (eqAssertionS_rl _ _ l0 l0 _ ox0.read ot0.read) (by simp)).mono ?_
  rintro e w1 ⟨rfl, hb⟩
  replace hW := bt hW hb
  replace ru0 := ru0.keep hb
  replace ox0 := ox0.keep hb
  replace og := og.keep hb
  clear ot0
  go_wp2_with fail
  refine (markAssertionS_rl s0 _ l0 f0 (1) _ ox0 nx0 (by omega) (by omega) hs0).mono ?_
  rintro e w1 ⟨rfl, _, hf⟩
  replace hW := hW.trans (hf.below hW.size fun k hk hm => by have := (lx0 k hm).1; have := hle; omega)
  replace ru0 := ru0.kept hf (fun k _ h hm => by have := (lx0 k hm).1; have h2 : k < s0 := h; omega)
  replace og := og.okept hf (fun k hk hm => by have := (lx0 k hm).2; have := lg k hk; omega)
  clear hf ox0
  have hcl0 := Mk.le l0
  have hk0 : ¬ 1 + ((Mk.cnt l0 : Nat) : Int) < 0 := by omega
  go_wp2_with fail
  refine (cb (b := true) (eqAssertionS_rl _ _ D D _ og.read ru0) (by simp)).mono ?_
  rintro e w1 ⟨rfl, hb⟩
  replace hW := bt hW hb
  replace ru0 := ru0.keep hb
  replace og := og.keep hb
  go_wp2_with fail
  refine (markAssertionS_rl s1 _ D fg 1 _ og ng (by omega) (by omega) hsD).mono ?_
  rintro e w1 ⟨rfl, om, hf⟩
  replace hW := hW.trans (hf.below hW.size fun k hk hm => by have := lg k hm; have := hle; omega)
  replace ru0 := ru0.kept hf (fun k _ h hm => by have := lg k hm; have h2 : k < s0 := h; omega)
  clear hf og
  have hcD := Mk.le D
  have hk1 : ¬ 1 + ((Mk.cnt D : Nat) : Int) < 0 := by omega
  go_wp2_with fail
  refine (heldAssertionS_rl _ D 1 _ om.read (by omega) (by omega) hsD).mono ?_
  rintro e w1 ⟨rfl, hb⟩
  replace hW := bt hW hb
  replace ru0 := ru0.keep hb
  replace om := om.keep hb
  go_wp2_with fail
  refine (toAssertionS_rl _ l0 _ (h0.keep hW) hs0).mono ?_
  rintro e w1 ⟨y0, rfl, oy0, hb⟩
  replace hW := bt hW hb
  replace ru0 := ru0.keep hb
  replace om := om.keep hb
  obtain ⟨ya0, yc0, rfl⟩ := oy0.form
  go_wp2_with fail
  refine (familyTrimI_any _ l0 _ oy0.read).mono ?_
  rw [← HD.out.1, ← HD.out.2]; rintro e w1 ⟨q0, rfl, oq, hb⟩
  replace hW := bt hW hb
  replace ru0 := ru0.keep hb
  replace om := om.keep hb
  replace oy0 := oy0.keep hb
  obtain ⟨qa0, qc0, rfl⟩ := oq.form
  clear oy0
  go_wp2_with fail
  refine (cb (b := true) (eqAssertionS_rl _ _ D D _ oq.read ru0) (by simp)).mono ?_
  rintro e w1 ⟨rfl, hb⟩
  replace hW := bt hW hb
  replace ru0 := ru0.keep hb
  replace om := om.keep hb
  replace oq := oq.keep hb
  go_wp2_with fail
  refine (heldAssertionS_rl _ D 1 _ om.read (by omega) (by omega) hsD).mono ?_
  rintro e w1 ⟨rfl, hb⟩
  replace hW := bt hW hb
  replace om := om.keep hb
  go_wp2
  go_ret
  exact ⟨rfl, hW⟩
end Go.Proofs.Ytapoillhgimdiaa
