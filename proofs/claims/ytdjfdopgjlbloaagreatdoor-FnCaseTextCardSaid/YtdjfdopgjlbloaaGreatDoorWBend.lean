/- Walks: a text that is sometimes changed (the reference's l1Bend). -/
import Derived.Test.YtdjfdopgjlbloaaGreatDoorWPrsP
import Derived.Test.YtdjfdopgjlbloaaGreatDoorWDraw1
import Derived.Deep.RegionHeld3
import Derived.Handy
set_option linter.unusedSimpArgs false
namespace Go.Proofs.YtdjfdopgjlbloaaGreatDoor
open Go.RowKit

/-- A literal of texts. -/
def RStrs (w : World) (g : Nat) (l : List (List UInt8)) : Prop := ∀ i, i < l.length → w.cell? ⟨g, i, none⟩ = some (.string (btx (gd l i)))
theorem RStrs.keep {w w' : World} {g : Nat} {l : List (List UInt8)} (h : RStrs w g l) (hb : Below w.heap.size w w') : RStrs w' g l := fun i hi => cell_keep hb (h i hi)
theorem RStrs.kept {w w' : World} {g : Nat} {l : List (List UInt8)} {S : Nat → Prop} (h : RStrs w g l) (hf : Fr S w w') (hg : ¬ S g) : RStrs w' g l := fun i hi => hf.cell hg (h i hi)
set_option maxHeartbeats 400000 in
theorem of_any (g q b m cap : Nat) (l : List (List UInt8)) (w : World) (h : Rdr w g q) (hq : q ≤ 1073741824) (hm : l.length = m) (h0 : 0 < m) (h1 : m ≤ 1048576) (hb : ¬ b = g) (hc : RStrs w b l) :
    Calls Tryz.prog 45 #[.pointer (some ⟨g, 0, none⟩), .slice (some ⟨b, 0, none⟩) m cap] w fun e w' => ∃ x, x ∈ l ∧ e = .returned (.string (btx x)) ∧ Rdr w' g (q + 1) ∧ Fr (fun j => j = g) w w' := by
  have HC := Lib.hid hc
  have HM0 := Lib.hid hm
  clear hc hm
  go_enter Tryz.func45, Tryz.ntmps45
  go_wp2_with fail
  refine (pick_any g q _ _ h hq (by omega) (by omega)).mono ?_
  rintro e w' ⟨k, rfl, hk, hr, hf⟩
  have hck := HC.out.kept hf (by simpa using hb) k (by have := HM0.out; omega)
  have hmem : gd l k ∈ l := gd_mem (by have := HM0.out; omega)
  have HM := Lib.hid hmem
  clear hmem
  go_wp2
  go_ret
  exact ⟨gd l k, HM.out, rfl, hr, hf⟩
attribute [local go_sem] btx_extract btx_app
set_option maxRecDepth 100000 in
set_option maxHeartbeats 3200000 in
theorem bend_any (g q b m cap : Nat) (t : List UInt8) (l : List (List UInt8)) (w : World) (h : Rdr w g q) (hq : q ≤ 1000000) (ht : t.length ≤ 1048576) (hm : l.length = m) (h0 : 0 < m) (h1 : m ≤ 1048576) (hb : ¬ b = g) (hc : RStrs w b l) (hl : ∀ x ∈ l, x.length ≤ 16) :
    Calls Tryz.prog 25 #[.pointer (some ⟨g, 0, none⟩), .string (btx t), .slice (some ⟨b, 0, none⟩) m cap] w fun e w' => ∃ t', e = .returned (.string (btx t')) ∧ t'.length ≤ t.length + 16 ∧ Rdr w' g (q + 4) ∧ Fr (fun j => j = g) w w' := by
  obtain ⟨n, hn⟩ : ∃ n, t.length = n := ⟨_, rfl⟩
  have hsz : (btx t).size = n := hn
  rw [hn] at ht
  have HN := Lib.hid hn
  have HC := Lib.hid hc
  have HL := Lib.hid hl
  have HM0 := Lib.hid hm
  clear hn hc hl hm
  by_cases hn0 : n = 0
  · have i0 : ((n : Int) == 0) = true := beq_iff_eq.2 (by omega)
    clear hn0
    go_enter Tryz.func25, Tryz.ntmps25
    go_wp2
    go_ret
    exact ⟨t, rfl, by omega, h.more (by omega), Fr.refl _ _⟩
  have i0 : ((n : Int) == 0) = false := beq_eq_false_iff_ne.2 (by omega)
  have hn1 : 1 ≤ n := by omega
  clear hn0
  go_enter Tryz.func25, Tryz.ntmps25
  go_wp2_with fail
  refine (pick_any g q 2 _ h (by omega) (by decide) (by decide)).mono ?_
  rintro e w1 ⟨k0, rfl, hk0, hr1, hf1⟩
  by_cases hk : k0 = 0
  · have i1 : ((k0 : Int) == 0) = true := beq_iff_eq.2 (by omega)
    clear hk
    go_wp2
    go_ret
    exact ⟨t, rfl, by omega, hr1.more (by omega), hf1⟩
  have i1 : ((k0 : Int) == 0) = false := beq_eq_false_iff_ne.2 (by omega)
  clear hk
  go_wp2_with fail
  refine (pick_any g (q + 1) _ _ hr1 (by omega) (by omega) (by omega)).mono ?_
  rintro e w2 ⟨k, rfl, hk2, hr2, hf2⟩
  have HC2 := Lib.hid ((HC.out.kept hf1 (by simpa using hb)).kept hf2 (by simpa using hb))
  have HF2 := Lib.hid (hf1.trans hf2)
  have hkn : k < n := by omega
  have hkn2 : (k : Int) ≤ (n : Int) := by omega
  obtain ⟨p1, hp1⟩ : ∃ p, piece t 0 k = p := ⟨_, rfl⟩
  obtain ⟨a1, ha1⟩ : ∃ a, p1.length = a := ⟨_, rfl⟩
  have hs1 : (btx p1).size = a1 := ha1
  have hle1 : a1 ≤ k := by rw [← ha1, ← hp1, piece, List.drop_zero, List.length_take]; omega
  have HP1 := Lib.hid ha1
  clear ha1 hk2 i1 i0
  go_wp2
  go_region_held3 (fun w' => True)
    (trivial)
    (first
      | (go_at_call 45; go_must (refine (of_any g (q + 1 + 1) b m cap l _ (hr2.keep Bl) (by omega) HM0.out h0 h1 hb (HC2.out.keep Bl)).mono ?_; rintro e w3 ⟨x, hx, rfl, hr3, hf3'⟩; have hf3 : Fr (fun j => j = g) w2 w3 := ((Below.fr (by first | exact below_drew _ | exact Below.refl _ _)).mono fun _ _ h => h.elim).trans hf3'; have hxl := HL.out x hx; obtain ⟨c1, hc1⟩ : ∃ c, x.length = c := ⟨_, rfl⟩; rw [hc1] at hxl; have hs2 : (btx x).size = c1 := hc1; have s1 : (9223372036854775807 < a1 + c1) = False := (by simp; omega); have hs3 : (btx (p1 ++ x)).size = a1 + c1 := (by rw [btx_size, List.length_append, hc1]; exact congrArg (· + c1) HP1.out); have HXL := Lib.hid hc1; clear hc1))
      | (go_at_call 40; go_must (refine (pick_any g (q + 1 + 1 + 1) 2 _ (hr3.keep Bl) (by omega) (by decide) (by decide)).mono ?_; rintro e w4 ⟨p, rfl, hp, hr4, hf4'⟩; have hkp : (k : Int) + (p : Int) ≤ (n : Int) := (by omega); have hkn3 : k + p ≤ n := (by omega); have hwr : IntKind.i64.wrap ((k : Int) + (p : Int)) = (k : Int) + (p : Int) := (IntKind.wrap_i64 _).trans (by omega); have hkp0 : (0 : Int) ≤ (k : Int) + (p : Int) := (by omega); obtain ⟨d1, hd1⟩ : ∃ d, (piece t (k + p) n).length = d := ⟨_, rfl⟩; have hs4 : (btx (piece t (k + p) n)).size = d1 := hd1; have htn : ((k : Int) + (p : Int)).toNat = k + p := (by omega); have hld : d1 + k ≤ n := (by rw [← hd1, piece, List.length_drop, List.length_take]; omega); have s2 : (9223372036854775807 < a1 + c1 + d1) = False := (by simp; omega); have HP2 := Lib.hid hd1; clear hd1; have hf4 : Fr (fun j => j = g) w3 w4 := ((Below.fr (by first | exact below_drew _ | exact Below.refl _ _)).mono fun _ _ h => h.elim).trans hf4')))
  all_goals
    go_wp2
    go_ret
    refine ⟨p1 ++ (x ++ piece t (k + p) n), rfl, ?_, hr4.more (by omega), (HF2.out.trans hf3).trans hf4⟩
    have e1 := HP1.out
    have e2 := HXL.out
    have e3 := HP2.out
    have e4 := HN.out
    rw [List.length_append, List.length_append]; omega
end Go.Proofs.YtdjfdopgjlbloaaGreatDoor
