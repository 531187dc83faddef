/- Walks: facts that hold for values. -/
import Derived.Test.YtapoillhgimdiaaTData3
namespace Go.Proofs.Ytapoillhgimdiaa
open Go.RowKit

/-- A fact holds for values. -/
def factT (vl : List Int) (f : Fact) : Bool := (tv vl f.2.1 == tv vl f.2.2) == f.1
theorem cbI {P : Program} {f : FuncId} {args : Array Value} {w : World} {T b : Int} {R : World → Prop} (h : Calls P f args w fun e w' => e = .returned (.int .i64 T) ∧ R w') (e : T = b) :
    Calls P f args w fun e w' => e = .returned (.int .i64 b) ∧ R w' := by subst e; exact h
theorem factB_le {f : Fact} (h : factB f = true) : 0 ≤ f.2.1 ∧ f.2.1 ≤ 8 ∧ 0 ≤ f.2.2 ∧ f.2.2 ≤ 8 := by
  simp [factB, isTermB] at h; omega
theorem factsB_all {l : List Fact} (h : factsB l = true) : l.all factB = true := by
  simp only [factsB, Bool.and_eq_true] at h; exact h.2
theorem all_of {α : Type} [Dat α] {p : α → Bool} {l : List α} (h : l.all p = true) (k : Nat) (hk : k < l.length) : p (gd l k) = true := by
  rw [List.all_eq_true] at h
  have e : gd l k = l[k] := by simp [gd, hk]
  rw [e]; exact h _ (List.getElem_mem hk)


set_option maxRecDepth 100000 in
set_option maxHeartbeats 3200000 in
theorem factsHoldI_any {S : Nat → Prop} (v vs : Value) (l : List Fact) (vl : List Int) (w : World) (h : RL w S v l) (hv : RInts w vs vl) :
    Calls Try.prog 212 #[v, vs] w fun e w' => e = .returned (.bool (factsB l && ((vl.length == 8) && l.all (factT vl)))) ∧ Below w.heap.size w w' := by
  have hm := h.len
  have hmv := hv.len
  unfold maxLen at hm hmv
  have hR := Lib.hid h
  obtain ⟨a, c, rfl, _, _, hf⟩ := h.factAt
  have F1 := Lib.hid hf
  clear hf h
  obtain ⟨va, vc, rfl⟩ := hv.form
  cases hfb : factsB l
  · have HFB := Lib.hid hfb
    clear hfb
    go_enter Try.func212, Try.ntmps212
    go_wp2_with fail
    refine (cb (factsValidI_any _ l _ hR.out) HFB.out).mono ?_
    rintro e w2 ⟨rfl, hb2⟩
    go_wp2
    go_ret
    exact ⟨rfl, hb2⟩
  have HFB := Lib.hid hfb
  clear hfb
  by_cases hl8 : vl.length = 8
  rotate_left
  · have hne : ((vl.length : Int) != 8) = true := by simp; omega
    have HR := Lib.hid (show (vl.length == 8) = false by simpa using hl8)
    clear hl8
    go_enter Try.func212, Try.ntmps212
    go_wp2_with fail
    refine (cb (factsValidI_any _ l _ hR.out) HFB.out).mono ?_
    rintro e w2 ⟨rfl, hb2⟩
    go_wp2
    go_ret
    exact ⟨by rw [HR.out]; rfl, hb2⟩
  have HL := Lib.hid hl8
  have hne : ((vl.length : Int) != 8) = false := by simp; omega
  clear hl8
  go_enter Try.func212, Try.ntmps212
  go_wp2_with fail
  refine (cb (factsValidI_any _ l _ hR.out) HFB.out).mono ?_
  rintro e w2 ⟨rfl, hbv⟩
  go_wp2
  have hall := all_of (factsB_all HFB.out)
  have HB := Lib.hid hall
  clear hall
  go_loopg [17] l.length (fun q i wr => ∃ k : Nat, k + q = l.length ∧ i = .int .i64 k ∧ (l.take k).all (factT vl) = true ∧ Below w.heap.size w wr)
  case atStart => exact ⟨0, by omega, rfl, by simp, hbv⟩
  case round =>
    obtain ⟨k, hk, rfl, ht, hb⟩ := hrel
    have HK := Lib.hid hk
    have HT := Lib.hid ht
    clear hk ht
    by_cases hk8 : k < l.length
    · obtain ⟨b1, o1, rfl, _, hbl1, hp1, hp2, hp3⟩ := F1.out k hk8
      replace hp1 := cell_keep hb hp1; replace hp2 := cell_keep hb hp2; replace hp3 := cell_keep hb hp3
      have hs := hb.size
      have i1 : (k : Int) < (l.length : Int) := by omega
      have hzb : b1 < wr.heap.size := by omega
      have hok := HB.out k hk8
      obtain ⟨t1, t2, t3, t4⟩ := factB_le hok
      clear hok
      obtain ⟨xx, hxx⟩ : ∃ x, tv vl (gd l k).2.1 = x := ⟨_, rfl⟩
      obtain ⟨yy, hyy⟩ : ∃ x, tv vl (gd l k).2.2 = x := ⟨_, rfl⟩
      obtain ⟨eb, heb⟩ : ∃ b, (xx == yy) = b := ⟨_, rfl⟩
      obtain ⟨fb, hfb⟩ : ∃ b, (gd l k).1 = b := ⟨_, rfl⟩
      rw [hfb] at hp1
      have hft : factT vl (gd l k) = (eb == fb) := by rw [factT, hxx, hyy, heb, hfb]
      have HX := Lib.hid hxx
      have HY := Lib.hid hyy
      clear hxx hyy hfb
      have HFT := Lib.hid hft
      clear hft
      cases eb with
      | true =>
        cases fb with
        | true =>
          have HP := Lib.hid (show factT vl (gd l k) = true by rw [HFT.out]; rfl)
          clear HFT
          go_wp2
          have hz : w.heap.size ≤ wr.heap.size := hs
          refine wp_region_ext (by kernel_rfl) (by kernel_rfl) ?_
          repeat (go_big_quiet_step ((go_at_call 218; first
            | exact ext_same (cbI (termValue_any _ vl _ _ ((hv.keep Bl).ext _) (by omega) (by rw [HL.out]; omega)) HX.out)
            | exact ext_same (cbI (termValue_any _ vl _ _ ((hv.keep Bl).ext _) (by omega) (by rw [HL.out]; omega)) HY.out))))
          refine wpQuiet_nil ?_
          intro w5 hb5
          go_wp2
          go_roundg (gk - 1)
          case rel => exact ⟨k + 1, by have := HK.out; omega, by go_num, all_take_yes hk8 HT.out HP.out, bt Bl hb5⟩
          case measure => have := HK.out; omega
        | false =>
          have HF := Lib.hid (show ((vl.length == 8) && l.all (factT vl)) = false by rw [all_no hk8 (show factT vl (gd l k) = false by rw [HFT.out]; rfl)] <;> simp)
          clear HFT
          go_wp2
          have hz : w.heap.size ≤ wr.heap.size := hs
          refine wp_region_ext (by kernel_rfl) (by kernel_rfl) ?_
          repeat (go_big_quiet_step ((go_at_call 218; first
            | exact ext_same (cbI (termValue_any _ vl _ _ ((hv.keep Bl).ext _) (by omega) (by rw [HL.out]; omega)) HX.out)
            | exact ext_same (cbI (termValue_any _ vl _ _ ((hv.keep Bl).ext _) (by omega) (by rw [HL.out]; omega)) HY.out))))
          refine wpQuiet_nil ?_
          intro w5 hb5
          go_wp2
          go_ret
          exact ⟨by rw [HF.out]; rfl, bt Bl hb5⟩
      | false =>
        cases fb with
        | true =>
          have HF := Lib.hid (show ((vl.length == 8) && l.all (factT vl)) = false by rw [all_no hk8 (show factT vl (gd l k) = false by rw [HFT.out]; rfl)] <;> simp)
          clear HFT
          go_wp2
          have hz : w.heap.size ≤ wr.heap.size := hs
          refine wp_region_ext (by kernel_rfl) (by kernel_rfl) ?_
          repeat (go_big_quiet_step ((go_at_call 218; first
            | exact ext_same (cbI (termValue_any _ vl _ _ ((hv.keep Bl).ext _) (by omega) (by rw [HL.out]; omega)) HX.out)
            | exact ext_same (cbI (termValue_any _ vl _ _ ((hv.keep Bl).ext _) (by omega) (by rw [HL.out]; omega)) HY.out))))
          refine wpQuiet_nil ?_
          intro w5 hb5
          go_wp2
          go_ret
          exact ⟨by rw [HF.out]; rfl, bt Bl hb5⟩
        | false =>
          have HP := Lib.hid (show factT vl (gd l k) = true by rw [HFT.out]; rfl)
          clear HFT
          go_wp2
          have hz : w.heap.size ≤ wr.heap.size := hs
          refine wp_region_ext (by kernel_rfl) (by kernel_rfl) ?_
          repeat (go_big_quiet_step ((go_at_call 218; first
            | exact ext_same (cbI (termValue_any _ vl _ _ ((hv.keep Bl).ext _) (by omega) (by rw [HL.out]; omega)) HX.out)
            | exact ext_same (cbI (termValue_any _ vl _ _ ((hv.keep Bl).ext _) (by omega) (by rw [HL.out]; omega)) HY.out))))
          refine wpQuiet_nil ?_
          intro w5 hb5
          go_wp2
          go_roundg (gk - 1)
          case rel => exact ⟨k + 1, by have := HK.out; omega, by go_num, all_take_yes hk8 HT.out HP.out, bt Bl hb5⟩
          case measure => have := HK.out; omega
    · obtain rfl : k = l.length := by have := HK.out; omega
      have hall := all_end HT.out
      have HA := Lib.hid hall
      clear hall HT
      go_wp2
      go_ret
      exact ⟨by rw [show (vl.length == 8) = true by rw [HL.out]; rfl, HA.out]; rfl, hb⟩

end Go.Proofs.Ytapoillhgimdiaa
