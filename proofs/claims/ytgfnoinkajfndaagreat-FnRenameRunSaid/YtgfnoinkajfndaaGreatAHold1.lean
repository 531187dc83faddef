/- Walks: which commands are right (reference: l8Prog, l8NoFact, l8NoInv). -/
import Derived.Test.YtgfnoinkajfndaaGreatACmd2
import Derived.Test.YtgfnoinkajfndaaGreatAData3
import Derived.Handy
set_option linter.unusedVariables false
set_option linter.unusedSimpArgs false
namespace Go.Proofs.YtgfnoinkajfndaaGreat
open Go.RowKit

/-- A program variable. -/
def progB (n : Int) : Bool := decide (1 ≤ n) && decide (n ≤ 4)
/-- No fact. -/
def nofB (f : Fact) : Bool := !f.1 && (decide (f.2.1 = 0) && decide (f.2.2 = 0))
/-- No invariant. -/
def noinvB (a : InvA) : Bool := decide (a.1.length = 0) && decide (a.2.length = 0)
/-- A command without blocks. -/
def basicB {d : Nat} (c : Cm (d + 1)) : Bool :=
  nofB c.test && (noinvB c.inv && (decide (c.body.length = 0) && (decide (c.els.length = 0) &&
    (((decide (c.kind = 1) || decide (c.kind = 2)) && (progB c.a && isTermB c.b)) ||
      ((decide (c.kind = 3) && (isTermB c.a && isTermB c.b)) ||
        ((decide (c.kind = 4) && (progB c.a && decide (c.b = 0))) || (decide (c.kind = 5) && (isTermB c.a && decide (c.b = 0)))))))))
set_option maxHeartbeats 400000 in
theorem l8Prog_any (n : Int) (w : World) :
    Calls Tryz.prog 93 #[.int .i64 n] w fun e w' => e = .returned (.bool (progB n)) ∧ w = w' := by
  by_cases h1 : 1 ≤ n
  · by_cases h2 : n ≤ 4
    all_goals
      go_enter Tryz.func93, Tryz.ntmps93
      go_wp2
      go_ret
      simp [progB, h1, h2]
  · go_enter Tryz.func93, Tryz.ntmps93
    go_wp2
    go_ret
    simp [progB]; omega
set_option maxHeartbeats 400000 in
theorem l8NoInv_any {S1 S2 : Nat → Prop} (v1 v2 : Value) (a : InvA) (w : World) (h1 : RL w S1 v1 a.1) (h2 : RL w S2 v2 a.2) :
    Calls Tryz.prog 136 #[.agg #[v1, v2]] w fun e w' => e = .returned (.bool (noinvB a)) ∧ Below w.heap.size w w' := by
  obtain ⟨a1, c1, rfl⟩ := h1.form
  obtain ⟨a2, c2, rfl⟩ := h2.form
  have hm1 : a.1.length ≤ maxLen := by have := h1.len; omega
  have hm2 : a.2.length ≤ maxLen := by have := h2.len; omega
  by_cases e1 : a.1.length = 0
  · by_cases e2 : a.2.length = 0
    all_goals
      go_enter Tryz.func136, Tryz.ntmps136
      go_wp2
      go_ret
      exact ⟨by simp [noinvB, e1, e2], below_alloc _ _⟩
  · go_enter Tryz.func136, Tryz.ntmps136
    go_wp2
    go_ret
    exact ⟨by simp [noinvB, e1], below_alloc _ _⟩
set_option maxHeartbeats 400000 in
theorem l8NoFact_any (f : Fact) (w : World) :
    Calls Tryz.prog 164 #[.agg #[.bool f.1, .int .i64 f.2.1, .int .i64 f.2.2]] w fun e w' => e = .returned (.bool (nofB f)) ∧ Below w.heap.size w w' := by
  go_enter Tryz.func164, Tryz.ntmps164
  go_wp2
  all_goals
    go_ret
    refine ⟨?_, below_alloc _ _⟩
    simp [nofB, *]
end Go.Proofs.YtgfnoinkajfndaaGreat
/- Walks: which commands without blocks are right (reference: l8Basic). -/
set_option linter.unusedVariables false
set_option linter.unusedSimpArgs false
namespace Go.Proofs.YtgfnoinkajfndaaGreat
open Go.RowKit

set_option maxRecDepth 100000 in
set_option maxHeartbeats 3200000 in
theorem l8Basic_any {d : Nat} {S1 S2 S3 S4 : Nat → Prop} (c : Cm (d + 1)) (f1 f2 x y : Value) (w : World) (h1 : RL w S1 f1 c.inv.1) (h2 : RL w S2 f2 c.inv.2) (h3 : RL w S3 x c.body) (h4 : RL w S4 y c.els) :
    Calls Tryz.prog 137 #[.agg #[.int .i64 c.kind, .int .i64 c.a, .int .i64 c.b, .bool c.test.1, .int .i64 c.test.2.1, .int .i64 c.test.2.2, f1, f2, x, y]] w fun e w' => e = .returned (.bool (basicB c)) ∧ Below w.heap.size w w' := by
  obtain ⟨a1, c1, rfl⟩ := h1.form
  obtain ⟨a2, c2, rfl⟩ := h2.form
  obtain ⟨a3, c3, rfl⟩ := h3.form
  obtain ⟨a4, c4, rfl⟩ := h4.form
  have hm3 : c.body.length ≤ maxLen := by have := h3.len; omega
  have hm4 : c.els.length ≤ maxLen := by have := h4.len; omega
  have HR1 := Lib.hid h1
  have HR2 := Lib.hid h2
  clear h1 h2 h3 h4
  go_enter Tryz.func137, Tryz.ntmps137
  go_wp2_with fail
  refine (l8NoFact_any c.test _).mono ?_
  rintro e w1 ⟨rfl, hb1⟩
  cases e1 : nofB c.test
  · go_wp2
    go_ret
    exact ⟨by simp [basicB, e1], bt (below_alloc _ _) (by simpa using hb1)⟩
  · have hp := box_keep (heap_alloc_new w (.cells #[.int .i64 c.kind, .int .i64 c.a, .int .i64 c.b, .bool c.test.1, .int .i64 c.test.2.1, .int .i64 c.test.2.2, .slice a1 c.inv.1.length c1, .slice a2 c.inv.2.length c2, .slice a3 c.body.length c3, .slice a4 c.els.length c4] 77)) hb1
    have HP := Lib.hid hp
    have p0 := cell_of_row _ _ 0 _ _ _ hp
    have p1 := cell_of_row _ _ 1 _ _ _ hp
    have p2 := cell_of_row _ _ 2 _ _ _ hp
    have p3 := cell_of_row _ _ 3 _ _ _ hp
    have p4 := cell_of_row _ _ 4 _ _ _ hp
    have p5 := cell_of_row _ _ 5 _ _ _ hp
    have p6 := cell_of_row _ _ 6 _ _ _ hp
    have p7 := cell_of_row _ _ 7 _ _ _ hp
    have p8 := cell_of_row _ _ 8 _ _ _ hp
    have p9 := cell_of_row _ _ 9 _ _ _ hp
    go_wp2_with fail
    refine (l8NoInv_any (.slice a1 c.inv.1.length c1) (.slice a2 c.inv.2.length c2) c.inv _ ((HR1.out.keep (below_alloc _ _)).keep hb1) ((HR2.out.keep (below_alloc _ _)).keep hb1)).mono ?_
    rintro e w2 ⟨rfl, hb2⟩
    have hB2 := bt (below_alloc w (.cells #[.int .i64 c.kind, .int .i64 c.a, .int .i64 c.b, .bool c.test.1, .int .i64 c.test.2.1, .int .i64 c.test.2.2, .slice a1 c.inv.1.length c1, .slice a2 c.inv.2.length c2, .slice a3 c.body.length c3, .slice a4 c.els.length c4] 77)) (bt hb1 hb2)
    have hq := box_keep hp hb2
    have q0 := cell_of_row _ _ 0 _ _ _ hq
    have q1 := cell_of_row _ _ 1 _ _ _ hq
    have q2 := cell_of_row _ _ 2 _ _ _ hq
    have q3 := cell_of_row _ _ 3 _ _ _ hq
    have q4 := cell_of_row _ _ 4 _ _ _ hq
    have q5 := cell_of_row _ _ 5 _ _ _ hq
    have q6 := cell_of_row _ _ 6 _ _ _ hq
    have q7 := cell_of_row _ _ 7 _ _ _ hq
    have q8 := cell_of_row _ _ 8 _ _ _ hq
    have q9 := cell_of_row _ _ 9 _ _ _ hq
    clear p0 p1 p2 p3 p4 p5 p6 p7 p8 p9 hp hb1 hb2
    have HB := Lib.hid hB2
    clear hB2 hm3 hm4
    cases e2 : noinvB c.inv
    · go_wp2
      go_ret
      exact ⟨by simp [basicB, e2], HB.out⟩
    · by_cases k3 : c.body.length = 0
      · by_cases k4 : c.els.length = 0
        · have b3 : c.body = [] := List.length_eq_zero_iff.1 k3
          have b4 : c.els = [] := List.length_eq_zero_iff.1 k4
          by_cases z1 : c.kind = 1
          · have y1 : (c.kind == 1) = true := by simp [z1]
            go_wp2_with fail
            refine (l8Prog_any c.a _).mono ?_
            rintro e w3 ⟨rfl, rfl⟩
            cases e3 : progB c.a
            · go_wp2
              go_ret
              exact ⟨by simp [basicB, e1, e2, e3, b3, b4, z1], HB.out⟩
            · go_wp2_with fail
              refine (l1Is_any c.b _).mono ?_
              rintro e w4 ⟨rfl, rfl⟩
              go_wp2
              go_ret
              exact ⟨by simp [basicB, e1, e2, e3, b3, b4, z1], HB.out⟩
          have y1 : (c.kind == 1) = false := by simp [z1]
          by_cases z2 : c.kind = 2
          · have y2 : (c.kind == 2) = true := by simp [z2]
            go_wp2_with fail
            refine (l8Prog_any c.a _).mono ?_
            rintro e w3 ⟨rfl, rfl⟩
            cases e3 : progB c.a
            · go_wp2
              go_ret
              exact ⟨by simp [basicB, e1, e2, e3, b3, b4, z2], HB.out⟩
            · go_wp2_with fail
              refine (l1Is_any c.b _).mono ?_
              rintro e w4 ⟨rfl, rfl⟩
              go_wp2
              go_ret
              exact ⟨by simp [basicB, e1, e2, e3, b3, b4, z2], HB.out⟩
          have y2 : (c.kind == 2) = false := by simp [z2]
          by_cases z3 : c.kind = 3
          · have y3 : (c.kind == 3) = true := by simp [z3]
            go_wp2_with fail
            refine (l1Is_any c.a _).mono ?_
            rintro e w3 ⟨rfl, rfl⟩
            cases e3 : isTermB c.a
            · go_wp2
              go_ret
              exact ⟨by simp [basicB, e1, e2, e3, b3, b4, z3], HB.out⟩
            · go_wp2_with fail
              refine (l1Is_any c.b _).mono ?_
              rintro e w4 ⟨rfl, rfl⟩
              go_wp2
              go_ret
              exact ⟨by simp [basicB, e1, e2, e3, b3, b4, z3], HB.out⟩
          have y3 : (c.kind == 3) = false := by simp [z3]
          by_cases z4 : c.kind = 4
          · have y4 : (c.kind == 4) = true := by simp [z4]
            go_wp2_with fail
            refine (l8Prog_any c.a _).mono ?_
            rintro e w3 ⟨rfl, rfl⟩
            cases e3 : progB c.a
            · go_wp2
              go_ret
              exact ⟨by simp [basicB, e1, e2, e3, b3, b4, z4], HB.out⟩
            · go_wp2
              all_goals
                go_ret
                exact ⟨by simp [basicB, e1, e2, e3, b3, b4, z4]; rfl, HB.out⟩
          have y4 : (c.kind == 4) = false := by simp [z4]
          by_cases z5 : c.kind = 5
          · have y5 : (c.kind == 5) = true := by simp [z5]
            go_wp2_with fail
            refine (l1Is_any c.a _).mono ?_
            rintro e w3 ⟨rfl, rfl⟩
            cases e3 : isTermB c.a
            · go_wp2
              go_ret
              exact ⟨by simp [basicB, e1, e2, e3, b3, b4, z5], HB.out⟩
            · go_wp2
              all_goals
                go_ret
                exact ⟨by simp [basicB, e1, e2, e3, b3, b4, z5]; rfl, HB.out⟩
          have y5 : (c.kind == 5) = false := by simp [z5]
          go_wp2
          go_ret
          exact ⟨by simp [basicB, z1, z2, z3, z4, z5], HB.out⟩
        · go_wp2
          go_ret
          exact ⟨by simp [basicB, show ¬ c.els = [] from fun h => k4 (by rw [h]; rfl)], HB.out⟩
      · go_wp2
        go_ret
        exact ⟨by simp [basicB, show ¬ c.body = [] from fun h => k3 (by rw [h]; rfl)], HB.out⟩
end Go.Proofs.YtgfnoinkajfndaaGreat
/- Walks: facts that hold for values. -/
namespace Go.Proofs.YtgfnoinkajfndaaGreat
open Go.RowKit

/-- A fact holds for values. -/
def factT (vl : List Int) (f : Fact) : Bool := (tv vl f.2.1 == tv vl f.2.2) == f.1
theorem cbI {P : Program} {f : FuncId} {args : Array Value} {w : World} {T b : Int} {R : World → Prop} (h : Calls P f args w fun e w' => e = .returned (.int .i64 T) ∧ R w') (e : T = b) :
    Calls P f args w fun e w' => e = .returned (.int .i64 b) ∧ R w' := by subst e; exact h
theorem factB_le {f : Fact} (h : factB f = true) : 0 ≤ f.2.1 ∧ f.2.1 ≤ 8 ∧ 0 ≤ f.2.2 ∧ f.2.2 ≤ 8 := by
  simp [factB, isTermB] at h; omega
theorem factsB_all {l : List Fact} (h : factsB l = true) : l.all factB = true := by
  simp only [factsB, Bool.and_eq_true] at h; exact h.2
theorem all_of {α : Type} [Dat α] {p : α → Bool} {l : List α} (h : l.all p = true) (k : Nat) (hk : k < l.length) : p (gd l k) = true := by
  rw [List.all_eq_true] at h
  have e : gd l k = l[k] := by simp [gd, hk]
  rw [e]; exact h _ (List.getElem_mem hk)



set_option maxRecDepth 100000 in
set_option maxHeartbeats 3200000 in
theorem l1Hold_any {S : Nat → Prop} (v vs : Value) (l : List Fact) (vl : List Int) (w : World) (h : RL w S v l) (hv : RInts w vs vl) (hfb : factsB l = true) (hl8 : vl.length = 8) :
    Calls Tryz.prog 72 #[v, vs] w fun e w' => e = .returned (.bool (l.all (factT vl))) ∧ Below w.heap.size w w' := by
  have hm := h.len
  have hmv := hv.len
  unfold maxLen at hm hmv
  have hR := Lib.hid h
  obtain ⟨a, c, rfl, _, _, hf⟩ := h.factAt
  have F1 := Lib.hid hf
  clear hf h
  obtain ⟨va, vc, rfl⟩ := hv.form
  have HFB := Lib.hid hfb
  have HL := Lib.hid hl8
  clear hfb hl8
  go_enter Tryz.func72, Tryz.ntmps72
  go_wp2
  have hall := all_of (factsB_all HFB.out)
  have HB := Lib.hid hall
  clear hall
  go_loopg [5] l.length (fun q i wr => ∃ k : Nat, k + q = l.length ∧ i = .int .i64 k ∧ (l.take k).all (factT vl) = true ∧ Below w.heap.size w wr)
  case atStart => exact ⟨0, by omega, rfl, by simp, Below.refl _ _⟩
  case round =>
    obtain ⟨k, hk, rfl, ht, hb⟩ := hrel
    have HK := Lib.hid hk
    have HT := Lib.hid ht
    clear hk ht
    by_cases hk8 : k < l.length
    · obtain ⟨b1, o1, rfl, _, hbl1, hp1, hp2, hp3⟩ := F1.out k hk8
      replace hp1 := cell_keep hb hp1; replace hp2 := cell_keep hb hp2; replace hp3 := cell_keep hb hp3
      have hs := hb.size
      have i1 : (k : Int) < (l.length : Int) := by omega
      have hzb : b1 < wr.heap.size := by omega
      have hok := HB.out k hk8
      obtain ⟨t1, t2, t3, t4⟩ := factB_le hok
      clear hok
      obtain ⟨xx, hxx⟩ : ∃ x, tv vl (gd l k).2.1 = x := ⟨_, rfl⟩
      obtain ⟨yy, hyy⟩ : ∃ x, tv vl (gd l k).2.2 = x := ⟨_, rfl⟩
      obtain ⟨eb, heb⟩ : ∃ b, (xx == yy) = b := ⟨_, rfl⟩
      obtain ⟨fb, hfb⟩ : ∃ b, (gd l k).1 = b := ⟨_, rfl⟩
      rw [hfb] at hp1
      have hft : factT vl (gd l k) = (eb == fb) := by rw [factT, hxx, hyy, heb, hfb]
      have HX := Lib.hid hxx
      have HY := Lib.hid hyy
      clear hxx hyy hfb
      have HFT := Lib.hid hft
      clear hft
      cases eb with
      | true =>
        cases fb with
        | true =>
          have HP := Lib.hid (show factT vl (gd l k) = true by rw [HFT.out]; rfl)
          clear HFT
          go_wp2
          have hz : w.heap.size ≤ wr.heap.size := hs
          refine wp_region_ext (by kernel_rfl) (by kernel_rfl) ?_
          repeat (go_big_quiet_step ((go_at_call 110; first
            | exact ext_same (cbI (l1Value_any _ vl _ _ ((hv.keep Bl).ext _) (by omega) (by rw [HL.out]; omega)) HX.out)
            | exact ext_same (cbI (l1Value_any _ vl _ _ ((hv.keep Bl).ext _) (by omega) (by rw [HL.out]; omega)) HY.out))))
          refine wpQuiet_nil ?_
          intro w5 hb5
          go_wp2
          go_roundg (gk - 1)
          case rel => exact ⟨k + 1, by have := HK.out; omega, by go_num, all_take_yes hk8 HT.out HP.out, bt Bl hb5⟩
          case measure => have := HK.out; omega
        | false =>
          have HF := Lib.hid (show (l.all (factT vl)) = false by rw [all_no hk8 (show factT vl (gd l k) = false by rw [HFT.out]; rfl)] <;> simp)
          clear HFT
          go_wp2
          have hz : w.heap.size ≤ wr.heap.size := hs
          refine wp_region_ext (by kernel_rfl) (by kernel_rfl) ?_
          repeat (go_big_quiet_step ((go_at_call 110; first
            | exact ext_same (cbI (l1Value_any _ vl _ _ ((hv.keep Bl).ext _) (by omega) (by rw [HL.out]; omega)) HX.out)
            | exact ext_same (cbI (l1Value_any _ vl _ _ ((hv.keep Bl).ext _) (by omega) (by rw [HL.out]; omega)) HY.out))))
          refine wpQuiet_nil ?_
          intro w5 hb5
          go_wp2
          go_ret
          exact ⟨by rw [HF.out]; rfl, bt Bl hb5⟩
      | false =>
        cases fb with
        | true =>
          have HF := Lib.hid (show (l.all (factT vl)) = false by rw [all_no hk8 (show factT vl (gd l k) = false by rw [HFT.out]; rfl)] <;> simp)
          clear HFT
          go_wp2
          have hz : w.heap.size ≤ wr.heap.size := hs
          refine wp_region_ext (by kernel_rfl) (by kernel_rfl) ?_
          repeat (go_big_quiet_step ((go_at_call 110; first
            | exact ext_same (cbI (l1Value_any _ vl _ _ ((hv.keep Bl).ext _) (by omega) (by rw [HL.out]; omega)) HX.out)
            | exact ext_same (cbI (l1Value_any _ vl _ _ ((hv.keep Bl).ext _) (by omega) (by rw [HL.out]; omega)) HY.out))))
          refine wpQuiet_nil ?_
          intro w5 hb5
          go_wp2
          go_ret
          exact ⟨by rw [HF.out]; rfl, bt Bl hb5⟩
        | false =>
          have HP := Lib.hid (show factT vl (gd l k) = true by rw [HFT.out]; rfl)
          clear HFT
          go_wp2
          have hz : w.heap.size ≤ wr.heap.size := hs
          refine wp_region_ext (by kernel_rfl) (by kernel_rfl) ?_
          repeat (go_big_quiet_step ((go_at_call 110; first
            | exact ext_same (cbI (l1Value_any _ vl _ _ ((hv.keep Bl).ext _) (by omega) (by rw [HL.out]; omega)) HX.out)
            | exact ext_same (cbI (l1Value_any _ vl _ _ ((hv.keep Bl).ext _) (by omega) (by rw [HL.out]; omega)) HY.out))))
          refine wpQuiet_nil ?_
          intro w5 hb5
          go_wp2
          go_roundg (gk - 1)
          case rel => exact ⟨k + 1, by have := HK.out; omega, by go_num, all_take_yes hk8 HT.out HP.out, bt Bl hb5⟩
          case measure => have := HK.out; omega
    · obtain rfl : k = l.length := by have := HK.out; omega
      have hall := all_end HT.out
      have HA := Lib.hid hall
      clear hall HT
      go_wp2
      go_ret
      exact ⟨by rw [HA.out]; rfl, hb⟩

end Go.Proofs.YtgfnoinkajfndaaGreat
