/- Walks: valid programs, their texts (reference: ProgramValid, l8Line, l8Text, FormatProgram). (Printed by gen_line.py.) -/
import Derived.Test.YtgfnoinkajfndaaGreatABlkP
import Derived.Handy
import Derived.Deep.DeepMust
import Derived.Deep.Cut
import Derived.Deep.CutBlock
import Derived.Deep.CutRange
set_option linter.unusedVariables false
set_option linter.unusedSimpArgs false
namespace Go.Proofs.YtgfnoinkajfndaaGreat
open Go.RowKit

set_option maxRecDepth 100000 in
set_option maxHeartbeats 1600000 in
theorem progValidS_any (d : Nat) {S : Nat → Prop} (v : Value) (l : List (Cm d)) (w : World) (h : RL w S v l) (hs : szC d l ≤ 1000000000000000000) (hd : d ≤ 100) :
    Calls Tryz.prog 71 #[v] w fun e w' => e = .returned (.bool (progOkB l)) ∧ Below w.heap.size w w' := by
  obtain ⟨a, cap, rfl⟩ := h.form
  have HR := Lib.hid h
  clear h
  go_enter Tryz.func71, Tryz.ntmps71
  go_wp2_with fail
  refine (l8Shape_any d _ l 4 _ HR.out (by decide) (by omega)).mono ?_
  rintro e w2 ⟨rfl, hb⟩
  cases e1 : shpB d l 4
  · go_wp2
    go_ret
    exact ⟨by rw [progOkB, e1]; rfl, hb⟩
  · go_wp2_with fail
    refine (l8Count_any d _ l 4 _ (HR.out.keep hb) hs (by decide) (by omega)).mono ?_
    rintro e w3 ⟨rfl, hb2⟩
    go_wp2
    go_ret
    exact ⟨by rw [progOkB, e1]; simp; omega, bt hb hb2⟩
theorem btl_10 : (⟨#[10]⟩ : ByteArray) = btx [10] := rfl
theorem btl_32_119_105_116_104_32 : (⟨#[32, 119, 105, 116, 104, 32]⟩ : ByteArray) = btx [32, 119, 105, 116, 104, 32] := rfl
theorem btl_58_61 : (⟨#[58, 61]⟩ : ByteArray) = btx [58, 61] := rfl
theorem btl_58_61_91 : (⟨#[58, 61, 91]⟩ : ByteArray) = btx [58, 61, 91] := rfl
theorem btl_91 : (⟨#[91]⟩ : ByteArray) = btx [91] := rfl
theorem btl_93 : (⟨#[93]⟩ : ByteArray) = btx [93] := rfl
theorem btl_93_58_61 : (⟨#[93, 58, 61]⟩ : ByteArray) = btx [93, 58, 61] := rfl
theorem btl_101_108_115_101_10 : (⟨#[101, 108, 115, 101, 10]⟩ : ByteArray) = btx [101, 108, 115, 101, 10] := rfl
theorem btl_101_110_100_10 : (⟨#[101, 110, 100, 10]⟩ : ByteArray) = btx [101, 110, 100, 10] := rfl
theorem btl_102_114_101_101_32 : (⟨#[102, 114, 101, 101, 32]⟩ : ByteArray) = btx [102, 114, 101, 101, 32] := rfl
theorem btl_105_102_32 : (⟨#[105, 102, 32]⟩ : ByteArray) = btx [105, 102, 32] := rfl
theorem btl_110_101_119_32 : (⟨#[110, 101, 119, 32]⟩ : ByteArray) = btx [110, 101, 119, 32] := rfl
theorem btl_119_104_105_108_101_32 : (⟨#[119, 104, 105, 108, 101, 32]⟩ : ByteArray) = btx [119, 104, 105, 108, 101, 32] := rfl
attribute [local go_sem] btx_app btx_nil btl_10 btl_32_119_105_116_104_32 btl_58_61 btl_58_61_91 btl_91 btl_93 btl_93_58_61 btl_101_108_115_101_10 btl_101_110_100_10 btl_102_114_101_101_32 btl_105_102_32 btl_110_101_119_32 btl_119_104_105_108_101_32
set_option maxRecDepth 100000 in
set_option maxHeartbeats 6400000 in
theorem l8Line_any {d : Nat} {S1 S2 : Nat → Prop} (c : Cm (d + 1)) (f1 f2 x y : Value) (w : World) (h1 : RL w S1 f1 c.inv.1) (h2 : RL w S2 f2 c.inv.2) (hx : ∃ a n k, x = .slice a n k) (hy : ∃ a n k, y = .slice a n k) (hh : headOk c = true) :
    Calls Tryz.prog 156 #[.agg #[.int .i64 c.kind, .int .i64 c.a, .int .i64 c.b, .bool c.test.1, .int .i64 c.test.2.1, .int .i64 c.test.2.2, f1, f2, x, y]] w fun e w' => e = .returned (.string (btx (lineT c))) ∧ Below w.heap.size w w' := by
  obtain ⟨a1, c1, rfl⟩ := h1.form
  obtain ⟨a2, c2, rfl⟩ := h2.form
  obtain ⟨a3, n3, c3, rfl⟩ := hx
  obtain ⟨a4, n4, c4, rfl⟩ := hy
  have HR1 := Lib.hid h1
  have HR2 := Lib.hid h2
  have hbA := below_alloc w (.cells #[.int .i64 c.kind, .int .i64 c.a, .int .i64 c.b, .bool c.test.1, .int .i64 c.test.2.1, .int .i64 c.test.2.2, .slice a1 c.inv.1.length c1, .slice a2 c.inv.2.length c2, .slice a3 n3 c3, .slice a4 n4 c4] 77)
  have HB := Lib.hid hbA
  have HH := Lib.hid hh
  clear h1 h2 hbA hh
  go_enter Tryz.func156, Tryz.ntmps156
  go_wp2_with fail
  refine (termNameS_any _ _).mono ?_
  rintro e w' ⟨rfl, rfl⟩
  go_wp2_with fail
  refine (termNameS_any _ _).mono ?_
  rintro e w' ⟨rfl, rfl⟩
  by_cases z1 : c.kind = 1
  · have Z1 := Lib.hid z1
    have y1 : (c.kind == 1) = true := by simp [z1]
    clear z1
    have la := termT_len c.a
    have lb := termT_len c.b
    obtain ⟨m, hm⟩ : ∃ m, (termT c.a).length = m := ⟨_, rfl⟩
    obtain ⟨n, hn⟩ : ∃ n, (termT c.b).length = n := ⟨_, rfl⟩
    rw [hm] at la
    rw [hn] at lb
    have z0 : (btx (termT c.a)).size = m := hm
    have z1 : (btx ([58, 61])).size = 2 := rfl
    have z2 : (btx (termT c.a ++ ([58, 61]))).size = m + 2 := by simp only [btx_size, List.length_append, hm, hn, List.length_cons, List.length_nil] <;> omega
    have zc1 : (9223372036854775807 < m + 2) = False := by simp; omega
    have z3 : (btx (termT c.b)).size = n := hn
    have z4 : (btx (termT c.a ++ ([58, 61] ++ (termT c.b)))).size = m + 2 + n := by simp only [btx_size, List.length_append, hm, hn, List.length_cons, List.length_nil] <;> omega
    have z5 : (btx (termT c.a ++ (58 :: 61 :: (termT c.b)))).size = m + 2 + n := by simp only [btx_size, List.length_append, hm, hn, List.length_cons, List.length_nil] <;> omega
    have zc2 : (9223372036854775807 < m + 2 + n) = False := by simp; omega
    clear hm hn
    go_wp2
    go_ret
    exact ⟨congrArg (fun z => Ending.returned (.string (btx z))) (by rw [lineT, if_pos Z1.out]; simp), HB.out⟩
  have Z1 := Lib.hid z1
  have y1 : (c.kind == 1) = false := by simp [z1]
  clear z1
  by_cases z2 : c.kind = 2
  · have Z2 := Lib.hid z2
    have y2 : (c.kind == 2) = true := by simp [z2]
    clear z2
    have la := termT_len c.a
    have lb := termT_len c.b
    obtain ⟨m, hm⟩ : ∃ m, (termT c.a).length = m := ⟨_, rfl⟩
    obtain ⟨n, hn⟩ : ∃ n, (termT c.b).length = n := ⟨_, rfl⟩
    rw [hm] at la
    rw [hn] at lb
    have z0 : (btx (termT c.a)).size = m := hm
    have z1 : (btx ([58, 61, 91])).size = 3 := rfl
    have z2 : (btx (termT c.a ++ ([58, 61, 91]))).size = m + 3 := by simp only [btx_size, List.length_append, hm, hn, List.length_cons, List.length_nil] <;> omega
    have zc1 : (9223372036854775807 < m + 3) = False := by simp; omega
    have z3 : (btx (termT c.b)).size = n := hn
    have z4 : (btx (termT c.a ++ ([58, 61, 91] ++ (termT c.b)))).size = m + 3 + n := by simp only [btx_size, List.length_append, hm, hn, List.length_cons, List.length_nil] <;> omega
    have z5 : (btx (termT c.a ++ (58 :: 61 :: 91 :: (termT c.b)))).size = m + 3 + n := by simp only [btx_size, List.length_append, hm, hn, List.length_cons, List.length_nil] <;> omega
    have zc2 : (9223372036854775807 < m + 3 + n) = False := by simp; omega
    have z6 : (btx ([93])).size = 1 := rfl
    have z7 : (btx (termT c.a ++ ([58, 61, 91] ++ (termT c.b ++ ([93]))))).size = m + 3 + n + 1 := by simp only [btx_size, List.length_append, hm, hn, List.length_cons, List.length_nil] <;> omega
    have z8 : (btx (termT c.a ++ (58 :: 61 :: 91 :: (termT c.b ++ ([93]))))).size = m + 3 + n + 1 := by simp only [btx_size, List.length_append, hm, hn, List.length_cons, List.length_nil] <;> omega
    have zc3 : (9223372036854775807 < m + 3 + n + 1) = False := by simp; omega
    clear hm hn
    go_wp2
    go_ret
    exact ⟨congrArg (fun z => Ending.returned (.string (btx z))) (by rw [lineT, if_neg Z1.out, if_pos Z2.out]; simp), HB.out⟩
  have Z2 := Lib.hid z2
  have y2 : (c.kind == 2) = false := by simp [z2]
  clear z2
  by_cases z3 : c.kind = 3
  · have Z3 := Lib.hid z3
    have y3 : (c.kind == 3) = true := by simp [z3]
    clear z3
    have la := termT_len c.a
    have lb := termT_len c.b
    obtain ⟨m, hm⟩ : ∃ m, (termT c.a).length = m := ⟨_, rfl⟩
    obtain ⟨n, hn⟩ : ∃ n, (termT c.b).length = n := ⟨_, rfl⟩
    rw [hm] at la
    rw [hn] at lb
    have z0 : (btx ([91])).size = 1 := rfl
    have z1 : (btx (termT c.a)).size = m := hm
    have z2 : (btx ([91] ++ (termT c.a))).size = 1 + m := by simp only [btx_size, List.length_append, hm, hn, List.length_cons, List.length_nil] <;> omega
    have z3 : (btx (91 :: (termT c.a))).size = 1 + m := by simp only [btx_size, List.length_append, hm, hn, List.length_cons, List.length_nil] <;> omega
    have zc1 : (9223372036854775807 < 1 + m) = False := by simp; omega
    have z4 : (btx ([93, 58, 61])).size = 3 := rfl
    have z5 : (btx ([91] ++ (termT c.a ++ ([93, 58, 61])))).size = 1 + m + 3 := by simp only [btx_size, List.length_append, hm, hn, List.length_cons, List.length_nil] <;> omega
    have z6 : (btx (91 :: (termT c.a ++ ([93, 58, 61])))).size = 1 + m + 3 := by simp only [btx_size, List.length_append, hm, hn, List.length_cons, List.length_nil] <;> omega
    have zc2 : (9223372036854775807 < 1 + m + 3) = False := by simp; omega
    have z7 : (btx (termT c.b)).size = n := hn
    have z8 : (btx ([91] ++ (termT c.a ++ ([93, 58, 61] ++ (termT c.b))))).size = 1 + m + 3 + n := by simp only [btx_size, List.length_append, hm, hn, List.length_cons, List.length_nil] <;> omega
    have z9 : (btx (91 :: (termT c.a ++ (93 :: 58 :: 61 :: (termT c.b))))).size = 1 + m + 3 + n := by simp only [btx_size, List.length_append, hm, hn, List.length_cons, List.length_nil] <;> omega
    have zc3 : (9223372036854775807 < 1 + m + 3 + n) = False := by simp; omega
    clear hm hn
    go_wp2
    go_ret
    exact ⟨congrArg (fun z => Ending.returned (.string (btx z))) (by rw [lineT, if_neg Z1.out, if_neg Z2.out, if_pos Z3.out]; simp), HB.out⟩
  have Z3 := Lib.hid z3
  have y3 : (c.kind == 3) = false := by simp [z3]
  clear z3
  by_cases z4 : c.kind = 4
  · have Z4 := Lib.hid z4
    have y4 : (c.kind == 4) = true := by simp [z4]
    clear z4
    have la := termT_len c.a
    have lb := termT_len c.b
    obtain ⟨m, hm⟩ : ∃ m, (termT c.a).length = m := ⟨_, rfl⟩
    obtain ⟨n, hn⟩ : ∃ n, (termT c.b).length = n := ⟨_, rfl⟩
    rw [hm] at la
    rw [hn] at lb
    have z0 : (btx ([110, 101, 119, 32])).size = 4 := rfl
    have z1 : (btx (termT c.a)).size = m := hm
    have z2 : (btx ([110, 101, 119, 32] ++ (termT c.a))).size = 4 + m := by simp only [btx_size, List.length_append, hm, List.length_cons, List.length_nil] <;> omega
    have z3 : (btx (110 :: 101 :: 119 :: 32 :: (termT c.a))).size = 4 + m := by simp only [btx_size, List.length_append, hm, List.length_cons, List.length_nil] <;> omega
    have zc1 : (9223372036854775807 < 4 + m) = False := by simp; omega
    clear hm hn
    go_wp2
    go_ret
    exact ⟨congrArg (fun z => Ending.returned (.string (btx z))) (by rw [lineT, if_neg Z1.out, if_neg Z2.out, if_neg Z3.out, if_pos Z4.out]; simp), HB.out⟩
  have Z4 := Lib.hid z4
  have y4 : (c.kind == 4) = false := by simp [z4]
  clear z4
  by_cases z5 : c.kind = 5
  · have Z5 := Lib.hid z5
    have y5 : (c.kind == 5) = true := by simp [z5]
    clear z5
    have la := termT_len c.a
    have lb := termT_len c.b
    obtain ⟨m, hm⟩ : ∃ m, (termT c.a).length = m := ⟨_, rfl⟩
    obtain ⟨n, hn⟩ : ∃ n, (termT c.b).length = n := ⟨_, rfl⟩
    rw [hm] at la
    rw [hn] at lb
    have z0 : (btx ([102, 114, 101, 101, 32])).size = 5 := rfl
    have z1 : (btx (termT c.a)).size = m := hm
    have z2 : (btx ([102, 114, 101, 101, 32] ++ (termT c.a))).size = 5 + m := by simp only [btx_size, List.length_append, hm, List.length_cons, List.length_nil] <;> omega
    have z3 : (btx (102 :: 114 :: 101 :: 101 :: 32 :: (termT c.a))).size = 5 + m := by simp only [btx_size, List.length_append, hm, List.length_cons, List.length_nil] <;> omega
    have zc1 : (9223372036854775807 < 5 + m) = False := by simp; omega
    clear hm hn
    go_wp2
    go_ret
    exact ⟨congrArg (fun z => Ending.returned (.string (btx z))) (by rw [lineT, if_neg Z1.out, if_neg Z2.out, if_neg Z3.out, if_neg Z4.out, if_pos Z5.out]; simp), HB.out⟩
  have Z5 := Lib.hid z5
  have y5 : (c.kind == 5) = false := by simp [z5]
  clear z5
  by_cases z6 : c.kind = 6
  · have Z6 := Lib.hid z6
    have y6 : (c.kind == 6) = true := by simp [z6]
    clear z6
    go_wp2_with fail
    refine (l1TextS_any c.test _).mono ?_
    rintro e w2 ⟨rfl, hb2⟩
    have la := factT_len c.test
    obtain ⟨m, hm⟩ : ∃ m, (factX c.test).length = m := ⟨_, rfl⟩
    rw [hm] at la
    have z0 : (btx ([105, 102, 32])).size = 3 := rfl
    have z1 : (btx (factX c.test)).size = m := hm
    have z2 : (btx ([105, 102, 32] ++ (factX c.test))).size = 3 + m := by simp only [btx_size, List.length_append, hm, List.length_cons, List.length_nil] <;> omega
    have z3 : (btx (105 :: 102 :: 32 :: (factX c.test))).size = 3 + m := by simp only [btx_size, List.length_append, hm, List.length_cons, List.length_nil] <;> omega
    have zc1 : (9223372036854775807 < 3 + m) = False := by simp; omega
    clear hm
    go_wp2
    go_ret
    exact ⟨congrArg (fun z => Ending.returned (.string (btx z))) (by rw [lineT, if_neg Z1.out, if_neg Z2.out, if_neg Z3.out, if_neg Z4.out, if_neg Z5.out, if_pos Z6.out]; simp), bt HB.out hb2⟩
  have Z6 := Lib.hid z6
  have y6 : (c.kind == 6) = false := by simp [z6]
  clear z6
  have hab : asnB c.inv = true := by
    have h := HH.out
    rw [headOk, if_neg Z6.out] at h
    split at h
    · simp only [Bool.and_eq_true] at h; exact h.2.2.2.1
    · have := basic_kind h; have := Z1.out; have := Z2.out; have := Z3.out; have := Z4.out; have := Z5.out; omega
  have hal := asnB_len hab
  have hlA := asnT_len c.inv
  have la := factT_len c.test
  obtain ⟨m, hm⟩ : ∃ m, (factX c.test).length = m := ⟨_, rfl⟩
  obtain ⟨n, hn⟩ : ∃ n, (asnT c.inv).length = n := ⟨_, rfl⟩
  rw [hm] at la
  rw [hn] at hlA
  have z0 : (btx ([119, 104, 105, 108, 101, 32])).size = 6 := rfl
  have z1 : (btx (factX c.test)).size = m := hm
  have z2 : (btx ([119, 104, 105, 108, 101, 32] ++ (factX c.test))).size = 6 + m := by simp only [btx_size, List.length_append, hm, hn, List.length_cons, List.length_nil] <;> omega
  have z3 : (btx (119 :: 104 :: 105 :: 108 :: 101 :: 32 :: (factX c.test))).size = 6 + m := by simp only [btx_size, List.length_append, hm, hn, List.length_cons, List.length_nil] <;> omega
  have zc1 : (9223372036854775807 < 6 + m) = False := by simp; omega
  have z4 : (btx ([32, 119, 105, 116, 104, 32])).size = 6 := rfl
  have z5 : (btx ([119, 104, 105, 108, 101, 32] ++ (factX c.test ++ ([32, 119, 105, 116, 104, 32])))).size = 6 + m + 6 := by simp only [btx_size, List.length_append, hm, hn, List.length_cons, List.length_nil] <;> omega
  have z6 : (btx (119 :: 104 :: 105 :: 108 :: 101 :: 32 :: (factX c.test ++ ([32, 119, 105, 116, 104, 32])))).size = 6 + m + 6 := by simp only [btx_size, List.length_append, hm, hn, List.length_cons, List.length_nil] <;> omega
  have zc2 : (9223372036854775807 < 6 + m + 6) = False := by simp; omega
  have z7 : (btx (asnT c.inv)).size = n := hn
  have z8 : (btx ([119, 104, 105, 108, 101, 32] ++ (factX c.test ++ ([32, 119, 105, 116, 104, 32] ++ (asnT c.inv))))).size = 6 + m + 6 + n := by simp only [btx_size, List.length_append, hm, hn, List.length_cons, List.length_nil] <;> omega
  have z9 : (btx (119 :: 104 :: 105 :: 108 :: 101 :: 32 :: (factX c.test ++ (32 :: 119 :: 105 :: 116 :: 104 :: 32 :: (asnT c.inv))))).size = 6 + m + 6 + n := by simp only [btx_size, List.length_append, hm, hn, List.length_cons, List.length_nil] <;> omega
  have zc3 : (9223372036854775807 < 6 + m + 6 + n) = False := by simp; omega
  have HAL := Lib.hid hal
  clear hm hn hab hal hlA
  go_upto_region 16 with fail
  refine wp_region_ext (by kernel_rfl) (by kernel_rfl) ?_
  repeat (go_big_quiet_step (first
    | (go_at_call 180; exact ext_c (l1TextS_any _ _))
    | (go_at_call 165; exact ext_c (l3TextS_any _ _ c.inv _ ((HR1.out.keep HB.out).keep (ext_below _ _)) ((HR2.out.keep HB.out).keep (ext_below _ _)) HAL.out.1 HAL.out.2))))
  refine wpQuiet_nil ?_
  intro w2 hb2
  go_wp2
  go_ret
  exact ⟨congrArg (fun z => Ending.returned (.string (btx z))) (by rw [lineT, if_neg Z1.out, if_neg Z2.out, if_neg Z3.out, if_neg Z4.out, if_neg Z5.out, if_neg Z6.out]; simp), bt HB.out hb2⟩
end Go.Proofs.YtgfnoinkajfndaaGreat
