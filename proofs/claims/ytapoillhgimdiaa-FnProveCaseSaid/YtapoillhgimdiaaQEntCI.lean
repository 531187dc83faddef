/- Walks: a case in which an assertion entails another one: the program. Printed by gen_entci.py. -/
import Derived.Test.YtapoillhgimdiaaQEntC
import Derived.Test.YtapoillhgimdiaaQPrvA
import Derived.Deep.Cut
import Derived.Handy
namespace Go.Proofs.Ytapoillhgimdiaa
open Go.RowKit

set_option maxRecDepth 100000 in
set_option maxHeartbeats 6400000 in
theorem entCaseI_any {S1 S2 S3 S4 S5 : Nat → Prop} (v1 v2 u1 u2 cv : Value) (a b : Asn) (cl : List Int) (w : World) (h1 : RL w S1 v1 a.1) (h2 : RL w S2 v2 a.2) (k1 : RL w S3 u1 b.1) (k2 : RL w S4 u2 b.2) (j0 : RL w S5 cv cl) :
    Calls Try.prog 31 #[.agg #[v1, v2], .agg #[u1, u2], cv] w fun e w' => e = .returned (.bool (provB a b cl)) ∧ Below w.heap.size w w' := by
  have j1 := j0.ints
  clear j0
  obtain ⟨xa1, xc1, rfl⟩ := h1.form
  obtain ⟨xa2, xc2, rfl⟩ := h2.form
  obtain ⟨ya1, yc1, rfl⟩ := k1.form
  obtain ⟨ya2, yc2, rfl⟩ := k2.form
  obtain ⟨za1, zc1, rfl⟩ := j1.form
  obtain ⟨W, hWe⟩ : ∃ W, W = ((w.alloc (.cells #[.slice xa1 a.1.length xc1, .slice xa2 a.2.length xc2] 33)).alloc (.cells #[.slice ya1 b.1.length yc1, .slice ya2 b.2.length yc2] 33)) := ⟨_, rfl⟩
  have hW : Below w.heap.size w W := by rw [hWe]; exact Bl
  have hc0 : W.cell? ⟨w.heap.size, 0, none⟩ = some (.slice xa1 a.1.length xc1) := by rw [hWe]; simp [go_sem]
  have hc1 : W.cell? ⟨w.heap.size, 1, none⟩ = some (.slice xa2 a.2.length xc2) := by rw [hWe]; simp [go_sem]
  have hd0 : W.cell? ⟨w.heap.size + 1, 0, none⟩ = some (.slice ya1 b.1.length yc1) := by rw [hWe]; simp [go_sem]
  have hd1 : W.cell? ⟨w.heap.size + 1, 1, none⟩ = some (.slice ya2 b.2.length yc2) := by rw [hWe]; simp [go_sem]
  have HWE := Lib.hid hWe
  have HX := Lib.hid (And.intro (And.intro hc0 hc1) (And.intro (And.intro hd0 hd1) hW))
  clear hWe hc0 hc1 hd0 hd1 hW
  cases ha : asnB a with
  | false =>
    have HV := Lib.hid ha
    have HP := Lib.hid (show provB a b cl = false by rw [provB, provC, if_neg (by rw [ha]; simp)]; rfl)
    clear ha
    go_enter Try.func31, Try.ntmps31
    go_upto_region 1 with fail
    rw [← HWE.out]
    obtain ⟨⟨hc0, hc1⟩, ⟨hd0, hd1⟩, hW⟩ := HX.out
    go_wp2_with fail
    refine (cb (asnValidI_any _ _ a _ (h1.keep hW) (h2.keep hW)) HV.out).mono ?_
    rintro e w1 ⟨rfl, hb⟩
    replace hc0 := cell_keep hb hc0; replace hc1 := cell_keep hb hc1; replace hd0 := cell_keep hb hd0; replace hd1 := cell_keep hb hd1; replace hW := bt hW hb; clear hb
    go_wp2
    go_ret
    exact ⟨by rw [HP.out]; rfl, hW⟩
  | true =>
    cases hb0 : asnB b with
    | false =>
      have HV := Lib.hid (And.intro ha hb0)
      have HP := Lib.hid (show provB a b cl = false by rw [provB, provC, if_neg (by rw [hb0]; simp)]; rfl)
      clear ha hb0
      go_enter Try.func31, Try.ntmps31
      go_upto_region 1 with fail
      rw [← HWE.out]
      obtain ⟨⟨hc0, hc1⟩, ⟨hd0, hd1⟩, hW⟩ := HX.out
      go_wp2_with fail
      refine (cb (asnValidI_any _ _ a _ (h1.keep hW) (h2.keep hW)) HV.out.1).mono ?_
      rintro e w1 ⟨rfl, hb⟩
      replace hc0 := cell_keep hb hc0; replace hc1 := cell_keep hb hc1; replace hd0 := cell_keep hb hd0; replace hd1 := cell_keep hb hd1; replace hW := bt hW hb; clear hb
      go_wp2_with fail
      refine (cb (asnValidI_any _ _ b _ (k1.keep hW) (k2.keep hW)) HV.out.2).mono ?_
      rintro e w1 ⟨rfl, hb⟩
      replace hc0 := cell_keep hb hc0; replace hc1 := cell_keep hb hc1; replace hd0 := cell_keep hb hd0; replace hd1 := cell_keep hb hd1; replace hW := bt hW hb; clear hb
      go_wp2
      go_ret
      exact ⟨by rw [HP.out]; rfl, hW⟩
    | true =>
      obtain ⟨rb, hrb⟩ : ∃ r, readC (termsM b) a cl = r := ⟨_, rfl⟩
      obtain ⟨rm, hrm⟩ : ∃ r, matchC a b cl = r := ⟨_, rfl⟩
      have hpv : provC a b cl = if rb = true then rm else none := by
        rw [provC, ha, hb0, hrb, hrm]; simp
      have HPV := Lib.hid hpv
      have HV := Lib.hid (And.intro ha hb0)
      have HRB := Lib.hid hrb
      have HRM := Lib.hid hrm
      have htm := termsM_lt b
      clear ha hb0 hrb hrm hpv
      go_enter Try.func31, Try.ntmps31
      go_upto_region 1 with fail
      rw [← HWE.out]
      obtain ⟨⟨hc0, hc1⟩, ⟨hd0, hd1⟩, hW⟩ := HX.out
      go_wp2_with fail
      refine (cb (asnValidI_any _ _ a _ (h1.keep hW) (h2.keep hW)) HV.out.1).mono ?_
      rintro e w1 ⟨rfl, hb⟩
      replace hc0 := cell_keep hb hc0; replace hc1 := cell_keep hb hc1; replace hd0 := cell_keep hb hd0; replace hd1 := cell_keep hb hd1; replace hW := bt hW hb; clear hb
      go_wp2_with fail
      refine (cb (asnValidI_any _ _ b _ (k1.keep hW) (k2.keep hW)) HV.out.2).mono ?_
      rintro e w1 ⟨rfl, hb⟩
      replace hc0 := cell_keep hb hc0; replace hc1 := cell_keep hb hc1; replace hd0 := cell_keep hb hd0; replace hd1 := cell_keep hb hd1; replace hW := bt hW hb; clear hb
      go_upto_region 3 with fail
      have HW1 := Lib.hid (And.intro (And.intro hc0 hc1) (And.intro (And.intro hd0 hd1) hW))
      go_cut [7, 8] from 17 (fun pp ok wc => ∃ (g : Nat) (x0 x1 x2 x3 x4 x5 x6 x7 x8 : Int), pp = .pointer (some ⟨g, 0, none⟩) ∧ ok = .bool rb ∧ RArr wc g [x0, x1, x2, x3, x4, x5, x6, x7, x8] ∧ (rb = true → [x0, x1, x2, x3, x4, x5, x6, x7, x8] = cl) ∧ Below w1.heap.size w1 wc)
      case first =>
        have l0 : w.heap.size < w1.heap.size := World.block_lt_of_cell? w1 _ hc0
        have l1 : w.heap.size + 1 < w1.heap.size := World.block_lt_of_cell? w1 _ hd0
        have m0 : ¬ w.heap.size = w1.heap.size := Nat.ne_of_lt l0
        have m1 : ¬ w.heap.size + 1 = w1.heap.size := Nat.ne_of_lt l1
        have hu9 := Try.underlying116
        go_region_held3 (fun w' => (w'.cell? ⟨w.heap.size, 0, none⟩ = some (.slice xa1 a.1.length xc1) ∧ w'.cell? ⟨w.heap.size, 1, none⟩ = some (.slice xa2 a.2.length xc2)) ∧ (w'.cell? ⟨w.heap.size + 1, 0, none⟩ = some (.slice ya1 b.1.length yc1) ∧ w'.cell? ⟨w.heap.size + 1, 1, none⟩ = some (.slice ya2 b.2.length yc2)))
          (first | exact ⟨⟨cell_setCells (Nat.ne_of_lt (by show w.heap.size < _; omega)) (cell_keep Bl f0), cell_setCells (Nat.ne_of_lt (by show w.heap.size < _; omega)) (cell_keep Bl f1)⟩, ⟨cell_setCells (Nat.ne_of_lt (by show w.heap.size + 1 < _; omega)) (cell_keep Bl f2), cell_setCells (Nat.ne_of_lt (by show w.heap.size + 1 < _; omega)) (cell_keep Bl f3)⟩⟩ | exact ⟨⟨cell_keep Bl hc0, cell_keep Bl hc1⟩, ⟨cell_keep Bl hd0, cell_keep Bl hd1⟩⟩)
          (first
            | (go_at_call 92; (with_reducible refine (termsIn_any _ _ b _ (k1.keep (bt hW Bl)) (k2.keep (bt hW Bl))).mono ?_); rintro e w2 ⟨rfl, hb2'⟩; have hb2 : Below w1.heap.size w1 w2 := bt Bl hb2'; have hsz2 := hb2.size; (try have hz2 := zero9 (new9 _ _) hb2'); (try have hz2 := zero9 (new9' _ _) hb2'); (try have hz2 := zero9 (heap_alloc_new _ _) hb2'))
            | (go_at_call 104; (with_reducible refine (readCase9_any _ _ _ a _ cl rb _ (h1.keep (bt hW Bl)) (h2.keep (bt hW Bl)) (j1.keep (bt hW Bl)) HV.out.1 htm HRB.out).mono ?_); rintro e w3 ⟨x0, x1, x2, x3, x4, x5, x6, x7, x8, hx, rfl, hb3'⟩; have hb3 : Below w1.heap.size w1 w3 := bt (bt hb2 Bl) hb3'; have hsz3 := hb3.size; (try have ht3 := there9 (And.intro (fun i (hi : i < 9) => cell_keep hb3' (hz2.1 i hi)) (fun i => (hb3'.frozen (p := ⟨w1.heap.size, i, none⟩) (World.block_lt_of_cell? w2 ⟨w1.heap.size, 0, none⟩ (hz2.1 0 (by decide)))).trans (hz2.2 i)))); (try have ht3 := there9 (zero9 (new9 _ _) hb3')); (try have ht3 := there9 (zero9 (new9' _ _) hb3')); (try have ht3 := there9 (zero9 (heap_alloc_new _ _) hb3')); have htc := there9n w3; have hs9 := size9 x0 x1 x2 x3 x4 x5 x6 x7 x8; have h19 := one9 x0 x1 x2 x3 x4 x5 x6 x7 x8; have hn9 : ([.int .i64 x0, .int .i64 x1, .int .i64 x2, .int .i64 x3, .int .i64 x4, .int .i64 x5, .int .i64 x6, .int .i64 x7, .int .i64 x8] : List Value).length = 9 := rfl; have f0 := cell_keep hb3 HW1.out.1.1; have f1 := cell_keep hb3 HW1.out.1.2; have f2 := cell_keep hb3 HW1.out.2.1.1; have f3 := cell_keep hb3 HW1.out.2.1.2))
        all_goals
          have HZ := Lib.hid (And.intro hx hb3)
          go_wp2
          go_meet
          case rel =>
            refine ⟨_, x0, x1, x2, x3, x4, x5, x6, x7, x8, rfl, rfl, ?_, HZ.out.1, ?_⟩
            · exact arr_of_range (World.rangeAt_setCells_same _ _ 0 [.int .i64 x0, .int .i64 x1, .int .i64 x2, .int .i64 x3, .int .i64 x4, .int .i64 x5, .int .i64 x6, .int .i64 x7, .int .i64 x8] (by first | exact htc | exact ht3))
            · exact below_setCells (B := w1.heap.size) (by omega) _ _ _ (bt HZ.out.2 Bl)
      case rest =>
        obtain ⟨g, x0, x1, x2, x3, x4, x5, x6, x7, x8, rfl, rfl, hA, htl, hb⟩ := hcut
        replace hc0 := cell_keep hb hc0; replace hc1 := cell_keep hb hc1; replace hd0 := cell_keep hb hd0; replace hd1 := cell_keep hb hd1; replace hW := bt hW hb; clear hb
        cases rb with
        | false =>
          have HP := Lib.hid (show provB a b cl = false by rw [provB, HPV.out]; rfl)
          clear hA htl
          go_wp2
          go_ret
          exact ⟨by rw [HP.out]; rfl, hW⟩
        | true =>
          have hcl : [x0, x1, x2, x3, x4, x5, x6, x7, x8] = cl := htl rfl
          have HCL := Lib.hid hcl
          have cells9 : (((wc.cell? ⟨g, 0, none⟩ = some (.int .i64 x0) ∧ wc.cell? ⟨g, 1, none⟩ = some (.int .i64 x1)) ∧ (wc.cell? ⟨g, 2, none⟩ = some (.int .i64 x2) ∧ wc.cell? ⟨g, 3, none⟩ = some (.int .i64 x3))) ∧ ((wc.cell? ⟨g, 4, none⟩ = some (.int .i64 x4) ∧ wc.cell? ⟨g, 5, none⟩ = some (.int .i64 x5)) ∧ (wc.cell? ⟨g, 6, none⟩ = some (.int .i64 x6) ∧ wc.cell? ⟨g, 7, none⟩ = some (.int .i64 x7)))) ∧ wc.cell? ⟨g, 8, none⟩ = some (.int .i64 x8) :=
            ⟨⟨⟨⟨hA.2.2 0 (by decide), hA.2.2 1 (by decide)⟩, ⟨hA.2.2 2 (by decide), hA.2.2 3 (by decide)⟩⟩, ⟨⟨hA.2.2 4 (by decide), hA.2.2 5 (by decide)⟩, ⟨hA.2.2 6 (by decide), hA.2.2 7 (by decide)⟩⟩⟩, hA.2.2 8 (by decide)⟩
          obtain ⟨⟨⟨⟨y0, y1⟩, ⟨y2, y3⟩⟩, ⟨⟨y4, y5⟩, ⟨y6, y7⟩⟩⟩, y8⟩ := cells9
          clear htl hcl hA
          go_wp2_with fail
          refine (matchCase_any _ _ _ _ a b [x0, x1, x2, x3, x4, x5, x6, x7, x8] rm _ (h1.keep hW) (h2.keep hW) (k1.keep hW) (k2.keep hW) HV.out.1 HV.out.2 rfl (by rw [HCL.out]; exact HRM.out)).mono ?_
          rintro e w5 ⟨vu, rfl, hO, hb5⟩
          clear y0 y1 y2 y3 y4 y5 y6 y7 y8
          replace hW := bt hW hb5; clear hb5
          obtain ⟨rk, hrk⟩ : ∃ r, rm.isSome = r := ⟨_, rfl⟩
          rw [hrk]
          have HP := Lib.hid (show provB a b cl = rk by rw [provB, HPV.out, ← hrk]; rfl)
          clear hO hc0 hc1 hd0 hd1 hrk
          go_wp2
          go_ret
          exact ⟨by rw [HP.out]; rfl, hW⟩
end Go.Proofs.Ytapoillhgimdiaa
