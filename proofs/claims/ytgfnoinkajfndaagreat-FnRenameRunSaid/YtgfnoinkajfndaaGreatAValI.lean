/- Walks: which programs are valid (the program's ProgramValid). (Printed by gen_vali.py.) -/
import Derived.Test.YtgfnoinkajfndaaGreatACmd9
import Derived.Test.YtgfnoinkajfndaaGreatACmdA
import Derived.Handy
import Derived.Deep.DeepMust
import Derived.Deep.Cut
import Derived.Deep.CutBlock
import Derived.Deep.CutRange
set_option linter.unusedVariables false
set_option linter.unusedSimpArgs false
namespace Go.Proofs.YtgfnoinkajfndaaGreat
open Go.RowKit

set_option maxHeartbeats 400000 in
theorem isProgI_any (n : Int) (w : World) :
    Calls Tryz.prog 85 #[.int .i64 n] w fun e w' => e = .returned (.bool (progB n)) ∧ w = w' := by
  by_cases h1 : 1 ≤ n
  · by_cases h2 : n ≤ 4
    all_goals
      go_enter Tryz.func85, Tryz.ntmps85
      go_wp2
      go_ret
      simp [progB, h1, h2]
  · go_enter Tryz.func85, Tryz.ntmps85
    go_wp2
    go_ret
    simp [progB]; omega
/-- A kind without blocks. -/
def kindB (K : Int) : Bool := decide (1 ≤ K) && decide (K ≤ 5)
set_option maxHeartbeats 800000 in
theorem isBasicI_any (K A B t2 t3 : Int) (t1 : Bool) (a1 a2 a3 a4 : Option Addr) (n1 n2 nb ne c1 c2 c3 c4 : Nat) (w : World) :
    Calls Tryz.prog 158 #[.agg #[.int .i64 K, .int .i64 A, .int .i64 B, .bool t1, .int .i64 t2, .int .i64 t3, .slice a1 n1 c1, .slice a2 n2 c2, .slice a3 nb c3, .slice a4 ne c4]] w fun e w' => e = .returned (.bool (kindB K)) ∧ Below w.heap.size w w' := by
  by_cases h1 : 1 ≤ K
  · by_cases h2 : K ≤ 5
    all_goals
      go_enter Tryz.func158, Tryz.ntmps158
      go_wp2
      go_ret
      exact ⟨by first | (simp [kindB, h1, h2]; done) | (simp [kindB]; omega), below_alloc _ _⟩
  · go_enter Tryz.func158, Tryz.ntmps158
    go_wp2
    go_ret
    exact ⟨by first | (simp [kindB, h1]; done) | (simp [kindB]; omega), below_alloc _ _⟩
set_option maxHeartbeats 800000 in
theorem noAsnI_any {S1 S2 : Nat → Prop} (v1 v2 : Value) (a : InvA) (w : World) (h1 : RL w S1 v1 a.1) (h2 : RL w S2 v2 a.2) :
    Calls Tryz.prog 159 #[.agg #[v1, v2]] w fun e w' => e = .returned (.bool (noinvB a)) ∧ Below w.heap.size w w' := by
  obtain ⟨a1, c1, rfl⟩ := h1.form
  obtain ⟨a2, c2, rfl⟩ := h2.form
  have hm1 : a.1.length ≤ maxLen := by have := h1.len; omega
  have hm2 : a.2.length ≤ maxLen := by have := h2.len; omega
  by_cases e1 : a.1.length = 0
  · by_cases e2 : a.2.length = 0
    all_goals
      go_enter Tryz.func159, Tryz.ntmps159
      go_wp2
      go_ret
      exact ⟨by simp [noinvB, e1, e2], below_alloc _ _⟩
  · go_enter Tryz.func159, Tryz.ntmps159
    go_wp2
    go_ret
    exact ⟨by simp [noinvB, e1], below_alloc _ _⟩
/-- The fields of a command without blocks that must be empty. -/
def plainB (t : Fact) (i : InvA) (nb ne : Nat) : Bool := nofB t && (noinvB i && (decide (nb = 0) && decide (ne = 0)))
theorem headOk_bad {d : Nat} {c : Cm (d + 1)} (hk : kindB c.kind = true) (hp : plainB c.test c.inv c.body.length c.els.length = false) : headOk c = false := by
  have h1 : 1 ≤ c.kind ∧ c.kind ≤ 5 := by simpa [kindB] using hk
  rw [headOk, if_neg (by omega), if_neg (by omega), basicB]
  unfold plainB at hp
  cases e1 : nofB c.test
  · rfl
  · cases e2 : noinvB c.inv
    · rfl
    · rw [e1, e2] at hp
      simp only [Bool.true_and, Bool.and_eq_false_iff] at hp ⊢
      rcases hp with h | h
      · exact .inl h
      · exact .inr (.inl h)
theorem headOk_plain {d : Nat} {c : Cm (d + 1)} (hk : kindB c.kind = true) (hp : plainB c.test c.inv c.body.length c.els.length = true) :
    headOk c = (((decide (c.kind = 1) || decide (c.kind = 2)) && (progB c.a && isTermB c.b)) || ((decide (c.kind = 3) && (isTermB c.a && isTermB c.b)) || ((decide (c.kind = 4) && (progB c.a && decide (c.b = 0))) || (decide (c.kind = 5) && (isTermB c.a && decide (c.b = 0)))))) := by
  have h1 : 1 ≤ c.kind ∧ c.kind ≤ 5 := by simpa [kindB] using hk
  rw [headOk, if_neg (by omega), if_neg (by omega), basicB]
  simp only [plainB, Bool.and_eq_true] at hp
  rw [hp.1, hp.2.1, hp.2.2.1, hp.2.2.2]
  simp only [Bool.true_and]
set_option maxRecDepth 100000 in
set_option maxHeartbeats 12800000 in
theorem fieldsI_any {d : Nat} {S1 S2 : Nat → Prop} (c : Cm (d + 1)) (f1 f2 x y : Value) (w : World) (h1 : RL w S1 f1 c.inv.1) (h2 : RL w S2 f2 c.inv.2) (hx : ∃ a k, x = .slice a c.body.length k) (hy : ∃ a k, y = .slice a c.els.length k) (hlb : c.body.length ≤ maxLen) (hle : c.els.length ≤ maxLen) :
    Calls Tryz.prog 132 #[.agg #[.int .i64 c.kind, .int .i64 c.a, .int .i64 c.b, .bool c.test.1, .int .i64 c.test.2.1, .int .i64 c.test.2.2, f1, f2, x, y]] w fun e w' => e = .returned (.bool (headOk c)) ∧ Below w.heap.size w w' := by
  obtain ⟨a1, c1, rfl⟩ := h1.form
  obtain ⟨a2, c2, rfl⟩ := h2.form
  obtain ⟨a3, c3, rfl⟩ := hx
  obtain ⟨a4, c4, rfl⟩ := hy
  unfold maxLen at hlb hle
  obtain ⟨R, hR⟩ : ∃ R, headOk c = R := ⟨_, rfl⟩
  have HH := Lib.hid hR
  rw [hR]
  obtain ⟨K, hK⟩ : ∃ z, c.kind = z := ⟨_, rfl⟩
  obtain ⟨A, hA⟩ : ∃ z, c.a = z := ⟨_, rfl⟩
  obtain ⟨B, hB⟩ : ∃ z, c.b = z := ⟨_, rfl⟩
  obtain ⟨t1, ht1⟩ : ∃ z, c.test.1 = z := ⟨_, rfl⟩
  obtain ⟨t2, ht2⟩ : ∃ z, c.test.2.1 = z := ⟨_, rfl⟩
  obtain ⟨t3, ht3⟩ : ∃ z, c.test.2.2 = z := ⟨_, rfl⟩
  obtain ⟨n1, hn1⟩ : ∃ z, c.inv.1.length = z := ⟨_, rfl⟩
  obtain ⟨n2, hn2⟩ : ∃ z, c.inv.2.length = z := ⟨_, rfl⟩
  obtain ⟨nb, hnb⟩ : ∃ z, c.body.length = z := ⟨_, rfl⟩
  obtain ⟨ne, hne⟩ : ∃ z, c.els.length = z := ⟨_, rfl⟩
  have htt : c.test = (t1, t2, t3) := by rw [← ht1, ← ht2, ← ht3]
  have HL := Lib.hid (And.intro (And.intro hK (And.intro hA hB)) (And.intro htt (And.intro hnb hne)))
  have hbA := below_alloc w (.cells #[.int .i64 K, .int .i64 A, .int .i64 B, .bool t1, .int .i64 t2, .int .i64 t3, .slice a1 n1 c1, .slice a2 n2 c2, .slice a3 nb c3, .slice a4 ne c4] 77)
  have hC := heap_alloc_new w (.cells #[.int .i64 K, .int .i64 A, .int .i64 B, .bool t1, .int .i64 t2, .int .i64 t3, .slice a1 n1 c1, .slice a2 n2 c2, .slice a3 nb c3, .slice a4 ne c4] 77)
  rw [hn1] at h1
  rw [hn2] at h2
  have HR := Lib.hid (And.intro h1 h2)
  have HC := Lib.hid (And.intro hC hbA)
  rw [hnb] at hlb
  rw [hne] at hle
  rw [hK, hA, hB, ht1, ht2, ht3, hn1, hn2, hnb, hne]
  clear h1 h2 hK hA hB ht1 ht2 ht3 htt hn1 hn2 hnb hne hR hC hbA
  go_enter Tryz.func132, Tryz.ntmps132
  go_upto_region 1 with fail
  go_cut [28] from 3 to 27 (fun s wc => s = .bool (kindB K && !plainB (t1, t2, t3) c.inv nb ne) ∧ wc.heap[w.heap.size]? = some (.cells #[.int .i64 K, .int .i64 A, .int .i64 B, .bool t1, .int .i64 t2, .int .i64 t3, .slice a1 n1 c1, .slice a2 n2 c2, .slice a3 nb c3, .slice a4 ne c4] 77 (0, 0)) ∧ Below w.heap.size w wc)
  case first =>
    go_wp2_with fail
    refine (isBasicI_any _ _ _ _ _ _ _ _ _ _ _ _ _ _ _ _ _ _ _).mono ?_
    rintro e w2 ⟨rfl, hb2⟩
    have hC2 := box_keep HC.out.1 hb2
    have HC2 := Lib.hid (And.intro hC2 (bt HC.out.2 hb2))
    have q0 := cell_of_row _ _ 0 _ _ _ hC2; have q1 := cell_of_row _ _ 1 _ _ _ hC2; have q2 := cell_of_row _ _ 2 _ _ _ hC2; have q3 := cell_of_row _ _ 3 _ _ _ hC2; have q4 := cell_of_row _ _ 4 _ _ _ hC2; have q5 := cell_of_row _ _ 5 _ _ _ hC2; have q6 := cell_of_row _ _ 6 _ _ _ hC2; have q7 := cell_of_row _ _ 7 _ _ _ hC2; have q8 := cell_of_row _ _ 8 _ _ _ hC2; have q9 := cell_of_row _ _ 9 _ _ _ hC2
    have hCz := box_lt hC2
    clear hC2 hb2
    cases ek : kindB K
    · have EK := Lib.hid ek
      go_wp2
      go_meet
      case rel => exact ⟨by rw [EK.out]; rfl, HC2.out.1, HC2.out.2⟩
    · have EK := Lib.hid ek
      cases t1
      · by_cases z2 : t2 = 0
        · have y2 : (t2 == 0) = true := by simp [z2]
          by_cases z3 : t3 = 0
          · have y3 : (t3 == 0) = true := by simp [z3]
            subst z2 z3
            go_wp2_with fail
            refine (noAsnI_any _ _ c.inv _ (HR.out.1.keep HC2.out.2) (HR.out.2.keep HC2.out.2)).mono ?_
            rintro e w3 ⟨rfl, hb3⟩
            have hC3 := box_keep HC2.out.1 hb3
            have HC3 := Lib.hid (And.intro hC3 (bt HC2.out.2 hb3))
            have r0 := cell_of_row _ _ 0 _ _ _ hC3; have r1 := cell_of_row _ _ 1 _ _ _ hC3; have r2 := cell_of_row _ _ 2 _ _ _ hC3; have r3 := cell_of_row _ _ 3 _ _ _ hC3; have r4 := cell_of_row _ _ 4 _ _ _ hC3; have r5 := cell_of_row _ _ 5 _ _ _ hC3; have r6 := cell_of_row _ _ 6 _ _ _ hC3; have r7 := cell_of_row _ _ 7 _ _ _ hC3; have r8 := cell_of_row _ _ 8 _ _ _ hC3; have r9 := cell_of_row _ _ 9 _ _ _ hC3
            clear hC3 hb3
            clear q0 q1 q2 q3 q4 q5 q6 q7 q8 q9
            have hnf : nofB (false, 0, 0) = true := by decide
            cases ei : noinvB c.inv
            · have HE := Lib.hid ei
              go_wp2
              go_meet
              case rel => exact ⟨by simp [plainB, HE.out, EK.out], HC3.out.1, HC3.out.2⟩
            · have HE := Lib.hid ei
              by_cases zb : nb = 0
              · have ZB := Lib.hid zb
                have kb : decide (0 < nb) = false := by simp [zb]
                clear zb
                by_cases ze : ne = 0
                · have ZE := Lib.hid ze
                  have ke : decide (0 < ne) = false := by simp [ze]
                  clear ze
                  go_wp2
                  go_meet
                  case rel => exact ⟨by simp [plainB, HE.out, ZB.out, ZE.out, nofB, EK.out], HC3.out.1, HC3.out.2⟩
                · have ZE := Lib.hid ze
                  have ke : decide (0 < ne) = true := by simp; omega
                  clear ze
                  go_wp2
                  go_meet
                  case rel => exact ⟨by simp [plainB, HE.out, ZB.out, ZE.out, nofB, EK.out], HC3.out.1, HC3.out.2⟩
              · have ZB := Lib.hid zb
                have kb : decide (0 < nb) = true := by simp; omega
                clear zb
                go_wp2
                go_meet
                case rel => exact ⟨by simp [plainB, HE.out, ZB.out, nofB, EK.out], HC3.out.1, HC3.out.2⟩
          · have y3 : (t3 == 0) = false := by simp [z3]
            have Z3 := Lib.hid z3
            clear z3
            subst z2
            go_wp2
            go_meet
            case rel => exact ⟨by simp [plainB, nofB, Z3.out, EK.out], HC2.out.1, HC2.out.2⟩
        · have y2 : (t2 == 0) = false := by simp [z2]
          have Z2 := Lib.hid z2
          clear z2
          go_wp2
          go_meet
          case rel => exact ⟨by simp [plainB, nofB, Z2.out, EK.out], HC2.out.1, HC2.out.2⟩
      · go_wp2
        go_meet
        case rel => exact ⟨by simp [plainB, nofB, EK.out], HC2.out.1, HC2.out.2⟩
  case rest =>
    obtain ⟨rfl, hC, hb⟩ := hcut
    have HC2 := Lib.hid (And.intro hC hb)
    have hCz := box_lt hC
    have q0 := cell_of_row _ _ 0 _ _ _ hC; have q1 := cell_of_row _ _ 1 _ _ _ hC; have q2 := cell_of_row _ _ 2 _ _ _ hC; have q3 := cell_of_row _ _ 3 _ _ _ hC; have q4 := cell_of_row _ _ 4 _ _ _ hC; have q5 := cell_of_row _ _ 5 _ _ _ hC; have q6 := cell_of_row _ _ 6 _ _ _ hC; have q7 := cell_of_row _ _ 7 _ _ _ hC; have q8 := cell_of_row _ _ 8 _ _ _ hC; have q9 := cell_of_row _ _ 9 _ _ _ hC
    clear hC hb
    cases ep : (kindB K && !plainB (t1, t2, t3) c.inv nb ne)
    · have HP := Lib.hid (show kindB c.kind = true → plainB c.test c.inv c.body.length c.els.length = true by
        intro h
        rw [HL.out.1.1] at h
        rw [HL.out.2.1, HL.out.2.2.1, HL.out.2.2.2]
        rw [h] at ep
        simpa using ep)
      clear ep
      by_cases z1 : K = 1
      · have y1 : (K == 1) = true := by simp [z1]
        have Z1 := Lib.hid z1
        have HX := Lib.hid (headOk_plain (c := c) (by rw [HL.out.1.1, Z1.out]; decide) (HP.out (by rw [HL.out.1.1, Z1.out]; decide)))
        clear z1
        go_wp2_with fail
        refine (isProgI_any A _).mono ?_
        rintro e w3 ⟨rfl, rfl⟩
        cases e3 : progB A
        · have H3 := Lib.hid e3
          go_wp2
          go_ret
          exact ⟨by rw [← HH.out, HX.out, HL.out.1.1, HL.out.1.2.1, HL.out.1.2.2]; simp [Z1.out, H3.out], HC2.out.2⟩
        · have H3 := Lib.hid e3
          go_wp2_with fail
          refine (isTerm_any B _).mono ?_
          rintro e w4 ⟨rfl, rfl⟩
          go_wp2
          go_ret
          exact ⟨by rw [← HH.out, HX.out, HL.out.1.1, HL.out.1.2.1, HL.out.1.2.2]; simp [Z1.out, H3.out], HC2.out.2⟩
      have Z1 := Lib.hid z1
      have y1 : (K == 1) = false := by simp [z1]
      clear z1
      by_cases z2 : K = 2
      · have y2 : (K == 2) = true := by simp [z2]
        have Z2 := Lib.hid z2
        have HX := Lib.hid (headOk_plain (c := c) (by rw [HL.out.1.1, Z2.out]; decide) (HP.out (by rw [HL.out.1.1, Z2.out]; decide)))
        clear z2
        go_wp2_with fail
        refine (isProgI_any A _).mono ?_
        rintro e w3 ⟨rfl, rfl⟩
        cases e3 : progB A
        · have H3 := Lib.hid e3
          go_wp2
          go_ret
          exact ⟨by rw [← HH.out, HX.out, HL.out.1.1, HL.out.1.2.1, HL.out.1.2.2]; simp [Z2.out, H3.out], HC2.out.2⟩
        · have H3 := Lib.hid e3
          go_wp2_with fail
          refine (isTerm_any B _).mono ?_
          rintro e w4 ⟨rfl, rfl⟩
          go_wp2
          go_ret
          exact ⟨by rw [← HH.out, HX.out, HL.out.1.1, HL.out.1.2.1, HL.out.1.2.2]; simp [Z2.out, H3.out], HC2.out.2⟩
      have Z2 := Lib.hid z2
      have y2 : (K == 2) = false := by simp [z2]
      clear z2
      by_cases z3 : K = 3
      · have y3 : (K == 3) = true := by simp [z3]
        have Z3 := Lib.hid z3
        have HX := Lib.hid (headOk_plain (c := c) (by rw [HL.out.1.1, Z3.out]; decide) (HP.out (by rw [HL.out.1.1, Z3.out]; decide)))
        clear z3
        go_wp2_with fail
        refine (isTerm_any A _).mono ?_
        rintro e w3 ⟨rfl, rfl⟩
        cases e3 : isTermB A
        · have H3 := Lib.hid e3
          go_wp2
          go_ret
          exact ⟨by rw [← HH.out, HX.out, HL.out.1.1, HL.out.1.2.1, HL.out.1.2.2]; simp [Z3.out, H3.out], HC2.out.2⟩
        · have H3 := Lib.hid e3
          go_wp2_with fail
          refine (isTerm_any B _).mono ?_
          rintro e w4 ⟨rfl, rfl⟩
          go_wp2
          go_ret
          exact ⟨by rw [← HH.out, HX.out, HL.out.1.1, HL.out.1.2.1, HL.out.1.2.2]; simp [Z3.out, H3.out], HC2.out.2⟩
      have Z3 := Lib.hid z3
      have y3 : (K == 3) = false := by simp [z3]
      clear z3
      by_cases z4 : K = 4
      · have y4 : (K == 4) = true := by simp [z4]
        have Z4 := Lib.hid z4
        have HX := Lib.hid (headOk_plain (c := c) (by rw [HL.out.1.1, Z4.out]; decide) (HP.out (by rw [HL.out.1.1, Z4.out]; decide)))
        clear z4
        go_wp2_with fail
        refine (isProgI_any A _).mono ?_
        rintro e w3 ⟨rfl, rfl⟩
        cases e3 : progB A
        · have H3 := Lib.hid e3
          go_wp2
          go_ret
          exact ⟨by rw [← HH.out, HX.out, HL.out.1.1, HL.out.1.2.1, HL.out.1.2.2]; simp [Z4.out, H3.out], HC2.out.2⟩
        · have H3 := Lib.hid e3
          by_cases zb : B = 0
          · have yb : (B == 0) = true := by simp [zb]
            have ZB := Lib.hid zb
            clear zb
            go_wp2
            go_ret
            exact ⟨by rw [← HH.out, HX.out, HL.out.1.1, HL.out.1.2.1, HL.out.1.2.2]; simp [Z4.out, H3.out, ZB.out], HC2.out.2⟩
          · have yb : (B == 0) = false := by simp [zb]
            have ZB := Lib.hid zb
            clear zb
            go_wp2
            go_ret
            exact ⟨by rw [← HH.out, HX.out, HL.out.1.1, HL.out.1.2.1, HL.out.1.2.2]; simp [Z4.out, H3.out, ZB.out], HC2.out.2⟩
      have Z4 := Lib.hid z4
      have y4 : (K == 4) = false := by simp [z4]
      clear z4
      by_cases z5 : K = 5
      · have y5 : (K == 5) = true := by simp [z5]
        have Z5 := Lib.hid z5
        have HX := Lib.hid (headOk_plain (c := c) (by rw [HL.out.1.1, Z5.out]; decide) (HP.out (by rw [HL.out.1.1, Z5.out]; decide)))
        clear z5
        go_wp2_with fail
        refine (isTerm_any A _).mono ?_
        rintro e w3 ⟨rfl, rfl⟩
        cases e3 : isTermB A
        · have H3 := Lib.hid e3
          go_wp2
          go_ret
          exact ⟨by rw [← HH.out, HX.out, HL.out.1.1, HL.out.1.2.1, HL.out.1.2.2]; simp [Z5.out, H3.out], HC2.out.2⟩
        · have H3 := Lib.hid e3
          by_cases zb : B = 0
          · have yb : (B == 0) = true := by simp [zb]
            have ZB := Lib.hid zb
            clear zb
            go_wp2
            go_ret
            exact ⟨by rw [← HH.out, HX.out, HL.out.1.1, HL.out.1.2.1, HL.out.1.2.2]; simp [Z5.out, H3.out, ZB.out], HC2.out.2⟩
          · have yb : (B == 0) = false := by simp [zb]
            have ZB := Lib.hid zb
            clear zb
            go_wp2
            go_ret
            exact ⟨by rw [← HH.out, HX.out, HL.out.1.1, HL.out.1.2.1, HL.out.1.2.2]; simp [Z5.out, H3.out, ZB.out], HC2.out.2⟩
      have Z5 := Lib.hid z5
      have y5 : (K == 5) = false := by simp [z5]
      clear z5
      by_cases z6 : K = 6
      · have y6 : (K == 6) = true := by simp [z6]
        have Z6 := Lib.hid z6
        clear z6
        have HX := Lib.hid (show headOk c = (decide (A = 0) && (decide (B = 0) && (factB (t1, t2, t3) && noinvB c.inv))) by
          rw [headOk, HL.out.1.1, Z6.out, HL.out.1.2.1, HL.out.1.2.2, HL.out.2.1]; rfl)
        by_cases za : A = 0
        · have ya : (A == 0) = true := by simp [za]
          subst za
          by_cases zb : B = 0
          · have yb : (B == 0) = true := by simp [zb]
            subst zb
            go_wp2_with fail
            refine (factValidI_any (t1, t2, t3) _).mono ?_
            rintro e w3 ⟨rfl, hb3⟩
            have hC3 := box_keep HC2.out.1 hb3
            have HC3 := Lib.hid (And.intro hC3 (bt HC2.out.2 hb3))
            have r0 := cell_of_row _ _ 0 _ _ _ hC3; have r1 := cell_of_row _ _ 1 _ _ _ hC3; have r2 := cell_of_row _ _ 2 _ _ _ hC3; have r3 := cell_of_row _ _ 3 _ _ _ hC3; have r4 := cell_of_row _ _ 4 _ _ _ hC3; have r5 := cell_of_row _ _ 5 _ _ _ hC3; have r6 := cell_of_row _ _ 6 _ _ _ hC3; have r7 := cell_of_row _ _ 7 _ _ _ hC3; have r8 := cell_of_row _ _ 8 _ _ _ hC3; have r9 := cell_of_row _ _ 9 _ _ _ hC3
            clear hC3 hb3
            clear q0 q1 q2 q3 q4 q5 q6 q7 q8 q9
            cases e3 : factB (t1, t2, t3)
            · have H3 := Lib.hid e3
              go_wp2
              go_ret
              exact ⟨by rw [← HH.out, HX.out]; simp [H3.out], HC3.out.2⟩
            · have H3 := Lib.hid e3
              go_wp2_with fail
              refine (noAsnI_any _ _ c.inv _ (HR.out.1.keep HC3.out.2) (HR.out.2.keep HC3.out.2)).mono ?_
              rintro e w4 ⟨rfl, hb4⟩
              have hC4 := box_keep HC3.out.1 hb4
              have HC4 := Lib.hid (And.intro hC4 (bt HC3.out.2 hb4))
              have s0 := cell_of_row _ _ 0 _ _ _ hC4; have s1 := cell_of_row _ _ 1 _ _ _ hC4; have s2 := cell_of_row _ _ 2 _ _ _ hC4; have s3 := cell_of_row _ _ 3 _ _ _ hC4; have s4 := cell_of_row _ _ 4 _ _ _ hC4; have s5 := cell_of_row _ _ 5 _ _ _ hC4; have s6 := cell_of_row _ _ 6 _ _ _ hC4; have s7 := cell_of_row _ _ 7 _ _ _ hC4; have s8 := cell_of_row _ _ 8 _ _ _ hC4; have s9 := cell_of_row _ _ 9 _ _ _ hC4
              clear hC4 hb4
              clear r0 r1 r2 r3 r4 r5 r6 r7 r8 r9
              go_wp2
              go_ret
              exact ⟨by rw [← HH.out, HX.out]; simp [H3.out], HC4.out.2⟩
          · have yb : (B == 0) = false := by simp [zb]
            have ZB := Lib.hid zb
            clear zb
            go_wp2
            go_ret
            exact ⟨by rw [← HH.out, HX.out]; simp [ZB.out], HC2.out.2⟩
        · have ya : (A == 0) = false := by simp [za]
          have ZA := Lib.hid za
          clear za
          go_wp2
          go_ret
          exact ⟨by rw [← HH.out, HX.out]; simp [ZA.out], HC2.out.2⟩
      have Z6 := Lib.hid z6
      have y6 : (K == 6) = false := by simp [z6]
      clear z6
      by_cases z7 : K = 7
      · have y7 : (K == 7) = true := by simp [z7]
        have Z7 := Lib.hid z7
        clear z7
        have HX := Lib.hid (show headOk c = (decide (A = 0) && (decide (B = 0) && (factB (t1, t2, t3) && (asnB c.inv && decide (ne = 0))))) by
          rw [headOk, HL.out.1.1, Z7.out, HL.out.1.2.1, HL.out.1.2.2, HL.out.2.1, HL.out.2.2.2]; rfl)
        by_cases za : A = 0
        · have ya : (A == 0) = true := by simp [za]
          subst za
          by_cases zb : B = 0
          · have yb : (B == 0) = true := by simp [zb]
            subst zb
            go_wp2_with fail
            refine (factValidI_any (t1, t2, t3) _).mono ?_
            rintro e w3 ⟨rfl, hb3⟩
            have hC3 := box_keep HC2.out.1 hb3
            have HC3 := Lib.hid (And.intro hC3 (bt HC2.out.2 hb3))
            have r0 := cell_of_row _ _ 0 _ _ _ hC3; have r1 := cell_of_row _ _ 1 _ _ _ hC3; have r2 := cell_of_row _ _ 2 _ _ _ hC3; have r3 := cell_of_row _ _ 3 _ _ _ hC3; have r4 := cell_of_row _ _ 4 _ _ _ hC3; have r5 := cell_of_row _ _ 5 _ _ _ hC3; have r6 := cell_of_row _ _ 6 _ _ _ hC3; have r7 := cell_of_row _ _ 7 _ _ _ hC3; have r8 := cell_of_row _ _ 8 _ _ _ hC3; have r9 := cell_of_row _ _ 9 _ _ _ hC3
            clear hC3 hb3
            clear q0 q1 q2 q3 q4 q5 q6 q7 q8 q9
            cases e3 : factB (t1, t2, t3)
            · have H3 := Lib.hid e3
              go_wp2
              go_ret
              exact ⟨by rw [← HH.out, HX.out]; simp [H3.out], HC3.out.2⟩
            · have H3 := Lib.hid e3
              go_wp2_with fail
              refine (asnValidI_any _ _ c.inv _ (HR.out.1.keep HC3.out.2) (HR.out.2.keep HC3.out.2)).mono ?_
              rintro e w4 ⟨rfl, hb4⟩
              have hC4 := box_keep HC3.out.1 hb4
              have HC4 := Lib.hid (And.intro hC4 (bt HC3.out.2 hb4))
              have s0 := cell_of_row _ _ 0 _ _ _ hC4; have s1 := cell_of_row _ _ 1 _ _ _ hC4; have s2 := cell_of_row _ _ 2 _ _ _ hC4; have s3 := cell_of_row _ _ 3 _ _ _ hC4; have s4 := cell_of_row _ _ 4 _ _ _ hC4; have s5 := cell_of_row _ _ 5 _ _ _ hC4; have s6 := cell_of_row _ _ 6 _ _ _ hC4; have s7 := cell_of_row _ _ 7 _ _ _ hC4; have s8 := cell_of_row _ _ 8 _ _ _ hC4; have s9 := cell_of_row _ _ 9 _ _ _ hC4
              clear hC4 hb4
              clear r0 r1 r2 r3 r4 r5 r6 r7 r8 r9
              cases e4 : asnB c.inv
              · have H4 := Lib.hid e4
                go_wp2
                go_ret
                exact ⟨by rw [← HH.out, HX.out]; simp [H3.out, H4.out], HC4.out.2⟩
              · have H4 := Lib.hid e4
                by_cases ze : ne = 0
                all_goals
                  have ZE := Lib.hid ze
                  go_wp2
                  go_ret
                  exact ⟨by rw [← HH.out, HX.out]; simp [H3.out, H4.out, ZE.out], HC4.out.2⟩
          · have yb : (B == 0) = false := by simp [zb]
            have ZB := Lib.hid zb
            clear zb
            go_wp2
            go_ret
            exact ⟨by rw [← HH.out, HX.out]; simp [ZB.out], HC2.out.2⟩
        · have ya : (A == 0) = false := by simp [za]
          have ZA := Lib.hid za
          clear za
          go_wp2
          go_ret
          exact ⟨by rw [← HH.out, HX.out]; simp [ZA.out], HC2.out.2⟩
      have Z7 := Lib.hid z7
      have y7 : (K == 7) = false := by simp [z7]
      clear z7
      go_wp2
      go_ret
      exact ⟨by
        rw [← HH.out]
        cases hh : headOk c with
        | false => rfl
        | true =>
          have := basic_kind (headOk_basic hh (by rw [HL.out.1.1]; exact Z6.out) (by rw [HL.out.1.1]; exact Z7.out))
          rw [HL.out.1.1] at this
          have := Z1.out; have := Z2.out; have := Z3.out; have := Z4.out; have := Z5.out
          omega, HC2.out.2⟩
    · have HX := Lib.hid (show headOk c = false by
        simp only [Bool.and_eq_true, Bool.not_eq_true'] at ep
        exact headOk_bad (by rw [HL.out.1.1]; exact ep.1) (by rw [HL.out.2.1, HL.out.2.2.1, HL.out.2.2.2]; exact ep.2))
      go_wp2
      go_ret
      exact ⟨by rw [← HH.out, HX.out]; rfl, HC2.out.2⟩
end Go.Proofs.YtgfnoinkajfndaaGreat
