/- Walks: cases of two assertions: the reference. -/
import Derived.Test.YthoingdcmdhllaaCase6
namespace Go.Proofs.Ythoingdcmdhllaa
open Go.RowKit

theorem range1_no {p : Nat → Bool} {k n : Nat} (hk : k < n) (h : p (k + 1) = false) : (List.range' 1 n).all p = false := by
  rw [List.all_eq_false]; exact ⟨k + 1, by rw [List.mem_range'_1]; omega, by simp [h]⟩
theorem range1_yes {p : Nat → Bool} {k : Nat} (h1 : (List.range' 1 k).all p = true) (h : p (k + 1) = true) : (List.range' 1 (k + 1)).all p = true := by
  rw [List.range'_concat, List.all_append, h1, Nat.one_mul, Nat.add_comm 1 k]; simp [h]
set_option maxRecDepth 100000 in
set_option maxHeartbeats 3200000 in
theorem l6Both_any {S1 S2 S3 S4 : Nat → Prop} (v1 v2 u1 u2 : Value) (a b : Asn) (w : World) (h1 : RL w S1 v1 a.1) (h2 : RL w S2 v2 a.2) (k1 : RL w S3 u1 b.1) (k2 : RL w S4 u2 b.2) (ha : asnB a = true) (hb0 : asnB b = true) :
    Calls Try.prog 132 #[.agg #[v1, v2], .agg #[u1, u2]] w fun e w' => ∃ v, e = .returned v ∧ w'.ownsRow w.heap.size 4 1 v 9 (flagsOf (termsM (a.1 ++ b.1, a.2 ++ b.2))) ∧ Below w.heap.size w w' := by
  have hfa : (a.1.all factB = true ∧ a.2.all atomB = true) ∧ (b.1.all factB = true ∧ b.2.all atomB = true) := by
    simp only [asnB, factsB, Bool.and_eq_true] at ha hb0
    exact ⟨⟨ha.1.2, ha.2.2⟩, ⟨hb0.1.2, hb0.2.2⟩⟩
  have hl : (a.1.length ≤ 12 ∧ a.2.length ≤ 6) ∧ (b.1.length ≤ 12 ∧ b.2.length ≤ 6) := by
    simp only [asnB, factsB, Bool.and_eq_true, decide_eq_true_eq] at ha hb0
    exact ⟨⟨ha.1.1, ha.2.1⟩, ⟨hb0.1.1, hb0.2.1⟩⟩
  obtain ⟨a1, a2⟩ := a
  obtain ⟨b1, b2⟩ := b
  simp only at h1 h2 k1 k2 hfa hl
  obtain ⟨⟨n1, n2⟩, ⟨n3, n4⟩⟩ := hl
  have hx1 : (a1 ++ b1).all factB = true := by rw [List.all_append, hfa.1.1, hfa.2.1]; rfl
  have hx2 : (a2 ++ b2).all atomB = true := by rw [List.all_append, hfa.1.2, hfa.2.2]; rfl
  have HX := Lib.hid (And.intro hx1 hx2)
  obtain ⟨p1, c1, rfl⟩ := h1.form
  obtain ⟨p2, c2, rfl⟩ := h2.form
  obtain ⟨p3, c3, rfl⟩ := k1.form
  obtain ⟨p4, c4, rfl⟩ := k2.form
  clear hfa hx1 hx2 ha hb0
  go_enter Try.func132, Try.ntmps132
  go_wp2
  generalize hw0 : ((w.alloc (.cells #[.slice p1 a1.length c1, .slice p2 a2.length c2] 34)).alloc (.cells #[.slice p3 b1.length c3, .slice p4 b2.length c4] 34)) = w0
  have hc0 : w0.cell? ⟨w.heap.size, 0, none⟩ = some (.slice p1 a1.length c1) := by rw [← hw0]; simp [go_sem]
  have hc1 : w0.cell? ⟨w.heap.size, 1, none⟩ = some (.slice p2 a2.length c2) := by rw [← hw0]; simp [go_sem]
  have hd0 : w0.cell? ⟨w.heap.size + 1, 0, none⟩ = some (.slice p3 b1.length c3) := by rw [← hw0]; simp [go_sem]
  have hd1 : w0.cell? ⟨w.heap.size + 1, 1, none⟩ = some (.slice p4 b2.length c4) := by rw [← hw0]; simp [go_sem]
  have hW : Below w.heap.size w w0 := by rw [← hw0]; exact ba (below_alloc _ _) _
  clear hw0
  have q1 := h1.keep hW
  have q2 := h2.keep hW
  have q3 := k1.keep hW
  have q4 := k2.keep hW
  clear h1 h2 k1 k2
  go_region_held3 (fun w' => (w'.cell? ⟨w.heap.size, 0, none⟩ = some (.slice p1 a1.length c1) ∧ w'.cell? ⟨w.heap.size, 1, none⟩ = some (.slice p2 a2.length c2)) ∧ (w'.cell? ⟨w.heap.size + 1, 0, none⟩ = some (.slice p3 b1.length c3) ∧ w'.cell? ⟨w.heap.size + 1, 1, none⟩ = some (.slice p4 b2.length c4)))
    (exact ⟨⟨(by repeat (first | with_reducible exact hc0 | (with_reducible refine (fr_set _ _ _).cell (by first | (simp; done) | (simp; omega) | omega) ?_) | exact cell_keep (by repeat (first | exact Below.refl _ _ | with_reducible assumption | exact below_alloc _ _ | (refine Below.setCell ?_ (by first | (simp; done) | (simp; omega) | omega) _) | apply bd | apply ba | apply be)) hc0)), (by repeat (first | with_reducible exact hc1 | (with_reducible refine (fr_set _ _ _).cell (by first | (simp; done) | (simp; omega) | omega) ?_) | exact cell_keep (by repeat (first | exact Below.refl _ _ | with_reducible assumption | exact below_alloc _ _ | (refine Below.setCell ?_ (by first | (simp; done) | (simp; omega) | omega) _) | apply bd | apply ba | apply be)) hc1))⟩, ⟨(by repeat (first | with_reducible exact hd0 | (with_reducible refine (fr_set _ _ _).cell (by first | (simp; done) | (simp; omega) | omega) ?_) | exact cell_keep (by repeat (first | exact Below.refl _ _ | with_reducible assumption | exact below_alloc _ _ | (refine Below.setCell ?_ (by first | (simp; done) | (simp; omega) | omega) _) | apply bd | apply ba | apply be)) hd0)), (by repeat (first | with_reducible exact hd1 | (with_reducible refine (fr_set _ _ _).cell (by first | (simp; done) | (simp; omega) | omega) ?_) | exact cell_keep (by repeat (first | exact Below.refl _ _ | with_reducible assumption | exact below_alloc _ _ | (refine Below.setCell ?_ (by first | (simp; done) | (simp; omega) | omega) _) | apply bd | apply ba | apply be)) hd1))⟩⟩)
    (first
      | (go_at_call 171; go_must (refine (l3Terms_any _ _ (a1 ++ b1, a2 ++ b2) _ (rl6.keep (Below.trans hb68 (by repeat (first | exact Below.refl _ _ | with_reducible assumption | exact below_alloc _ _ | (refine Below.setCell ?_ (by first | (simp; done) | (simp; omega) | omega) _) | apply bd | apply ba | apply be)))) (rl8.keep (by repeat (first | exact Below.refl _ _ | with_reducible assumption | exact below_alloc _ _ | (refine Below.setCell ?_ (by first | (simp; done) | (simp; omega) | omega) _) | apply bd | apply ba | apply be))) HX.out.1 HX.out.2).mono ?_; rintro e w9 ⟨v9, rfl, hown, hb9'⟩; have hb9 : Below w0.heap.size w0 w9 := bt (bt hb8 (by repeat (first | exact Below.refl _ _ | with_reducible assumption | exact below_alloc _ _ | (refine Below.setCell ?_ (by first | (simp; done) | (simp; omega) | omega) _) | apply bd | apply ba | apply be))) hb9'))
      | (refine step_appE0 (l := a1) (by rfl) (.tmp 5) (.tmp 7) _ (by rfl) ti_fact (by rfl) (by rfl) (q1.keep (by repeat (first | exact Below.refl _ _ | with_reducible assumption | exact below_alloc _ _ | (refine Below.setCell ?_ (by first | (simp; done) | (simp; omega) | omega) _) | apply bd | apply ba | apply be))) (by omega) ?_; intro B1 hB1 v5 w5 y1 r1 t1 hb5'; have hle1 : w0.heap.size ≤ B1 := (by rw [hB1]; exact Below.size (w := w0) (B := w0.heap.size) (by repeat (first | exact Below.refl _ _ | with_reducible assumption | exact below_alloc _ _ | (refine Below.setCell ?_ (by first | (simp; done) | (simp; omega) | omega) _) | apply bd | apply ba | apply be))); have hle5 : B1 ≤ w5.heap.size := (by rw [hB1]; exact hb5'.size); have HB1 := Lib.hid hB1; clear hB1; have hb5 : Below w0.heap.size w0 w5 := Below.trans (by repeat (first | exact Below.refl _ _ | with_reducible assumption | exact below_alloc _ _ | (refine Below.setCell ?_ (by first | (simp; done) | (simp; omega) | omega) _) | apply bd | apply ba | apply be)) (hb5'.mono hle1))
      | (refine step_appE (l := b1) (n := a1.length) (by rfl) (.tmp 8) (.tmp 10) _ (by rfl) (B := B1) ti_fact (by rfl) (r1.keep (by repeat (first | exact Below.refl _ _ | with_reducible assumption | exact below_alloc _ _ | (refine Below.setCell ?_ (by first | (simp; done) | (simp; omega) | omega) _) | apply bd | apply ba | apply be))) (by rfl) (q3.keep (by repeat (first | exact Below.refl _ _ | with_reducible assumption | exact below_alloc _ _ | (refine Below.setCell ?_ (by first | (simp; done) | (simp; omega) | omega) _) | apply bd | apply ba | apply be))) (by omega) (Nat.le_trans hle5 (Below.size (w := w5) (B := w5.heap.size) (by repeat (first | exact Below.refl _ _ | with_reducible assumption | exact below_alloc _ _ | (refine Below.setCell ?_ (by first | (simp; done) | (simp; omega) | omega) _) | apply bd | apply ba | apply be)))) ?_; intro v6 w6 y2 r2 _ t2 hb6'; have hb6 : Below w0.heap.size w0 w6 := Below.trans (by repeat (first | exact Below.refl _ _ | with_reducible assumption | exact below_alloc _ _ | (refine Below.setCell ?_ (by first | (simp; done) | (simp; omega) | omega) _) | apply bd | apply ba | apply be)) (hb6'.mono hle1); have rl6 := rowE_app r2 r1.len t1 t2; obtain ⟨d6, m6, k6, rfl⟩ := rl6.forms)
      | (refine step_appE0 (l := a2) (by rfl) (.tmp 12) (.tmp 14) _ (by rfl) ti_atom (by rfl) (by rfl) (q2.keep (by repeat (first | exact Below.refl _ _ | with_reducible assumption | exact below_alloc _ _ | (refine Below.setCell ?_ (by first | (simp; done) | (simp; omega) | omega) _) | apply bd | apply ba | apply be))) (by omega) ?_; intro B2 hB2 v7 w7 y3 r3 t3 hb7'; have hle2 : w0.heap.size ≤ B2 := (by rw [hB2]; exact Below.size (w := w0) (B := w0.heap.size) (by repeat (first | exact Below.refl _ _ | with_reducible assumption | exact below_alloc _ _ | (refine Below.setCell ?_ (by first | (simp; done) | (simp; omega) | omega) _) | apply bd | apply ba | apply be))); have hle26 : w6.heap.size ≤ B2 := (by rw [hB2]; exact Below.size (w := w6) (B := w6.heap.size) (by repeat (first | exact Below.refl _ _ | with_reducible assumption | exact below_alloc _ _ | (refine Below.setCell ?_ (by first | (simp; done) | (simp; omega) | omega) _) | apply bd | apply ba | apply be))); have hle7 : B2 ≤ w7.heap.size := (by rw [hB2]; exact hb7'.size); have HB2 := Lib.hid hB2; clear hB2; have hb7 : Below w0.heap.size w0 w7 := Below.trans (by repeat (first | exact Below.refl _ _ | with_reducible assumption | exact below_alloc _ _ | (refine Below.setCell ?_ (by first | (simp; done) | (simp; omega) | omega) _) | apply bd | apply ba | apply be)) (hb7'.mono hle2); have hb67 : Below w6.heap.size w6 w7 := Below.trans (by repeat (first | exact Below.refl _ _ | with_reducible assumption | exact below_alloc _ _ | (refine Below.setCell ?_ (by first | (simp; done) | (simp; omega) | omega) _) | apply bd | apply ba | apply be)) (hb7'.mono hle26))
      | (refine step_appE (l := b2) (n := a2.length) (by rfl) (.tmp 15) (.tmp 17) _ (by rfl) (B := B2) ti_atom (by rfl) (r3.keep (by repeat (first | exact Below.refl _ _ | with_reducible assumption | exact below_alloc _ _ | (refine Below.setCell ?_ (by first | (simp; done) | (simp; omega) | omega) _) | apply bd | apply ba | apply be))) (by rfl) (q4.keep (by repeat (first | exact Below.refl _ _ | with_reducible assumption | exact below_alloc _ _ | (refine Below.setCell ?_ (by first | (simp; done) | (simp; omega) | omega) _) | apply bd | apply ba | apply be))) (by omega) (Nat.le_trans hle7 (Below.size (w := w7) (B := w7.heap.size) (by repeat (first | exact Below.refl _ _ | with_reducible assumption | exact below_alloc _ _ | (refine Below.setCell ?_ (by first | (simp; done) | (simp; omega) | omega) _) | apply bd | apply ba | apply be)))) ?_; intro v8 w8 y4 r4 _ t4 hb8'; have hb8 : Below w0.heap.size w0 w8 := Below.trans (by repeat (first | exact Below.refl _ _ | with_reducible assumption | exact below_alloc _ _ | (refine Below.setCell ?_ (by first | (simp; done) | (simp; omega) | omega) _) | apply bd | apply ba | apply be)) (hb8'.mono hle2); have hb68 : Below w6.heap.size w6 w8 := Below.trans (by repeat (first | exact Below.refl _ _ | with_reducible assumption | exact below_alloc _ _ | (refine Below.setCell ?_ (by first | (simp; done) | (simp; omega) | omega) _) | apply bd | apply ba | apply be)) (hb8'.mono hle26); have rl8 := rowE_app r4 r3.len t3 t4; obtain ⟨d8, m8, k8, rfl⟩ := rl8.forms; clear q1 q2 q3 q4))
  all_goals
    have HO := Lib.hid (And.intro (own_mono hown (Nat.le_trans hW.size (Below.size (w := w0) (B := w0.heap.size) (bt hb8 (by repeat (first | exact Below.refl _ _ | with_reducible assumption | exact below_alloc _ _ | (refine Below.setCell ?_ (by first | (simp; done) | (simp; omega) | omega) _) | apply bd | apply ba | apply be)))))) (bt hW hb9))
    clear hown hb9 hb9'
    go_wp2
    go_ret
    exact ⟨_, rfl, HO.out.1, HO.out.2⟩
set_option maxRecDepth 100000 in
set_option maxHeartbeats 6400000 in
theorem l6IsCase_any {S1 S2 : Nat → Prop} (v1 v2 tv_ cv : Value) (a : Asn) (M B : Nat) (cl : List Int) (w : World) (h1 : RL w S1 v1 a.1) (h2 : RL w S2 v2 a.2) (ht : w.ownsRow B 4 1 tv_ 9 (flagsOf M)) (hc : RInts w cv cl) (ha : asnB a = true) :
    Calls Try.prog 183 #[.agg #[v1, v2], tv_, cv] w fun e w' => e = .returned (.bool (isCaseB M a cl)) ∧ Below w.heap.size w w' := by
  have hfa : (a.1.all factB = true ∧ a.2.all atomB = true) ∧ a.2.length ≤ 1048576 := by
    simp only [asnB, factsB, Bool.and_eq_true, decide_eq_true_eq] at ha
    exact ⟨⟨ha.1.2, ha.2.2⟩, by omega⟩
  have HFA := Lib.hid hfa
  obtain ⟨xa1, xc1, rfl⟩ := h1.form
  obtain ⟨xa2, xc2, rfl⟩ := h2.form
  obtain ⟨va, vc, rfl⟩ := hc.form
  have hmv := hc.len
  unfold maxLen at hmv
  obtain ⟨tb, tcap, rfl⟩ := flags_form ht
  have htl := (ht.lt _ rfl).2
  have htc : ∀ k, k < 9 → w.cell? ⟨tb, k, none⟩ = some (.bool (M.testBit k)) := fun k hk => by
    rw [ht.cellAt k (by omega), flags_at M k hk]
  have HTC := Lib.hid htc
  clear hfa ht htc ha
  by_cases hL : cl.length = 9
  rotate_left
  · have hne : ((cl.length : Int) != 9) = true := by simp; omega
    have HR := Lib.hid (show isCaseB M a cl = false by simp [isCaseB, hL])
    clear hL
    go_enter Try.func183, Try.ntmps183
    go_wp2
    go_ret
    exact ⟨by rw [HR.out]; rfl, (by repeat (first | exact Below.refl _ _ | with_reducible assumption | exact below_alloc _ _ | (refine Below.setCell ?_ (by first | (simp; done) | (simp; omega) | omega) _) | apply bd | apply ba | apply be))⟩
  have hne : ((cl.length : Int) != 9) = false := by simp; omega
  obtain ⟨gb, co, cc, hfe, _, _, hcell⟩ := hc.ne (by omega)
  simp only [Value.slice.injEq] at hfe
  obtain ⟨rfl, hh, rfl⟩ := hfe
  clear hh
  have HCV := Lib.hid hc
  have hbl := World.block_lt_of_cell? w _ (hcell 0 (by omega))
  have HC := Lib.hid hcell
  have HL := Lib.hid hL
  have hc0 := hcell 0 (by omega)
  rw [Nat.add_zero] at hc0
  have h0l : (0 : Int) < (cl.length : Int) := by omega
  obtain ⟨Z, hZ⟩ : ∃ Z, gi cl 0 = Z := ⟨_, rfl⟩
  rw [hZ] at hc0
  clear hcell hL hc
  by_cases hz0 : Z = 0
  rotate_left
  · have hzb : (Z != 0) = true := by simp [hz0]
    have HR := Lib.hid (show isCaseB M a cl = false by rw [isCaseB, hZ]; simp [hz0])
    clear hZ hz0
    go_enter Try.func183, Try.ntmps183
    go_wp2
    go_ret
    exact ⟨by rw [HR.out]; rfl, (by repeat (first | exact Below.refl _ _ | with_reducible assumption | exact below_alloc _ _ | (refine Below.setCell ?_ (by first | (simp; done) | (simp; omega) | omega) _) | apply bd | apply ba | apply be))⟩
  have hzb : (Z != 0) = false := by simp [hz0]
  have HR := Lib.hid (show isCaseB M a cl = ((List.range' 1 8).all (stepS M cl) && (a.1.all (fitsF cl) && apartB (filledL cl a.2))) by rw [isCaseB, hZ, HL.out, hz0]; rfl)
  clear hZ hz0
  go_enter Try.func183, Try.ntmps183
  go_wp2
  go_loopg [7] 8 (fun q i wr => ∃ k : Nat, k + q = 8 ∧ i = .int .i64 ((k : Int) + 1) ∧ (List.range' 1 k).all (stepS M cl) = true ∧ (wr.cell? ⟨w.heap.size, 0, none⟩ = some (.slice xa1 a.1.length xc1) ∧ wr.cell? ⟨w.heap.size, 1, none⟩ = some (.slice xa2 a.2.length xc2)) ∧ Below w.heap.size w wr)
  case atStart => exact ⟨0, by omega, rfl, rfl, ⟨by simp [go_sem], by simp [go_sem]⟩, below_alloc _ _⟩
  case round =>
    clear hc0
    obtain ⟨k, hk, rfl, hal, ⟨hc0, hc1⟩, hb⟩ := hrel
    have HK := Lib.hid hk
    have HAL := Lib.hid hal
    clear hk hal
    by_cases hk8 : k < 8
    · have hki : (k : Int) + 1 < 9 := by omega
      have hki' : (k : Int) + 1 < (cl.length : Int) := by rw [HL.out]; omega
      have hcs := cell_below hb (p := ⟨gb, co + (k + 1), none⟩) hbl (HC.out (k + 1) (by rw [HL.out]; omega))
      have htk := cell_below hb (p := ⟨tb, k + 1, none⟩) htl (HTC.out (k + 1) (by omega))
      obtain ⟨E, hE⟩ : ∃ E, gi cl (k + 1) = E := ⟨_, rfl⟩
      obtain ⟨q, hq⟩ : ∃ q, M.testBit (k + 1) = q := ⟨_, rfl⟩
      have hst : stepS M cl (k + 1) = ((q == decide (0 ≤ E)) && (decide (-1 ≤ E) && (decide (E ≤ (k : Int) + 1) && (decide (E < 0) || (gi cl E.toNat == E))))) := by rw [stepS, hq, hE]; rfl
      rw [hE] at hcs
      rw [hq] at htk
      clear hE hq
      have HBAD := Lib.hid (fun h : stepS M cl (k + 1) = false => show isCaseB M a cl = false by rw [HR.out, range1_no hk8 h]; rfl)
      by_cases hE0 : 0 ≤ E
      · cases q with
        | false =>
          have HB := Lib.hid (HBAD.out (by rw [hst]; rw [decide_eq_true hE0]; rfl))
          clear hst
          go_wp2
          go_ret
          exact ⟨by rw [HB.out]; rfl, hb⟩
        | true =>
          have hlt : ¬ E < -1 := by omega
          by_cases hE1 : (k : Int) + 1 < E
          · have HB := Lib.hid (HBAD.out (by rw [hst]; rw [decide_eq_false (p := E ≤ (k : Int) + 1) (by omega)]; simp))
            clear hst
            go_wp2
            go_ret
            exact ⟨by rw [HB.out]; rfl, hb⟩
          · obtain ⟨n, rfl⟩ := Int.eq_ofNat_of_zero_le hE0
            have hn9 : (n : Int) < (cl.length : Int) := by rw [HL.out]; omega
            have hcn := cell_below hb (p := ⟨gb, co + n, none⟩) hbl (HC.out n (by rw [HL.out]; omega))
            obtain ⟨D, hD⟩ : ∃ D, gi cl n = D := ⟨_, rfl⟩
            rw [hD] at hcn
            rw [Int.toNat_natCast, hD, decide_eq_true hE0, decide_eq_true (show (-1 : Int) ≤ (n : Int) by omega), decide_eq_true (show (n : Int) ≤ (k : Int) + 1 by omega), decide_eq_false (show ¬ (n : Int) < 0 by omega)] at hst
            clear hD
            by_cases hDn : D = (n : Int)
            · have hDb : (D != (n : Int)) = false := by simp [hDn]
              have HS := Lib.hid (range1_yes HAL.out (show stepS M cl (k + 1) = true by rw [hst]; simp [hDn]))
              clear hst
              go_wp2
              go_roundg (gk - 1)
              case rel => exact ⟨k + 1, by have := HK.out; omega, by go_num, HS.out, ⟨hc0, hc1⟩, hb⟩
              case measure => have := HK.out; omega
            · have hDb : (D != (n : Int)) = true := by simp [hDn]
              have HB := Lib.hid (HBAD.out (by rw [hst]; simp [hDn]))
              clear hst
              go_wp2
              go_ret
              exact ⟨by rw [HB.out]; rfl, hb⟩
      · cases q with
        | true =>
          have HB := Lib.hid (HBAD.out (by rw [hst]; rw [decide_eq_false hE0]; rfl))
          clear hst
          go_wp2
          go_ret
          exact ⟨by rw [HB.out]; rfl, hb⟩
        | false =>
          by_cases hlt : E < -1
          · have HB := Lib.hid (HBAD.out (by rw [hst]; rw [decide_eq_false (p := -1 ≤ E) (by omega)]; simp))
            clear hst
            go_wp2
            go_ret
            exact ⟨by rw [HB.out]; rfl, hb⟩
          · have hgt : ¬ (k : Int) + 1 < E := by omega
            have HS := Lib.hid (range1_yes HAL.out (show stepS M cl (k + 1) = true by rw [hst]; rw [decide_eq_false hE0, decide_eq_true (show -1 ≤ E by omega), decide_eq_true (show E ≤ (k : Int) + 1 by omega), decide_eq_true (show E < 0 by omega)]; rfl))
            clear hst
            go_wp2
            go_roundg (gk - 1)
            case rel => exact ⟨k + 1, by have := HK.out; omega, by go_num, HS.out, ⟨hc0, hc1⟩, hb⟩
            case measure => have := HK.out; omega
    · obtain rfl : k = 8 := by have := HK.out; omega
      have HR' := Lib.hid (show isCaseB M a cl = (a.1.all (fitsF cl) && apartB (filledL cl a.2)) by rw [HR.out, HAL.out]; rfl)
      cases hf : a.1.all (fitsF cl)
      · have HF := Lib.hid hf
        clear hf
        go_wp2_with fail
        refine (cb (l5Fits_any _ _ a.1 cl _ (h1.keep hb) (HCV.out.keep hb) HFA.out.1.1 HL.out) HF.out).mono ?_
        rintro e w5 ⟨rfl, hb5⟩
        go_wp2
        go_ret
        exact ⟨by rw [HR'.out, HF.out]; rfl, bt hb hb5⟩
      · have HF := Lib.hid hf
        clear hf
        go_wp2_with fail
        refine (cb (l5Fits_any _ _ a.1 cl _ (h1.keep hb) (HCV.out.keep hb) HFA.out.1.1 HL.out) HF.out).mono ?_
        rintro e w5 ⟨rfl, hb5⟩
        replace hc0 := cell_keep hb5 hc0
        replace hc1 := cell_keep hb5 hc1
        have hb05 := bt hb hb5
        go_wp2_with fail
        refine (filledS_any _ _ cl a.2 _ (HCV.out.keep hb05) HL.out (h2.keep hb05) HFA.out.1.2 HFA.out.2).mono ?_
        rintro e w6 ⟨v6, rfl, hA, hb6⟩
        have hrl := hA.rl
        obtain ⟨fa, fc, rfl⟩ := hrl.form
        go_wp2_with fail
        refine (l5Apart_any _ (filledL cl a.2) _ hrl).mono ?_
        rintro e w7 ⟨rfl, hb7⟩
        go_wp2
        go_ret
        exact ⟨by rw [HR'.out, HF.out]; rfl, bt hb05 (bt hb6 hb7)⟩
end Go.Proofs.Ythoingdcmdhllaa
