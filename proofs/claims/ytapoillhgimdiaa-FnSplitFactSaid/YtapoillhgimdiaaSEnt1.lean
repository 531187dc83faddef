/- Walks: consistency, entailment: the reference. -/
import Derived.Test.YtapoillhgimdiaaSSkA
import Derived.Deep.RegionHeld3
namespace Go.Proofs.Ytapoillhgimdiaa
open Go.RowKit

theorem open_cls {M : Nat} (h0 : M.testBit 0 = true) : ClsP M [0] (openL 8) 1 where
  hp := rfl
  hq := rfl
  ag i hi := by
    obtain rfl : i = 0 := by omega
    rfl
  neg i h1 h9 := by
    obtain ⟨k, rfl⟩ : ∃ k, i = k + 1 := ⟨i - 1, by omega⟩
    show gi (0 :: reps (-1) 8) (k + 1) = -1
    simp only [gi, reps, List.getD_eq_getElem?_getD, List.getElem?_cons_succ, List.getElem?_replicate]
    rw [if_pos (by omega)]; rfl
  st i hi := by
    obtain rfl : i = 0 := by omega
    rw [stepC, if_pos h0]; rfl
theorem open_cases {M : Nat} {a : Asn} (h0 : M.testBit 0 = true) : casesL M a = restL M a 8 [0] := by
  rw [casesL, rest_succ, chC, if_pos (by exact h0)]
  simp [List.range_succ]
theorem cov_one (a : Asn) : ∀ j, (termsM a).testBit j = true → (termM (termsM a) 0).testBit j = true := fun j h => by rw [one_bit, h]; rfl
theorem one_zero (m : Nat) : (termM m 0).testBit 0 = true := by rw [one_bit]; simp
theorem one_pos {m j : Nat} (h : 1 ≤ j) : (termM m 0).testBit j = m.testBit j := by
  rw [one_bit, decide_eq_false (by omega), Bool.or_false]
theorem first_all {M : Nat} {a : Asn} (ha : asnB a = true) (hcov : ∀ j, (termsM a).testBit j = true → M.testBit j = true) : ∀ n, FirstP M a n
  | 0 => first_zero ha hcov
  | n + 1 => first_succ ha (first_all ha hcov n)
/-- The first case, from its start. -/
theorem l5First_any {S1 S2 : Nat → Prop} (v1 v2 tv_ cv : Value) (M Mf B B2 : Nat) (a : Asn) (r : Option (List Int)) (w : World) (h1 : RL w S1 v1 a.1) (h2 : RL w S2 v2 a.2) (ht : w.ownsRow B 4 1 tv_ 9 (flagsOf Mf)) (hc : w.ownsRow B2 3 1 cv 9 (ints (openL 8))) (ha : asnB a = true)
    (hcov : ∀ j, (termsM a).testBit j = true → M.testBit j = true) (h0 : M.testBit 0 = true) (hbit : ∀ j, 1 ≤ j → M.testBit j = Mf.testBit j) (hr : firstO M a = r) :
    Calls Try.prog 201 #[.agg #[v1, v2], tv_, cv, .int .i64 1] w fun e w' => ∃ v', e = .returned (.tuple #[v', .bool r.isSome]) ∧ (∀ cl, r = some cl → w'.ownsRow w.heap.size 3 1 v' cl.length (ints cl)) ∧ Below w.heap.size w w' := by
  obtain ⟨tb, tcap, rfl⟩ := flags_form ht
  refine first_all ha hcov 8 v1 v2 cv Mf tb tcap 1 1 [0] (openL 8) r w h1 h2 (bw_own ht) (own_ints hc).1 hbit rfl (by omega) (by omega) (open_cls h0) ?_
  rw [← hr, firstO, open_cases h0]
  cases restL M a 8 [0] <;> rfl
set_option maxRecDepth 100000 in
set_option maxHeartbeats 3200000 in
theorem consistentS_any {S1 S2 : Nat → Prop} (v1 v2 : Value) (a : Asn) (w : World) (h1 : RL w S1 v1 a.1) (h2 : RL w S2 v2 a.2) :
    Calls Try.prog 131 #[.agg #[v1, v2]] w fun e w' => e = .returned (.bool (consB a)) ∧ Below w.heap.size w w' := by
  obtain ⟨xa1, xc1, rfl⟩ := h1.form
  obtain ⟨xa2, xc2, rfl⟩ := h2.form
  cases ha : asnB a with
  | false =>
    have HV := Lib.hid ha
    have HR := Lib.hid (show consB a = false by rw [consB, ha]; rfl)
    clear ha
    go_enter Try.func131, Try.ntmps131
    go_wp2_with fail
    refine (cb (asnValidS_any _ _ a _ (h1.keep Bl) (h2.keep Bl)) HV.out).mono ?_
    rintro e w1 ⟨rfl, hb⟩
    go_wp2
    go_returns
    exact ⟨by rw [HR.out]; rfl, bt Bl hb⟩
  | true =>
    obtain ⟨r, hr⟩ : ∃ r, firstO (termM (termsM a) 0) a = r := ⟨_, rfl⟩
    have HV := Lib.hid ha
    have HR := Lib.hid (show consB a = r.isSome by
      rw [consB, ha, ← hr, firstO, Bool.true_and]
      cases casesL (termM (termsM a) 0) a <;> rfl)
    have HF := Lib.hid hr
    have HFA := Lib.hid (asn_all' ha)
    clear ha hr
    go_enter Try.func131, Try.ntmps131
    go_wp2_with fail
    refine (cb (asnValidS_any _ _ a _ (h1.keep Bl) (h2.keep Bl)) HV.out).mono ?_
    rintro e w1 ⟨rfl, hb⟩
    have c0 := cell_keep hb (p := ⟨w.heap.size, 0, none⟩) (v := .slice xa1 a.1.length xc1) (by simp [go_sem])
    have c1 := cell_keep hb (p := ⟨w.heap.size, 1, none⟩) (v := .slice xa2 a.2.length xc2) (by simp [go_sem])
    have hW := bt (a := w) Bl hb
    clear hb
    go_wp2
    go_region_held3 (fun w' => w'.cell? ⟨w.heap.size, 0, none⟩ = some (.slice xa1 a.1.length xc1) ∧ w'.cell? ⟨w.heap.size, 1, none⟩ = some (.slice xa2 a.2.length xc2))
      (exact ⟨cell_keep Bl c0, cell_keep Bl c1⟩)
      (first
        | (go_at_call 201; (with_reducible refine (l5First_any _ _ _ _ (termM (termsM a) 0) (termsM a) _ _ a r _ (h1.keep (bt hW Bl)) (h2.keep (bt hW Bl)) (own_keep hT Bl) (own_keep hO Bl) HV.out (cov_one a) (one_zero _) (fun j hj => one_pos hj) HF.out).mono ?_); rintro e w4 ⟨v4, rfl, _, hb4'⟩; have hb4 : Below w1.heap.size w1 w4 := bt Bl hb4')
        | (go_at_call 170; (with_reducible refine (l3Terms_any _ _ a _ (h1.keep (bt hW Bl)) (h2.keep (bt hW Bl)) HFA.out.1.1 HFA.out.1.2).mono ?_); rintro e w2 ⟨vT, rfl, hT, hbT'⟩; have hbT : Below w1.heap.size w1 w2 := bt Bl hbT'; (try replace hO := own_keep hO (bt Bl hbT')))
        | (go_at_call 169; (with_reducible refine (l5Open_any _).mono ?_); rintro e w3 ⟨vO, rfl, hO, hbO'⟩; have hbO : Below w1.heap.size w1 w3 := bt Bl hbO'; (try replace hT := own_keep hT (bt Bl hbO'))))
    all_goals
      go_wp2
      go_returns
      exact ⟨by rw [HR.out]; rfl, bt hW (bt hb4 Bl)⟩
end Go.Proofs.Ytapoillhgimdiaa
