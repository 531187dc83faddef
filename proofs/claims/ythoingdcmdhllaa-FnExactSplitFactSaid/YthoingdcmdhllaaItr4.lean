/- Walks: consistency, entailment: the program. -/
import Derived.Test.YthoingdcmdhllaaItr3
namespace Go.Proofs.Ythoingdcmdhllaa
open Go Go.RowKit

set_option maxRecDepth 100000 in
set_option maxHeartbeats 3200000 in
theorem consistentI_any {S1 S2 : Nat → Prop} (v1 v2 : Value) (a : Asn) (w : World) (h1 : RL w S1 v1 a.1) (h2 : RL w S2 v2 a.2) :
    Calls Try.prog 27 #[.agg #[v1, v2]] w fun e w' => e = .returned (.bool (consB a)) ∧ Below w.heap.size w w' := by
  obtain ⟨xa1, xc1, rfl⟩ := h1.form
  obtain ⟨xa2, xc2, rfl⟩ := h2.form
  cases ha : asnB a with
  | false =>
    have HV := Lib.hid ha
    have HR := Lib.hid (show consB a = false by rw [consB, ha]; rfl)
    clear ha
    go_enter Try.func27, Try.ntmps27
    go_wp2_with fail
    refine (cb (asnValidI_any _ _ a _ (h1.keep (by repeat (first | exact Below.refl _ _ | with_reducible assumption | exact below_alloc _ _ | (refine Below.setCell ?_ (by first | (simp; done) | (simp; omega) | omega) _) | apply bd | apply ba | apply be))) (h2.keep (by repeat (first | exact Below.refl _ _ | with_reducible assumption | exact below_alloc _ _ | (refine Below.setCell ?_ (by first | (simp; done) | (simp; omega) | omega) _) | apply bd | apply ba | apply be)))) HV.out).mono ?_
    rintro e w1 ⟨rfl, hb⟩
    go_wp2
    go_returns
    exact ⟨by rw [HR.out]; rfl, bt (by repeat (first | exact Below.refl _ _ | with_reducible assumption | exact below_alloc _ _ | (refine Below.setCell ?_ (by first | (simp; done) | (simp; omega) | omega) _) | apply bd | apply ba | apply be)) hb⟩
  | true =>
    obtain ⟨r, hr⟩ : ∃ r, firstO (termM (termsM a) 0) a = r := ⟨_, rfl⟩
    have HV := Lib.hid ha
    have HR := Lib.hid (show consB a = r.isSome by
      rw [consB, ha, ← hr, firstO, Bool.true_and]
      cases casesL (termM (termsM a) 0) a <;> rfl)
    have HF := Lib.hid hr
    clear ha hr
    go_enter Try.func27, Try.ntmps27
    go_wp2_with fail
    refine (cb (asnValidI_any _ _ a _ (h1.keep (by repeat (first | exact Below.refl _ _ | with_reducible assumption | exact below_alloc _ _ | (refine Below.setCell ?_ (by first | (simp; done) | (simp; omega) | omega) _) | apply bd | apply ba | apply be))) (h2.keep (by repeat (first | exact Below.refl _ _ | with_reducible assumption | exact below_alloc _ _ | (refine Below.setCell ?_ (by first | (simp; done) | (simp; omega) | omega) _) | apply bd | apply ba | apply be)))) HV.out).mono ?_
    rintro e w1 ⟨rfl, hb⟩
    have c0 := cell_keep hb (p := ⟨w.heap.size, 0, none⟩) (v := .slice xa1 a.1.length xc1) (by simp [go_sem])
    have c1 := cell_keep hb (p := ⟨w.heap.size, 1, none⟩) (v := .slice xa2 a.2.length xc2) (by simp [go_sem])
    have hW := bt (a := w) (by repeat (first | exact Below.refl _ _ | with_reducible assumption | exact below_alloc _ _ | (refine Below.setCell ?_ (by first | (simp; done) | (simp; omega) | omega) _) | apply bd | apply ba | apply be)) hb
    clear hb
    go_wp2_with fail
    refine (firstCase_any _ _ a r _ (h1.keep hW) (h2.keep hW) HV.out HF.out).mono ?_
    rintro e w2 ⟨tl, h9, htl, rfl, hb⟩
    clear htl
    obtain ⟨x0, x1, x2, x3, x4, x5, x6, x7, x8, rfl⟩ := len9 h9
    go_wp2
    go_returns
    exact ⟨by rw [HR.out]; rfl, bt (bt hW hb) (by repeat (first | exact Below.refl _ _ | with_reducible assumption | exact below_alloc _ _ | (refine Below.setCell ?_ (by first | (simp; done) | (simp; omega) | omega) _) | apply bd | apply ba | apply be))⟩
set_option maxRecDepth 100000 in
set_option maxHeartbeats 3200000 in
theorem entailsI_any {S1 S2 S3 S4 : Nat → Prop} (v1 v2 u1 u2 : Value) (a b : Asn) (w : World) (h1 : RL w S1 v1 a.1) (h2 : RL w S2 v2 a.2) (k1 : RL w S3 u1 b.1) (k2 : RL w S4 u2 b.2) :
    Calls Try.prog 41 #[.agg #[v1, v2], .agg #[u1, u2]] w fun e w' => e = .returned (.bool (entB a b)) ∧ Below w.heap.size w w' := by
  obtain ⟨xa1, xc1, rfl⟩ := h1.form
  obtain ⟨xa2, xc2, rfl⟩ := h2.form
  obtain ⟨ya1, yc1, rfl⟩ := k1.form
  obtain ⟨ya2, yc2, rfl⟩ := k2.form
  cases ha : asnB a with
  | false =>
    have HV := Lib.hid ha
    have HR := Lib.hid (show entB a b = false by rw [entB, ha]; rfl)
    clear ha
    go_enter Try.func41, Try.ntmps41
    go_wp2_with fail
    refine (cb (asnValidI_any _ _ a _ (h1.keep (by repeat (first | exact Below.refl _ _ | with_reducible assumption | exact below_alloc _ _ | (refine Below.setCell ?_ (by first | (simp; done) | (simp; omega) | omega) _) | apply bd | apply ba | apply be))) (h2.keep (by repeat (first | exact Below.refl _ _ | with_reducible assumption | exact below_alloc _ _ | (refine Below.setCell ?_ (by first | (simp; done) | (simp; omega) | omega) _) | apply bd | apply ba | apply be)))) HV.out).mono ?_
    rintro e w1 ⟨rfl, hb⟩
    go_wp2
    go_returns
    exact ⟨by rw [HR.out]; rfl, bt (by repeat (first | exact Below.refl _ _ | with_reducible assumption | exact below_alloc _ _ | (refine Below.setCell ?_ (by first | (simp; done) | (simp; omega) | omega) _) | apply bd | apply ba | apply be)) hb⟩
  | true =>
    cases hbv : asnB b with
    | false =>
      have HV := Lib.hid (And.intro ha hbv)
      have HR := Lib.hid (show entB a b = false by rw [entB, ha, hbv]; rfl)
      clear ha hbv
      go_enter Try.func41, Try.ntmps41
      go_wp2_with fail
      refine (cb (asnValidI_any _ _ a _ (h1.keep (by repeat (first | exact Below.refl _ _ | with_reducible assumption | exact below_alloc _ _ | (refine Below.setCell ?_ (by first | (simp; done) | (simp; omega) | omega) _) | apply bd | apply ba | apply be))) (h2.keep (by repeat (first | exact Below.refl _ _ | with_reducible assumption | exact below_alloc _ _ | (refine Below.setCell ?_ (by first | (simp; done) | (simp; omega) | omega) _) | apply bd | apply ba | apply be)))) HV.out.1).mono ?_
      rintro e w1 ⟨rfl, hb⟩
      have c2 := cell_keep hb (p := ⟨w.heap.size + 1, 0, none⟩) (v := .slice ya1 b.1.length yc1) (by simp [go_sem])
      have c3 := cell_keep hb (p := ⟨w.heap.size + 1, 1, none⟩) (v := .slice ya2 b.2.length yc2) (by simp [go_sem])
      have hW := bt (a := w) (by repeat (first | exact Below.refl _ _ | with_reducible assumption | exact below_alloc _ _ | (refine Below.setCell ?_ (by first | (simp; done) | (simp; omega) | omega) _) | apply bd | apply ba | apply be)) hb
      clear hb
      go_wp2_with fail
      refine (cb (asnValidI_any _ _ b _ (k1.keep hW) (k2.keep hW)) HV.out.2).mono ?_
      rintro e w2 ⟨rfl, hb⟩
      go_wp2
      go_returns
      exact ⟨by rw [HR.out]; rfl, bt hW hb⟩
    | true =>
      obtain ⟨r, hr⟩ : ∃ r, failO a b = r := ⟨_, rfl⟩
      have HV := Lib.hid (And.intro ha hbv)
      have HR := Lib.hid (show entB a b = r.isNone by rw [entB, ha, hbv, hr]; rfl)
      have HF := Lib.hid hr
      clear ha hr hbv
      go_enter Try.func41, Try.ntmps41
      go_wp2_with fail
      refine (cb (asnValidI_any _ _ a _ (h1.keep (by repeat (first | exact Below.refl _ _ | with_reducible assumption | exact below_alloc _ _ | (refine Below.setCell ?_ (by first | (simp; done) | (simp; omega) | omega) _) | apply bd | apply ba | apply be))) (h2.keep (by repeat (first | exact Below.refl _ _ | with_reducible assumption | exact below_alloc _ _ | (refine Below.setCell ?_ (by first | (simp; done) | (simp; omega) | omega) _) | apply bd | apply ba | apply be)))) HV.out.1).mono ?_
      rintro e w1 ⟨rfl, hb⟩
      have c0 := cell_keep hb (p := ⟨w.heap.size, 0, none⟩) (v := .slice xa1 a.1.length xc1) (by simp [go_sem])
      have c1 := cell_keep hb (p := ⟨w.heap.size, 1, none⟩) (v := .slice xa2 a.2.length xc2) (by simp [go_sem])
      have c2 := cell_keep hb (p := ⟨w.heap.size + 1, 0, none⟩) (v := .slice ya1 b.1.length yc1) (by simp [go_sem])
      have c3 := cell_keep hb (p := ⟨w.heap.size + 1, 1, none⟩) (v := .slice ya2 b.2.length yc2) (by simp [go_sem])
      have hW := bt (a := w) (by repeat (first | exact Below.refl _ _ | with_reducible assumption | exact below_alloc _ _ | (refine Below.setCell ?_ (by first | (simp; done) | (simp; omega) | omega) _) | apply bd | apply ba | apply be)) hb
      clear hb
      go_wp2_with fail
      refine (cb (asnValidI_any _ _ b _ (k1.keep hW) (k2.keep hW)) HV.out.2).mono ?_
      rintro e w2 ⟨rfl, hb⟩
      replace c0 := cell_keep hb c0; replace c1 := cell_keep hb c1; replace c2 := cell_keep hb c2; replace c3 := cell_keep hb c3; replace hW := bt hW hb; clear hb
      go_wp2_with fail
      refine (failingCase_any _ _ _ _ a b r _ (h1.keep hW) (h2.keep hW) (k1.keep hW) (k2.keep hW) HV.out.1 HV.out.2 HF.out).mono ?_
      rintro e w3 ⟨tl, h9, htl, rfl, hb⟩
      clear htl
      obtain ⟨x0, x1, x2, x3, x4, x5, x6, x7, x8, rfl⟩ := len9 h9
      cases r with
      | none =>
        go_wp2
        go_returns
        exact ⟨by rw [HR.out]; rfl, bt (bt hW hb) (by repeat (first | exact Below.refl _ _ | with_reducible assumption | exact below_alloc _ _ | (refine Below.setCell ?_ (by first | (simp; done) | (simp; omega) | omega) _) | apply bd | apply ba | apply be))⟩
      | some c =>
        go_wp2
        go_returns
        exact ⟨by rw [HR.out]; rfl, bt (bt hW hb) (by repeat (first | exact Below.refl _ _ | with_reducible assumption | exact below_alloc _ _ | (refine Below.setCell ?_ (by first | (simp; done) | (simp; omega) | omega) _) | apply bd | apply ba | apply be))⟩
end Go.Proofs.Ythoingdcmdhllaa
