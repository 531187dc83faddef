/- Walks: a model of an assertion. -/
import Derived.Test.YtapoillhgimdiaaTMdl2
import Derived.Test.YtapoillhgimdiaaTEnt1
set_option linter.unusedSimpArgs false
set_option linter.unusedVariables false
namespace Go.Proofs.Ytapoillhgimdiaa
open Go.RowKit

theorem first_law {a : Asn} (ha : asnB a = true) {cl : List Int} (h : firstO (termM (termsM a) 0) a = some cl) :
    (Covers (termM (termsM a) 0) a ∧ (shapeC (termM (termsM a) 0) cl = true ∧ possC cl 8 a = true)) ∧ holdsB (modV cl) (modH (modV cl) (filledL cl a.2)) a = true := by
  have hm := mem_cases.1 (List.mem_of_head? h)
  have hc : Covers (termM (termsM a) 0) a := covers_of ha fun j hj => by rw [one_bit, hj]; rfl
  exact ⟨⟨hc, hm⟩, model_holds ha hc (by rw [one_bit]; simp) hm.1 hm.2⟩
set_option maxRecDepth 100000 in
set_option maxHeartbeats 6400000 in
theorem modelOf_any {S1 S2 : Nat → Prop} (v1 v2 : Value) (a : Asn) (w : World) (h1 : RL w S1 v1 a.1) (h2 : RL w S2 v2 a.2) :
    Calls Try.prog 68 #[.agg #[v1, v2]] w fun e w' => ∃ (u1 u2 : Value) (vl hl : List Int), e = .returned (.tuple #[.agg #[u1, u2], .bool (consB a)]) ∧ (consB a = true → holdsB vl hl a = true) ∧ (RL w' (fun _ => True) u1 vl ∧ RL w' (fun _ => True) u2 hl) ∧ Below w.heap.size w w' := by
  obtain ⟨xa1, xc1, rfl⟩ := h1.form
  obtain ⟨xa2, xc2, rfl⟩ := h2.form
  have hbA := box_keep (heap_alloc_new w (.cells #[.slice xa1 a.1.length xc1, .slice xa2 a.2.length xc2] 33)) (below_alloc _ (.cells #[.slice none 0 0, .slice none 0 0] 77))
  have hbR := heap_alloc_new (w.alloc (.cells #[.slice xa1 a.1.length xc1, .slice xa2 a.2.length xc2] 33)) (.cells #[.slice none 0 0, .slice none 0 0] 77)
  rw [World.size_alloc] at hbR
  have hB0 : Below w.heap.size w ((w.alloc (.cells #[.slice xa1 a.1.length xc1, .slice xa2 a.2.length xc2] 33)).alloc (.cells #[.slice none 0 0, .slice none 0 0] 77)) := Bl
  have H0 := Lib.hid (And.intro (And.intro hbA hbR) (And.intro hB0 (And.intro (h1.keep hB0) (h2.keep hB0))))
  clear hbA hbR hB0 h1 h2
  cases ha : asnB a with
  | false =>
    have HC := Lib.hid (And.intro ha (show consB a = false by rw [consB, ha]; rfl))
    clear ha
    go_enter Try.func68, Try.ntmps68
    go_wp2_with fail
    refine (cb (asnValidI_any _ _ a _ H0.out.2.2.1 H0.out.2.2.2) HC.out.1).mono ?_
    rintro e w1 ⟨rfl, hb⟩
    have hR := box_keep H0.out.1.2 hb
    have r0 := box0 hR
    have r1 := box1 hR
    have rz := boxz hR
    have rl := box_lt hR
    have rr := box_two (.slice none 0 0) (.slice none 0 0) r0 r1
    have hs6 := fr_two w1 (w.heap.size + 1) (.slice none 0 0) (.slice none 0 0)
    have HE := Lib.hid ((bt H0.out.2.1 hb).trans (hs6.below (by omega) fun k hk e => by have e2 : k = w.heap.size + 1 := e; omega))
    clear hb hR hs6
    go_wp2
    refine bodyPost_ret (v := .tuple #[.agg #[.slice none 0 0, .slice none 0 0], .bool false]) (by simp [results, Try.results68, go_sem, rr.1, rr.2]) rfl ?_
    exact ⟨_, _, [], [], by rw [HC.out.2], fun h => (by rw [HC.out.2] at h; cases h), ⟨RL.nil _ _, RL.nil _ _⟩, HE.out⟩
  | true =>
    obtain ⟨r, hr⟩ : ∃ r, firstO (termM (termsM a) 0) a = r := ⟨_, rfl⟩
    have hcr : consB a = r.isSome := by
      rw [consB, ha, ← hr, firstO, Bool.true_and]
      cases casesL (termM (termsM a) 0) a <;> rfl
    have HC := Lib.hid (And.intro ha (And.intro hr hcr))
    clear ha hr hcr
    go_enter Try.func68, Try.ntmps68
    go_wp2_with fail
    refine (cb (asnValidI_any _ _ a _ H0.out.2.2.1 H0.out.2.2.2) HC.out.1).mono ?_
    rintro e w1 ⟨rfl, hb⟩
    have hA1 := box_keep H0.out.1.1 hb
    have a0 := box0 hA1
    have a1 := box1 hA1
    have al := box_lt hA1
    have H1 := Lib.hid (And.intro (And.intro hA1 (box_keep H0.out.1.2 hb)) (And.intro (bt H0.out.2.1 hb) (And.intro (H0.out.2.2.1.keep hb) (H0.out.2.2.2.keep hb))))
    clear hA1 hb
    go_wp2_with fail
    refine (firstCase_any _ _ a r _ H1.out.2.2.1 H1.out.2.2.2 HC.out.1 HC.out.2.1).mono ?_
    rintro e w2 ⟨tl, htl, hcl, rfl, hb⟩
    obtain ⟨x0, x1, x2, x3, x4, x5, x6, x7, x8, rfl⟩ := len9 htl
    have hA2 := box_keep H1.out.1.1 hb
    replace a0 := box0 hA2
    replace a1 := box1 hA2
    replace al := box_lt hA2
    have hR := box_keep H1.out.1.2 hb
    have H2 := Lib.hid (And.intro (And.intro hA2 hR) (And.intro (bt H1.out.2.1 hb) (And.intro (H1.out.2.2.1.keep hb) (H1.out.2.2.2.keep hb))))
    cases r with
    | none =>
      have hb4 : Below w2.heap.size w2 (w2.alloc (.cells #[.int .i64 x0, .int .i64 x1, .int .i64 x2, .int .i64 x3, .int .i64 x4, .int .i64 x5, .int .i64 x6, .int .i64 x7, .int .i64 x8] 116)) := below_alloc _ _
      have hR4 := box_keep hR hb4
      have r0 := box0 hR4
      have r1 := box1 hR4
      have rz := boxz hR4
      have rl := box_lt hR4
      have rr := box_two (.slice none 0 0) (.slice none 0 0) r0 r1
      have hs6 := fr_two (w2.alloc (.cells #[.int .i64 x0, .int .i64 x1, .int .i64 x2, .int .i64 x3, .int .i64 x4, .int .i64 x5, .int .i64 x6, .int .i64 x7, .int .i64 x8] 116)) (w.heap.size + 1) (.slice none 0 0) (.slice none 0 0)
      have HE := Lib.hid ((bt H2.out.2.1 hb4).trans (hs6.below (by have := (bt H2.out.2.1 hb4).size; omega) fun k hk e => by have e2 : k = w.heap.size + 1 := e; omega))
      clear hb hR hs6 hb4 hR4 hcl hA2 htl
      go_wp2
      refine bodyPost_ret (v := .tuple #[.agg #[.slice none 0 0, .slice none 0 0], .bool false]) (by simp [results, Try.results68, go_sem, rr.1, rr.2]) rfl ?_
      exact ⟨_, _, [], [], by rw [HC.out.2.2]; rfl, fun h => (by rw [HC.out.2.2] at h; cases h), ⟨RL.nil _ _, RL.nil _ _⟩, HE.out⟩
    | some cl =>
      obtain rfl := hcl cl rfl
      clear htl hcl
      have HL := Lib.hid (first_law HC.out.1 HC.out.2.1)
      have hb4 : Below w2.heap.size w2 (w2.alloc (.cells #[.int .i64 x0, .int .i64 x1, .int .i64 x2, .int .i64 x3, .int .i64 x4, .int .i64 x5, .int .i64 x6, .int .i64 x7, .int .i64 x8] 116)) := below_alloc _ _
      clear hb hR hA2
      go_wp2_with fail
      refine (caseState_any _ _ a [x0, x1, x2, x3, x4, x5, x6, x7, x8] _ _ (H2.out.2.2.1.keep hb4) (H2.out.2.2.2.keep hb4) HC.out.1 HL.out.1.1 HL.out.1.2.1 HL.out.1.2.2).mono ?_
      rintro e w5 ⟨u1, u2, rfl, p1, p2, hb5⟩
      obtain ⟨ya1, yn1, yc1, rfl⟩ := p1.forms
      obtain ⟨ya2, yn2, yc2, rfl⟩ := p2.forms
      have hb45 := bt hb4 hb5
      have hR5 := box_keep H2.out.1.2 hb45
      have r0 := box0 hR5
      have r1 := box1 hR5
      have rz := boxz hR5
      have rl := box_lt hR5
      have rr := box_two (.slice ya1 yn1 yc1) (.slice ya2 yn2 yc2) r0 r1
      have hz2 := (bt H2.out.2.1 hb4).size
      have hz3 := box_lt (box_keep H2.out.1.2 hb4)
      have hs6 := fr_two w5 (w.heap.size + 1) (.slice ya1 yn1 yc1) (.slice ya2 yn2 yc2)
      have kS : ∀ k, k < w5.heap.size → (fun k => (w2.alloc (.cells #[.int .i64 x0, .int .i64 x1, .int .i64 x2, .int .i64 x3, .int .i64 x4, .int .i64 x5, .int .i64 x6, .int .i64 x7, .int .i64 x8] 116)).heap.size ≤ k) k → ¬ (fun j => j = w.heap.size + 1) k := fun k _ h e => by
        have h2 : (w2.alloc (.cells #[.int .i64 x0, .int .i64 x1, .int .i64 x2, .int .i64 x3, .int .i64 x4, .int .i64 x5, .int .i64 x6, .int .i64 x7, .int .i64 x8] 116)).heap.size ≤ k := h
        have e2 : k = w.heap.size + 1 := e
        omega
      have HE := Lib.hid (And.intro (And.intro (p1.kept hs6 kS).any (p2.kept hs6 kS).any) (((bt H2.out.2.1 hb45)).trans (hs6.below (by have := (bt H2.out.2.1 hb45).size; omega) fun k hk e => by have e2 : k = w.heap.size + 1 := e; omega)))
      clear hR5 hs6 kS p1 p2 hb5 hb4 hb45
      go_wp2
      refine bodyPost_ret (v := .tuple #[.agg #[.slice ya1 yn1 yc1, .slice ya2 yn2 yc2], .bool true]) (by simp [results, Try.results68, go_sem, rr.1, rr.2]) rfl ?_
      exact ⟨_, _, _, _, by rw [HC.out.2.2]; rfl, fun _ => HL.out.2, HE.out⟩
end Go.Proofs.Ytapoillhgimdiaa
