/- Walks: all cases of an assertion, from their start: the reference's l5All. -/
import Derived.Test.YtobbilbkjiemiaaAll1
import Derived.Test.YtobbilbkjiemiaaEnt1
namespace Go.Proofs.Ytobbilbkjiemiaa
open Go.RowKit

theorem chC_len (M : Nat) (p : List Int) : (chC M p).length ≤ p.length + 1 := by
  rw [chC]
  split
  · rw [List.length_map]
    exact Nat.le_trans (List.length_filter_le _ _) (by simp)
  · simp
theorem flat_leC {α β : Type} {c : Nat} (f : α → List β) : ∀ (l : List α), (∀ x ∈ l, (f x).length ≤ c) → (l.flatMap f).length ≤ l.length * c
  | [], _ => by simp
  | x :: r, h => by
    rw [List.flatMap_cons, List.length_append, List.length_cons, Nat.succ_mul]
    have h1 := h x List.mem_cons_self
    have h2 := flat_leC f r fun y hy => h y (List.mem_cons_of_mem _ hy)
    omega
theorem shapes_len {M : Nat} : ∀ (n : Nat) (p : List Int), p.length + n ≤ 9 → (shapesL M n p).length ≤ 10 ^ n
  | 0, p, _ => by simp [shapesL]
  | n + 1, p, h => by
    rw [shapesL]
    have h1 := flat_leC (c := 10 ^ n) (fun c => shapesL M n (p ++ [c])) (chC M p) fun c _ => shapes_len n (p ++ [c]) (by rw [List.length_append, List.length_singleton]; omega)
    have h2 := chC_len M p
    refine Nat.le_trans h1 ?_
    rw [Nat.pow_succ, Nat.mul_comm]
    exact Nat.mul_le_mul_left _ (by omega)
theorem rest_len {M : Nat} {a : Asn} : (restL M a 8 [0]).length ≤ 100000000 := by
  have := shapes_len (M := M) 8 [0] (by simp)
  refine Nat.le_trans (List.length_filter_le _ _) (Nat.le_trans this (by decide))
theorem cases_all {M : Nat} {a : Asn} (ha : asnB a = true) (hcov : ∀ j, (termsM a).testBit j = true → M.testBit j = true) : ∀ n, CasesP M a n
  | 0 => cases_zero ha hcov
  | n + 1 => cases_succ ha (cases_all ha hcov n)
theorem OO.emp {w : World} {B g : Nat} {T : TypeId} (h : w.heap[g]? = some (.cells #[] T (0, 0))) (hT : T = 46) (hB : B ≤ g) : OO w B (.slice (some ⟨g, 0, none⟩) 0 0) ([] : List (List Int)) := by
  subst hT
  have ho := own_of_row (l := []) hB rfl (by decide) h
  exact ⟨_, ⟨[], [], ho, rfl, rfl, fun i hi => absurd hi (by simp)⟩, by simp [Value.ownBlock]⟩
theorem l5Cases_any {S1 S2 : Nat → Prop} (v1 v2 tv_ cv : Value) (M Mf B0 B B2 g0 : Nat) (a : Asn) (w : World) (hg0 : w.heap[g0]? = some (.cells #[] 46 (0, 0))) (hB : B ≤ g0) (h1 : RL w S1 v1 a.1) (h2 : RL w S2 v2 a.2) (hS : (∀ k, S1 k → ¬ k = g0) ∧ ∀ k, S2 k → ¬ k = g0)
    (ht : w.ownsRow B0 4 1 tv_ 9 (flagsOf Mf)) (htg : ¬ some g0 = tv_.ownBlock) (hc : w.ownsRow B2 3 1 cv 9 (ints (openL 8))) (hcg : ¬ some g0 = cv.ownBlock) (ha : asnB a = true)
    (hcov : ∀ j, (termsM a).testBit j = true → M.testBit j = true) (h0 : M.testBit 0 = true) (hbit : ∀ j, 1 ≤ j → M.testBit j = Mf.testBit j) :
    Calls Try.prog 148 #[.slice (some ⟨g0, 0, none⟩) 0 0, .agg #[v1, v2], tv_, cv, .int .i64 1] w fun e w' => ∃ v', e = .returned v' ∧ OO w' B v' (casesL M a) ∧ Below B w w' := by
  obtain ⟨tb, tcap, rfl⟩ := flags_form ht
  have hz := box_lt hg0
  refine (cases_all ha hcov 8 _ v1 v2 cv [] B Mf tb tcap 1 1 [0] (openL 8) w (OO.emp hg0 rfl hB) (by omega) (by have := rest_len (M := M) (a := a); simp; omega) h1 h2 (bw_own ht) (own_ints hc).1.rl (fun k hk => ?_) hbit rfl (by omega) (by omega) (open_cls h0)).mono ?_
  · obtain rfl : k = g0 := Option.some.inj hk
    exact ⟨⟨fun h => hS.1 k h rfl, fun h => hS.2 k h rfl⟩, fun e => htg (by rw [e]; rfl), fun h => hcg h⟩
  · rintro e w' ⟨v', rfl, ho, hf, _⟩
    rw [List.nil_append, ← open_cases h0] at ho
    exact ⟨v', rfl, ho, hf.below (by omega) fun k hk e => by have e2 : k = g0 := Option.some.inj e; omega⟩
set_option maxRecDepth 100000 in
set_option maxHeartbeats 6400000 in
theorem l5All_any {S1 S2 : Nat → Prop} (v1 v2 tv_ : Value) (M Mf B0 : Nat) (a : Asn) (w : World) (h1 : RL w S1 v1 a.1) (h2 : RL w S2 v2 a.2) (ht : w.ownsRow B0 4 1 tv_ 9 (flagsOf Mf)) (ha : asnB a = true)
    (hcov : ∀ j, (termsM a).testBit j = true → M.testBit j = true) (h0 : M.testBit 0 = true) (hbit : ∀ j, 1 ≤ j → M.testBit j = Mf.testBit j) :
    Calls Try.prog 74 #[.agg #[v1, v2], tv_] w fun e w' => ∃ v', e = .returned v' ∧ OO w' w.heap.size v' (casesL M a) ∧ Below w.heap.size w w' := by
  obtain ⟨xa1, xc1, rfl⟩ := h1.form
  obtain ⟨xa2, xc2, rfl⟩ := h2.form
  obtain ⟨tb, tcap, rfl⟩ := flags_form ht
  have htl := (own_lt ht (k := tb) rfl).2
  obtain ⟨W, hWe⟩ : ∃ W, W = w.alloc (.cells #[.slice xa1 a.1.length xc1, .slice xa2 a.2.length xc2] 33) := ⟨_, rfl⟩
  have hc0 : W.cell? ⟨w.heap.size, 0, none⟩ = some (.slice xa1 a.1.length xc1) := by rw [hWe]; simp [go_sem]
  have hc1 : W.cell? ⟨w.heap.size, 1, none⟩ = some (.slice xa2 a.2.length xc2) := by rw [hWe]; simp [go_sem]
  have hW : Below w.heap.size w W := by rw [hWe]; exact (by repeat (first | exact Below.refl _ _ | with_reducible assumption | exact below_alloc _ _ | (refine Below.setCell ?_ (by first | (simp; done) | (simp; omega) | omega) _) | apply bd | apply ba | apply be))
  have hzW : w.heap.size < W.heap.size := World.block_lt_of_cell? W _ hc0
  have hq1 := h1.lt.keep hW
  have hq2 := h2.lt.keep hW
  have htW := own_keep ht hW
  have HWE := Lib.hid hWe
  have HV := Lib.hid (And.intro ha (And.intro hcov (And.intro h0 hbit)))
  clear hWe ha hcov h0 hbit h1 h2 ht
  go_enter Try.func74, Try.ntmps74
  go_upto_region 1 with fail
  rw [← HWE.out]
  go_region_held3 (fun w' => w'.cell? ⟨w.heap.size, 0, none⟩ = some (.slice xa1 a.1.length xc1) ∧ w'.cell? ⟨w.heap.size, 1, none⟩ = some (.slice xa2 a.2.length xc2))
    (first | exact ⟨hk0, hk1⟩ | exact ⟨cell_keep (by repeat (first | exact Below.refl _ _ | with_reducible assumption | exact below_alloc _ _ | (refine Below.setCell ?_ (by first | (simp; done) | (simp; omega) | omega) _) | apply bd | apply ba | apply be)) hc0, cell_keep (by repeat (first | exact Below.refl _ _ | with_reducible assumption | exact below_alloc _ _ | (refine Below.setCell ?_ (by first | (simp; done) | (simp; omega) | omega) _) | apply bd | apply ba | apply be)) hc1⟩)
    (first
      | (go_at_call 149; go_must ((with_reducible refine (l5Open_any _).mono ?_); rintro e w3 ⟨v3, rfl, hown3, hb3'⟩; obtain ⟨c3, n3, rfl, hc3⟩ := own_form hown3; have hb3 : Below W.heap.size W w3 := bt (by repeat (first | exact Below.refl _ _ | with_reducible assumption | exact below_alloc _ _ | (refine Below.setCell ?_ (by first | (simp; done) | (simp; omega) | omega) _) | apply bd | apply ba | apply be)) hb3'; have hz3 := hb3.size; have hz3' := hb3'.size; have hlt3 := fun k (hk : some k = (Value.slice c3 9 n3).ownBlock) => own_lt hown3 hk; (try simp only [World.size_alloc, World.size_drew] at hlt3); have HO3 := Lib.hid hown3; clear hown3))
      | (go_at_call 148; go_must (refine (l5Cases_any (S1 := fun k => k < w.heap.size) (S2 := fun k => k < w.heap.size) _ _ _ _ M Mf B0 W.heap.size _ _ a _ ?hg0 ?hB (hq1.keep (by repeat (first | exact Below.refl _ _ | with_reducible assumption | exact below_alloc _ _ | (refine Below.setCell ?_ (by first | (simp; done) | (simp; omega) | omega) _) | apply bd | apply ba | apply be))) (hq2.keep (by repeat (first | exact Below.refl _ _ | with_reducible assumption | exact below_alloc _ _ | (refine Below.setCell ?_ (by first | (simp; done) | (simp; omega) | omega) _) | apply bd | apply ba | apply be))) ⟨?hS1, ?hS2⟩ (own_keep htW (by repeat (first | exact Below.refl _ _ | with_reducible assumption | exact below_alloc _ _ | (refine Below.setCell ?_ (by first | (simp; done) | (simp; omega) | omega) _) | apply bd | apply ba | apply be))) ?htg (own_keep HO3.out (by repeat (first | exact Below.refl _ _ | with_reducible assumption | exact below_alloc _ _ | (refine Below.setCell ?_ (by first | (simp; done) | (simp; omega) | omega) _) | apply bd | apply ba | apply be))) ?hcg HV.out.1 HV.out.2.1 HV.out.2.2.1 HV.out.2.2.2).mono ?_; (case hg0 => first | exact heap_alloc_new _ _ | exact box_keep (heap_alloc_new W (.cells #[] 46)) (bt (below_drew _) hb3') | exact box_keep (heap_alloc_new W (.cells #[] 46)) hb3' | exact box_keep (heap_alloc_new W.drew (.cells #[] 46)) hb3'); (case hB => first | omega | (simp; try omega)); (case hS1 => intro k h e; have h2 : k < w.heap.size := h; first | omega | (simp at e; try omega)); (case hS2 => intro k h e; have h2 : k < w.heap.size := h; first | omega | (simp at e; try omega)); (case htg => intro e; have e2 := Option.some.inj e; first | omega | (simp at e2; try omega)); (case hcg => intro e; have e3 := hlt3 _ e; first | omega | (simp at e3; try omega)); rintro e w5 ⟨v5, rfl, ho5, hb5'⟩; have hb5W : Below W.heap.size W w5 := (bt hb3 (by repeat (first | exact Below.refl _ _ | with_reducible assumption | exact below_alloc _ _ | (refine Below.setCell ?_ (by first | (simp; done) | (simp; omega) | omega) _) | apply bd | apply ba | apply be))).trans hb5'; have hk0 := cell_keep hb5W hc0; have hk1 := cell_keep hb5W hc1)))
  all_goals
    have HE := Lib.hid (And.intro (ho5.mono (Nat.le_of_lt hzW)) (bt hW hb5W))
    clear ho5 hb5W hb5'
    go_wp2
    go_returns
    exact ⟨_, rfl, HE.out.1, HE.out.2⟩
end Go.Proofs.Ytobbilbkjiemiaa
