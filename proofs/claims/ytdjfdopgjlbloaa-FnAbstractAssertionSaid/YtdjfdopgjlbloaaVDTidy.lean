/- Walks: draws of an assertion and of kept terms (l1Term, l1Fact, l10Keep, DrawTidyAssertion, DrawAbstractAssertion). -/
import Derived.Test.YtdjfdopgjlbloaaVChains
import Derived.Test.YtdjfdopgjlbloaaVReplI
import Derived.Test.YtdjfdopgjlbloaaVHeldD
import Derived.Handy
set_option linter.unusedVariables false
set_option linter.unusedSimpArgs false
namespace Go.Proofs.Ytdjfdopgjlbloaa
open Go.RowKit

theorem lit_ints_at {w : World} {g : Nat} (h : w.heap.size = g) (l : List Int) (hl : l.length ≤ 1048576) : RInts (w.alloc (.cells (ints l).toArray 3)) (.slice (some ⟨g, 0, none⟩) l.length l.length) l := h ▸ lit_ints w l hl
set_option maxRecDepth 100000 in
set_option maxHeartbeats 1600000 in
theorem l1Term_any (g q : Nat) (w : World) (hr : Rdr w g q) (hq : q ≤ 1000010) :
    Calls Try.prog 67 #[.pointer (some ⟨g, 0, none⟩)] w fun e w' => ∃ x : Int, (0 ≤ x ∧ x ≤ 8) ∧ e = .returned (.int .i64 x) ∧ Rdr w' g (q + 1) ∧ Fr (fun j => j = g) w w' := by
  have hgl := hr.lt
  go_enter Try.func67, Try.ntmps67
  go_wp2_with fail
  refine (num_any g q _ [1, 2, 3, 0, 5, 4, 6, 7, 8] _ (hr.keep (below_alloc _ _)) (lit_ints _ [1, 2, 3, 0, 5, 4, 6, 7, 8] (by decide)) (by omega) (by decide) (by decide) (fun k hk e => by simp [Value.ownBlock] at hk; omega)).mono ?_
  rintro e w1 ⟨x, hx, rfl, hr1, hf1⟩
  have hx8 : 0 ≤ x ∧ x ≤ 8 := by simp at hx; omega
  have HX := Lib.hid (And.intro hx8 (And.intro hr1 (((Below.fr (below_alloc w _)).mono fun _ _ h => h.elim).trans hf1)))
  clear hx hx8 hr1 hf1 hr
  go_wp2
  go_ret
  exact ⟨x, HX.out.1, rfl, HX.out.2⟩
theorem factB_mk {b : Bool} {x y : Int} (h1 : 0 ≤ x ∧ x ≤ 8) (h2 : 0 ≤ y ∧ y ≤ 8) : factB (b, x, y) = true := by
  simp [factB, isTermB]; omega
set_option maxRecDepth 100000 in
set_option maxHeartbeats 1600000 in
theorem l1Fact_any (g q : Nat) (w : World) (hr : Rdr w g q) (hq : q ≤ 1000000) :
    Calls Try.prog 42 #[.pointer (some ⟨g, 0, none⟩)] w fun e w' => ∃ x : Fact, e = .returned (.agg #[.bool x.1, .int .i64 x.2.1, .int .i64 x.2.2]) ∧ factB x = true ∧ Rdr w' g (q + 3) ∧ Fr (fun j => j = g) w w' := by
  have hgl := hr.lt
  go_enter Try.func42, Try.ntmps42
  go_wp2_with fail
  refine (pick_any g q 2 _ (hr.keep (below_alloc _ _)) (by omega) (by decide) (by decide)).mono ?_
  rintro e w1 ⟨k, rfl, hk, hr1, hf1⟩
  have hA1 := box_kept (heap3 w (.bool false) (.int .i64 0) (.int .i64 0) 53) hf1 (by omega)
  have hF1 : Fr (fun j => j = g) w w1 := ((Below.fr (below_alloc w _)).mono fun _ _ h => h.elim).trans hf1
  clear hf1 hr
  obtain ⟨b, hb⟩ : ∃ b, ((k : Int) == 0) = b := ⟨_, rfl⟩
  go_wp2_with fail
  refine (l1Term_any g (q + 1) _ hr1 (by omega)).mono ?_
  rintro e w2 ⟨x, hx, rfl, hr2, hf2⟩
  have hA2 := box_kept hA1 hf2 (by omega)
  have hF2 := hF1.trans hf2
  have HX := Lib.hid hx
  clear hf2 hr1 hA1 hF1 hx
  go_wp2_with fail
  refine (l1Term_any g (q + 1 + 1) _ hr2 (by omega)).mono ?_
  rintro e w3 ⟨y, hy, rfl, hr3, hf3⟩
  have hA3 := box_kept hA2 hf3 (by omega)
  have HF := Lib.hid (And.intro (hF2.trans hf3) hr3)
  have HY := Lib.hid hy
  have hz3 := box_lt hA3
  clear hf3 hr2 hA2 hF2 hr3 hy
  have a0 := c30 hA3
  have a1 := c31 hA3
  have a2 := c32 hA3
  have az := c3z hA3
  clear hA3
  go_wp2
  refine bodyPost_ret (v := .agg #[.bool b, .int .i64 x, .int .i64 y]) (by simp [results, Try.results42, go_sem, a0, a1, a2]) rfl ?_
  refine ⟨(b, x, y), rfl, factB_mk HX.out HY.out, ?_, ?_⟩
  · have h1 := HF.out.2
    exact ((h1.kept (fr_set _ _ _) (fun j h e => by simp at e; omega)).kept (fr_set _ _ _) (fun j h e => by simp at e; omega)).kept (fr_set _ _ _) (fun j h e => by simp at e; omega)
  · have h1 := HF.out.1
    exact ((h1.then (fr_set _ _ _) (fun i hi e => by simp at e; omega)).then (fr_set _ _ _) (fun i hi e => by simp at e; omega)).then (fr_set _ _ _) (fun i hi e => by simp at e; omega)
set_option maxRecDepth 100000 in
set_option maxHeartbeats 3200000 in
theorem l10Keep_any (g q : Nat) (w : World) (hr : Rdr w g q) (hq : q ≤ 1000000) :
    Calls Try.prog 44 #[.pointer (some ⟨g, 0, none⟩)] w fun e w' => ∃ (v : Value) (l : List Int), e = .returned v ∧ l.length ≤ 2 ∧ w'.ownsRow w.heap.size 3 1 v l.length (ints l) ∧ Rdr w' g (q + 3) ∧ Fr (fun j => j = g) w w' := by
  have hgl := hr.lt
  go_enter Try.func44, Try.ntmps44
  go_wp2_with fail
  refine (num_any g q _ [0, 1, 0, 2] _ ((hr.keep (below_alloc w (.cells #[] 3))).keep (below_alloc _ _)) (lit_ints_at (g := w.heap.size + 1) (by simp) [0, 1, 0, 2] (by decide)) (by omega) (by decide) (by decide) (fun k hk e => by simp [Value.ownBlock] at hk; omega)).mono ?_
  rintro e w1 ⟨x, hx, rfl, hr1, hf1⟩
  have hx8 : 0 ≤ x ∧ x ≤ 2 := by simp at hx; omega
  obtain ⟨n, rfl⟩ := Int.eq_ofNat_of_zero_le hx8.1
  have hn2 : n ≤ 2 := by omega
  have hown : w1.ownsRow w.heap.size 3 1 (.slice (some ⟨w.heap.size, 0, none⟩) 0 0) 0 (ints []) := own_kept (own_keep (own_empty w w.heap.size 3 (Nat.le_refl _)) (below_alloc _ _)) hf1 fun k hk e => by simp [Value.ownBlock] at hk; omega
  have H1 := Lib.hid (And.intro hown (And.intro hr1 (((Below.fr (bt (below_alloc w (.cells #[] 3)) (below_alloc _ _))).mono fun _ _ h => h.elim).trans hf1)))
  clear hx hx8 hown hr1 hf1 hr
  go_wp2
  go_loopg [3, 4] n (fun m v i wr => ∃ (l : List Int) (q' : Nat), i = .int .i64 (m : Int) ∧ l.length + m ≤ 2 ∧ q' + m ≤ q + 3 ∧ wr.ownsRow w.heap.size 3 1 v l.length (ints l) ∧ Rdr wr g q' ∧ Fr (fun j => j = g) w wr)
  case atStart => exact ⟨[], q + 1, rfl, by simp; omega, by omega, H1.out⟩
  case round =>
    clear H1
    obtain ⟨l, q', rfl, hl, hq', hown, hr, hf⟩ := hrel
    have HL := Lib.hid (And.intro hl hq')
    have hgl2 := hr.lt
    have hz := hf.size
    obtain ⟨va, vc, rfl, _⟩ := own_form hown
    by_cases h0 : gk = 0
    · subst h0
      have HO := Lib.hid (And.intro hown (And.intro hr hf))
      clear hown hr hf hl hq'
      go_wp2
      go_ret
      exact ⟨_, l, rfl, by have := HL.out.1; omega, HO.out.1, HO.out.2.1.more (by have := HL.out.2; omega), HO.out.2.2⟩
    · have hpos : (0 : Int) < (gk : Int) := by omega
      have hg2 : (gk : Int) ≤ 2 := by omega
      have HO := Lib.hid (And.intro hown hf)
      clear hown hf hl hq'
      go_wp2_with fail
      refine (num_any g q' _ [5, 6, 1, 8, 9, -1] _ (hr.keep (below_alloc _ _)) (lit_ints _ [5, 6, 1, 8, 9, -1] (by decide)) (by have := HL.out.2; omega) (by decide) (by decide) (fun k hk e => by simp [Value.ownBlock] at hk; omega)).mono ?_
      rintro e w2 ⟨y, hy, rfl, hr2, hf2⟩
      have ho2 := own_kept (own_keep HO.out.1 (below_alloc wr _)) hf2 fun k hk e => by have := (own_lt HO.out.1 hk).1; omega
      have hF2 := (HO.out.2.thenB (below_alloc wr _)).trans hf2
      have hz2 := hF2.size
      have HN := Lib.hid (own_keep ho2 (below_alloc w2 (.cells #[.int .i64 y] 3)))
      have HR2 := Lib.hid (And.intro (hr2.keep (below_alloc w2 (.cells #[.int .i64 y] 3))) (hF2.thenB (below_alloc w2 (.cells #[.int .i64 y] 3))))
      have hll : l.length < 1099511627776 := by have := HL.out.1; omega
      clear hy hr2 hf2 ho2 hF2 hr
      go_wp2_with (at_builtin; refine app_int _ rfl _ _ rfl w.heap.size _ _ rfl HN.out ⟨w2.heap.size, 0, none⟩ _ rfl (cell_new1 _ _ _) hll (by simp; omega) ?_; intro v' w3 hown3 hf3)
      have H3 := Lib.hid (And.intro hown3 (And.intro (HR2.out.1.kept hf3 fun k hk e => by have := (own_lt HN.out e).1; omega) (HR2.out.2.then hf3 fun i hi e => by have := (own_lt HN.out e).1; omega)))
      obtain ⟨a3, c3, rfl, _⟩ := own_form hown3
      clear hown3 hf3
      go_wp2
      go_roundg (gk - 1)
      case rel => exact ⟨l ++ [y], q' + 1, by rw [show ((gk - 1 : Nat) : Int) = (gk : Int) - 1 by omega], by have := HL.out.1; simp; omega, by have := HL.out.2; omega, H3.out⟩
      case measure => omega
set_option maxRecDepth 100000 in
set_option maxHeartbeats 6400000 in
theorem specDrawTidy_any (v : Value) (n : Nat) (w : World) (h : RBytes w v n) (hn : n ≤ 1048576) :
    Calls Try.prog 19 #[v] w fun e w' => ∃ (u1 u2 kv : Value) (A : Asn) (l : List Int), e = .returned (.tuple #[.agg #[u1, u2], kv]) ∧ ((A.1.length ≤ 40 ∧ A.2.length ≤ 40) ∧ l.length ≤ 2) ∧ (RL w' (fun k => w.heap.size + 1 ≤ k) u1 A.1 ∧ RL w' (fun k => w.heap.size + 1 ≤ k) u2 A.2) ∧ (RInts w' kv l ∧ ∀ k, kv.ownBlock = some k → w.heap.size + 1 ≤ k) ∧ Below w.heap.size w w' := by
  go_enter Try.func19, Try.ntmps19
  go_wp2_with fail
  refine (l18Open_any v n _ (h.keep (below_alloc w (.cells #[.slice none 0 0, .slice none 0 0] 26)))).mono ?_
  rintro e w1 ⟨rfl, hr1, hb1⟩
  have hR1 := box_keep (heap_alloc_new w (.cells #[.slice none 0 0, .slice none 0 0] 26)) hb1
  have hB1 : Below w.heap.size w w1 := bt (below_alloc w _) hb1
  simp only [World.size_alloc] at hr1 ⊢
  obtain ⟨g, hg⟩ : ∃ g, g = w.heap.size + 1 := ⟨_, rfl⟩
  rw [← hg] at hr1 ⊢
  have hgw : w.heap.size + 1 ≤ g := by omega
  have hgR : ¬ w.heap.size = g := by omega
  have hgl := hr1.lt
  have HB1 := Lib.hid hB1
  clear hb1 hB1 hg h
  go_wp2_with fail
  refine (l6Chains_any g 0 _ hr1 (by omega)).mono ?_
  rintro e w2 ⟨v1, v2, a, rfl, hva, hla, o1, o2, hr2, hf2⟩
  obtain ⟨a1, c1, rfl⟩ := o1.form
  obtain ⟨a2, c2, rfl⟩ := o2.form
  have hz2 := hf2.size
  have D0 : DA w1 (w2.alloc (.cells #[.slice a1 a.1.length c1, .slice a2 a.2.length c2] 26)) g (0 + 13) w.heap.size w2.heap.size (.slice a1 a.1.length c1) (.slice a2 a.2.length c2) a.1 a.2 :=
    ⟨o1.alloc _, o2.alloc _, box_keep (box_kept hR1 hf2 hgR) (below_alloc _ _), heap_alloc_new _ _, hr2.keep (below_alloc _ _), hf2.thenB (below_alloc _ _)⟩
  obtain ⟨bA, hbA⟩ : ∃ bA, w2.heap.size = bA := ⟨_, rfl⟩
  have hRz := box_lt hR1
  have hgbA : ¬ bA = g := by omega
  have hRA : ¬ w.heap.size = bA := by omega
  have hloA : w1.heap.size ≤ bA := by omega
  rw [hbA] at D0
  have HbA := Lib.hid hbA
  have HA := Lib.hid (And.intro (And.intro hla.1 hla.2) D0)
  clear hva hla o1 o2 hr1 hr2 hf2 hR1 D0 hz2 hbA
  go_wp2_with fail
  simp only [HbA.out]
  refine (pick_any g (0 + 13) 3 _ HA.out.2.rdr (by omega) (by decide) (by decide)).mono ?_
  rintro e w3 ⟨n0, rfl, hn0, hr3, hf3⟩
  have D3 := HA.out.2.drawn hr3 hf3 hgl hgR hgbA
  have hn3 : n0 ≤ 2 := by omega
  have HD3 := Lib.hid (And.intro D3 hn3)
  clear hr3 hf3 D3 hn0
  go_wp2
  go_loopg [6] n0 (fun m i wr => ∃ (q : Nat) (y1 : Value) (l1 : List Fact), i = .int .i64 (m : Int) ∧ (q + 3 * m ≤ 40 ∧ l1.length + m ≤ 3) ∧ DA w1 wr g q w.heap.size bA y1 (.slice a2 a.2.length c2) l1 a.2)
  case atStart => exact ⟨0 + 13 + 1, _, a.1, rfl, ⟨by omega, by have := HA.out.1.1; omega⟩, HD3.out.1⟩
  case round =>
    clear HD3
    obtain ⟨q, y1, l1, rfl, hq, D⟩ := hrel
    obtain ⟨b1, d1, rfl⟩ := D.f.form
    have HQ := Lib.hid hq
    have hfz := D.fr.size
    by_cases h0 : gk = 0
    · subst h0
      have d0 := box0 D.boxA
      have d1' := box1 D.boxA
      have dl := box_lt D.boxA
      have hs : asSz (l1, a.2) := by unfold asSz; have := HQ.out.2; have := HA.out.1.2; simp only; omega
      have hq9 : q ≤ 900000 := by omega
      have HD := Lib.hid D
      clear D hq hfz
      go_wp2_with fail
      refine (l3Mutate_any g q _ _ (l1, a.2) _ HD.out.rdr hq9 HD.out.f.rl HD.out.a.rl hs).mono ?_
      rintro e w5 ⟨x1, x2, B, rfl, hbl, p1, p2, hr5, hf5⟩
      obtain ⟨f1, g1, rfl⟩ := p1.form
      obtain ⟨f2, g2, rfl⟩ := p2.form
      have hR5 := box_kept HD.out.boxR hf5 hgR
      have hF5 := HD.out.fr.trans hf5
      have hwr := HD.out.fr.size
      have hz5 := hf5.size
      have HP := Lib.hid (And.intro (And.intro p1 p2) (And.intro hbl hF5))
      clear p1 p2 hf5 hbl hF5 d0 d1' dl
      go_wp2_with fail
      refine (l10Keep_any g (q + 3) _ hr5 (by omega)).mono ?_
      rintro e w6 ⟨kv, l, rfl, hl2, hown, hr6, hf6⟩
      obtain ⟨ka, kc, rfl, _⟩ := own_form hown
      have hR6 := box_kept hR5 hf6 hgR
      have r0 := box0 hR6
      have r1 := box1 hR6
      have rz := boxz hR6
      have rl := box_lt hR6
      have rr := box_two (.slice f1 B.1.length g1) (.slice f2 B.2.length g2) r0 r1
      have hs6 := fr_twoR w6 w.heap.size (.slice f1 B.1.length g1) (.slice f2 B.2.length g2)
      have kp : ∀ {S : Nat → Prop}, (∀ k, S k → wr.heap.size ≤ k) → ∀ k, k < w5.heap.size → S k → ¬ (fun j => j = g) k := fun hS k _ h e => by
        have h2 := hS k h
        have e2 : k = g := e
        omega
      have t1 : RL w6 (fun k => w.heap.size + 1 ≤ k) (.slice f1 B.1.length g1) B.1 := (HP.out.1.1.rl.kept hf6 (kp fun _ h => h)).more fun k _ h => by
        have h2 : wr.heap.size ≤ k := h
        show w.heap.size + 1 ≤ k
        omega
      have t2 : RL w6 (fun k => w.heap.size + 1 ≤ k) (.slice f2 B.2.length g2) B.2 := (HP.out.1.2.rl.kept hf6 (kp fun _ h => h)).more fun k _ h => by
        have h2 : wr.heap.size ≤ k := h
        show w.heap.size + 1 ≤ k
        omega
      have far : ∀ k, k < w6.heap.size → (fun k => w.heap.size + 1 ≤ k) k → ¬ (fun j => j = w.heap.size) k := fun k _ h e => by
        have h2 : w.heap.size + 1 ≤ k := h
        have e2 : k = w.heap.size := e
        omega
      have ho6 := own_kept hown hs6 fun k hk e => by have := (own_lt hown hk).1; have e2 : k = w.heap.size := e; omega
      have hF6 := (HP.out.2.2.trans hf6)
      have hBw := (HB1.out.trans (hF6.below (Nat.le_trans (by omega) (Nat.le_refl _)) fun k hk e => by have e2 : k = g := e; omega)).trans (hs6.below (by omega) fun k hk e => by have e2 : k = w.heap.size := e; omega)
      have hkb : ∀ k, (Value.slice ka l.length kc).ownBlock = some k → w.heap.size + 1 ≤ k := fun k hk => by have := (own_lt ho6 hk.symm).1; omega
      have HO := Lib.hid (And.intro (And.intro (t1.kept hs6 far) (t2.kept hs6 far)) (And.intro (And.intro (own_ints ho6).1 hkb) (And.intro hl2 hBw)))
      clear hkb hR5 hR6 hs6 kp t1 t2 far ho6 hF6 hBw hown hr5 hr6 hf6 hl2
      go_wp2
      refine bodyPost_ret (v := .tuple #[.agg #[.slice f1 B.1.length g1, .slice f2 B.2.length g2], .slice ka l.length kc]) (by simp [results, Try.results19, go_sem, rr.1, rr.2]) rfl ?_
      refine ⟨_, _, _, B, l, rfl, ⟨⟨?_, ?_⟩, HO.out.2.2.1⟩, HO.out.1, HO.out.2.1, HO.out.2.2.2⟩
      · have h1 : B.1.length ≤ l1.length + 14 := HP.out.2.1.1; have h2 := HQ.out.2; omega
      · have h1 : B.2.length ≤ a.2.length + 7 := HP.out.2.1.2; have h2 := HA.out.1.2; omega
    · have hpos : (0 : Int) < (gk : Int) := by omega
      have hg2 : (gk : Int) ≤ 3 := by omega
      have hll : l1.length ≤ 3 := by omega
      have HLE := Lib.hid (show l1.length + 1 ≤ 100 by omega)
      have hqq : q ≤ 1000 := by omega
      clear hq
      go_upto_region 6 with fail
      refine wp_region_late (S := (fun w' => w'.cell? ⟨bA, 0, none⟩ = some (.slice b1 l1.length d1))) (dep := [5, 7]) (by kernel_rfl) (cell_keep (below_drew _) (box0 D.boxA)) (fun hHeld => ?_)
      refine wpAnyD_free (i := 0) (oi := _) (v := ?_) rfl (by kernel_rfl) (by kernel_rfl) (by kernel_rfl) (by kernel_rfl) (fun _ _ _ h => h) (Or.inl ⟨by rfl, ?_⟩) hHeld (fun hHeld => ?_)
      rotate_left
      · (intro w _; first | (go_simp; done) | (go_simp; with_reducible rfl))
      try simp only [Act.put, List.setIfInBounds_toArray, List.set_cons_zero, List.set_cons_succ]
      refine wpAnyD_free (i := 2) (oi := _) (v := ?_) rfl (by kernel_rfl) (by kernel_rfl) (by kernel_rfl) (by kernel_rfl) (fun _ _ _ h => h) (Or.inl ⟨by rfl, ?_⟩) hHeld (fun hHeld => ?_)
      rotate_left
      · (intro w _; first | (go_simp; done) | (go_simp; with_reducible rfl))
      try simp only [Act.put, List.setIfInBounds_toArray, List.set_cons_zero, List.set_cons_succ]
      refine wpAnyD_take (i := 1) (oi := _) (v := ?_) rfl (by kernel_rfl) (by kernel_rfl) (by kernel_rfl) (by kernel_rfl) (by kernel_rfl) (fun _ _ _ h => h) (Or.inl ⟨by rfl, ?_⟩) (hHeld (early_of (by kernel_rfl))) ?_
      rotate_left
      · (intro w hSw; (try dsimp only at hSw); first | (go_simp; done) | (go_simp; with_reducible rfl))
      try simp only [Act.put, List.setIfInBounds_toArray, List.set_cons_zero, List.set_cons_succ]
      replace hHeld := fun (he : Early _ _) => hHeld (Early.of_set (i := 1) he (by decide))
      refine wpAnyD_ready (rs := [3]) (by kernel_rfl) (by simp) ?_
      refine (AllReadyD.cons (o := _) rfl (fun K hK => ?_) AllReadyD.nil)
      clear hHeld
      go_simp
      (go_at_call 42; refine (l1Fact_any g (q) _ (D.keep (w' := wr.drew) Bl).rdr (by omega)).mono ?_; rintro e y1 ⟨⟨pk, pa, pb⟩, rfl, hpt, hr1, hf1⟩)
      have D1 := (D.keep (w' := wr.drew) Bl).drawn hr1 hf1 hgl hgR hgbA
      have hg1 := D1.rdr.lt
      clear hr1 hf1
      go_wp2_with fail
      refine hK.out _ _ ?_ (fun hHeld => ?_)
      · exact fun _ => (box0 D1.boxA)
      clear hK K
      try simp only [Act.put, List.setIfInBounds_toArray, List.set_cons_zero, List.set_cons_succ]
      refine wpAnyD_ready (rs := [4]) (by kernel_rfl) (by simp) ?_
      refine (AllReadyD.cons (o := _) rfl (fun K hK => ?_) AllReadyD.nil)
      clear hHeld
      go_simp
      refine hK.out _ _ ?_ (fun hHeld => ?_)
      · exact fun _ => cell_keep (below_alloc _ _) (box0 D1.boxA)
      clear hK K
      try simp only [Act.put, List.setIfInBounds_toArray, List.set_cons_zero, List.set_cons_succ]
      refine wpAnyD_ready (rs := [5]) (by kernel_rfl) (by simp) ?_
      refine (AllReadyD.cons (o := _) rfl (fun K hK => ?_) AllReadyD.nil)
      clear hHeld
      refine step_F (by rfl) (.tmp 18) (.tmp 21) _ (by rfl) ti_fact (by rfl) (D1.f.keep (below_alloc _ _)) (by rfl) (lit_fact _ _ _ _ _) (by have := HLE.out; simp; omega) (by have := D1.fr.size; simp; omega) ?_
      intro v' y9 hfe hfr
      obtain ⟨a', n', c', rfl⟩ := hfe.forms
      have DZ := (D1.keep (below_alloc _ _)).app1 hgl hRA hloA hfe hfr
      have hbz := box_tf (D1.keep (below_alloc _ _)).boxA hfr (by decide)
      have hbz0 := box0 hbz
      have hbzz := boxz hbz 0
      clear hbz
      refine hK.out _ _ ?_ (fun hHeld => ?_)
      · exact late_none (by kernel_rfl)
      clear hK K
      try simp only [Act.put, List.setIfInBounds_toArray, List.set_cons_zero, List.set_cons_succ]
      refine wpAnyD_free (i := 6) (oi := _) (v := ?_) rfl (by kernel_rfl) (by kernel_rfl) (by kernel_rfl) (by kernel_rfl) (fun _ _ _ h => h) (Or.inl ⟨by rfl, ?_⟩) hHeld (fun hHeld => ?_)
      rotate_left
      · (intro w _; first | (go_simp; done) | (go_simp; with_reducible rfl))
      try simp only [Act.put, List.setIfInBounds_toArray, List.set_cons_zero, List.set_cons_succ]
      refine wpAnyD_ready (rs := [7]) (by kernel_rfl) (by simp) ?_
      refine (AllReadyD.cons (o := _) rfl (fun K hK => ?_) AllReadyD.nil)
      clear hHeld
      go_simp
      refine hK.out _ _ ?_ (fun hHeld => ?_)
      · exact late_none (by kernel_rfl)
      clear hK K
      try simp only [Act.put, List.setIfInBounds_toArray, List.set_cons_zero, List.set_cons_succ]
      refine wpAnyD_done (by kernel_rfl) ?_ _
      clear hHeld
      have hDZ := Lib.hid DZ
      have HX := Lib.hid hpt
      clear DZ D1 hfe hfr hpt hbz0 hbzz
      go_wp2
      go_roundg (gk - 1)
      case rel => exact ⟨q + 3, _, l1 ++ [(pk, pa, pb)], by rw [show ((gk - 1 : Nat) : Int) = (gk : Int) - 1 by omega], ⟨by have := HQ.out.1; omega, by have := HQ.out.2; simp; omega⟩, hDZ.out⟩
      case measure => omega
set_option maxRecDepth 100000 in
set_option maxHeartbeats 1600000 in
theorem specDrawAbs_any (v : Value) (n : Nat) (w : World) (h : RBytes w v n) (hn : n ≤ 1048576) :
    Calls Try.prog 5 #[v] w fun e w' => ∃ (u1 u2 kv : Value) (A : Asn) (l : List Int), e = .returned (.tuple #[.agg #[u1, u2], kv]) ∧ ((A.1.length ≤ 40 ∧ A.2.length ≤ 40) ∧ l.length ≤ 2) ∧ (RL w' (fun k => w.heap.size ≤ k) u1 A.1 ∧ RL w' (fun k => w.heap.size ≤ k) u2 A.2) ∧ RInts w' kv l ∧ Below w.heap.size w w' := by
  go_enter Try.func5, Try.ntmps5
  go_wp2_with fail
  refine (specDrawTidy_any _ n _ (h.keep (below_alloc w (.cells #[.slice none 0 0, .slice none 0 0] 26))) hn).mono ?_
  rintro e w1 ⟨u1, u2, kv, A, l, rfl, hl, ⟨r1, r2⟩, ⟨hkv, hkb⟩, hb⟩
  have hA := box_keep (heap_alloc_new w (.cells #[.slice none 0 0, .slice none 0 0] 26)) hb
  simp only [World.size_alloc] at r1 r2 hkb
  obtain ⟨a1, c1, rfl⟩ := r1.form
  obtain ⟨a2, c2, rfl⟩ := r2.form
  obtain ⟨kq, kc, rfl, _⟩ := hkv.cells
  have b0 := box0 hA
  have b1 := box1 hA
  have bz := boxz hA
  have bl := box_lt hA
  have rr := box_two (.slice a1 A.1.length c1) (.slice a2 A.2.length c2) b0 b1
  have hs6 := fr_twoR w1 w.heap.size (.slice a1 A.1.length c1) (.slice a2 A.2.length c2)
  have far : ∀ k, k < w1.heap.size → (fun k => w.heap.size + 1 + 1 ≤ k) k → ¬ (fun j => j = w.heap.size) k := fun k _ h e => by
    have h2 : w.heap.size + 1 + 1 ≤ k := h
    have e2 : k = w.heap.size := e
    omega
  have HO := Lib.hid (And.intro hl (And.intro (And.intro ((r1.kept hs6 far).more fun k _ h => (show w.heap.size ≤ k from Nat.le_trans (by omega) h)) ((r2.kept hs6 far).more fun k _ h => (show w.heap.size ≤ k from Nat.le_trans (by omega) h))) (And.intro (hkv.kept hs6 fun k hk e => by have := hkb k hk; have e2 : k = w.heap.size := e; omega) (((bt (below_alloc w _) hb).setCell (p := ⟨w.heap.size, 0, none⟩) (Nat.le_refl _) (.slice a1 A.1.length c1)).setCell (p := ⟨w.heap.size, 1, none⟩) (Nat.le_refl _) (.slice a2 A.2.length c2)))))
  clear hA hs6 far r1 r2 hkv hkb hb hl h
  go_wp2
  refine bodyPost_ret (v := .tuple #[.agg #[.slice a1 A.1.length c1, .slice a2 A.2.length c2], .slice kq l.length kc]) (by simp [results, Try.results5, go_sem, rr.1, rr.2]) rfl ?_
  exact ⟨_, _, _, A, l, rfl, HO.out⟩
end Go.Proofs.Ytdjfdopgjlbloaa
