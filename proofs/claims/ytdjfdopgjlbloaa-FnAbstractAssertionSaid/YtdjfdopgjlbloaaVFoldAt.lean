/- Walk: impl.foldAt. -/
import Derived.Test.YtdjfdopgjlbloaaVWoutX
import Derived.Test.YtdjfdopgjlbloaaVReplI
import Derived.Handy
set_option linter.unusedVariables false
set_option linter.unusedSimpArgs false
namespace Go.Proofs.Ytdjfdopgjlbloaa
open Go.RowKit

set_option maxRecDepth 100000 in
set_option maxHeartbeats 3200000 in
theorem foldAt_any {S1 S2 : Nat → Prop} (v1 v2 : Value) (a : Asn) (i k : Nat) (w : World) (h1 : RL w S1 v1 a.1) (h2 : RL w S2 v2 a.2) (hl1 : (a.1.length : Int) ≤ 12) (hl2 : (a.2.length : Int) ≤ 8) (hi : i < a.2.length) (hk : k < a.2.length) :
    Calls Try.prog 75 #[.agg #[v1, v2], .int .i64 (i : Int), .int .i64 (k : Int)] w fun e w' => ∃ (x1 x2 : Value), e = .returned (.agg #[x1, x2]) ∧ (RL w' (fun k => w.heap.size ≤ k) x1 (foldA a i k).1 ∧ RL w' (fun k => w.heap.size ≤ k) x2 (foldA a i k).2) ∧ Below w.heap.size w w' := by
  obtain ⟨a1, l⟩ := a
  simp only at h1 h2 hl1 hl2 hi hk
  obtain ⟨p1, c1, rfl⟩ := h1.form
  obtain ⟨p2, c2, rfl⟩ := h2.form
  have hbA := box_keep (heap_alloc_new w (.cells #[.slice p1 a1.length c1, .slice p2 l.length c2] 26)) (below_alloc _ (.cells #[.slice none 0 0, .slice none 0 0] 26))
  have hbR := heap_alloc_new (w.alloc (.cells #[.slice p1 a1.length c1, .slice p2 l.length c2] 26)) (.cells #[.slice none 0 0, .slice none 0 0] 26)
  rw [World.size_alloc] at hbR
  have hB0 : Below w.heap.size w ((w.alloc (.cells #[.slice p1 a1.length c1, .slice p2 l.length c2] 26)).alloc (.cells #[.slice none 0 0, .slice none 0 0] 26)) := Bl
  obtain ⟨W, hW⟩ : ∃ W, ((w.alloc (.cells #[.slice p1 a1.length c1, .slice p2 l.length c2] 26)).alloc (.cells #[.slice none 0 0, .slice none 0 0] 26)) = W := ⟨_, rfl⟩
  rw [hW] at hbA hbR hB0
  have hzW : W.heap.size = w.heap.size + 2 := by rw [← hW]; simp
  have H0 := Lib.hid (And.intro (And.intro hbA hbR) (And.intro hB0 (And.intro (h1.keep hB0) (h2.keep hB0))))
  have HW := Lib.hid (And.intro hW hzW)
  have hki : (k : Int) < (l.length : Int) := by omega
  have hii : (i : Int) < (l.length : Int) := by omega
  obtain ⟨qa, qc, hqe, _, _, hqf⟩ := (h2.keep hB0).atomAt
  simp only [Value.slice.injEq] at hqe
  obtain ⟨rfl, _, rfl⟩ := hqe
  obtain ⟨bb, oo, rfl, _, hz1, hi1, hi2, hi3⟩ := hqf i hi
  obtain ⟨bb', oo', he, _, hz1', hk1, hk2, hk3⟩ := hqf k hk
  obtain ⟨rfl, rfl⟩ : bb = bb' ∧ oo = oo' := by injection he with he; injection he with h1 h2; exact ⟨h1, h2⟩
  obtain ⟨A, hA⟩ : ∃ A, (gd l i).2.1 = A := ⟨_, rfl⟩
  obtain ⟨B, hB⟩ : ∃ B, (gd l k).2.2 = B := ⟨_, rfl⟩
  rw [hA] at hi2
  rw [hB] at hk3
  have HX := Lib.hid (And.intro hA hB)
  have a1' := box1 hbA
  have al := box_lt hbA
  clear hbA hbR hB0 h1 h2 hW hzW hqf he hi1 hi3 hk1 hk2 hA hB
  go_enter Try.func75, Try.ntmps75
  go_upto_region 1 with fail
  rw [HW.out.1]
  go_region
  have hbL : Below W.heap.size W (W.alloc (.cells #[.int .i64 2, .int .i64 A, .int .i64 B] 56)).drew := Bl
  have hHL := heap_alloc_new W (.cells #[.int .i64 2, .int .i64 A, .int .i64 B] 56)
  have q1 : RL W (fun k => k < W.heap.size) (.slice p1 a1.length c1) a1 := H0.out.2.2.1.any.more fun k hk _ => hk
  have q2 : RL W (fun k => k < W.heap.size) (.slice (some ⟨bb, oo, none⟩) l.length c2) l := H0.out.2.2.2.any.more fun k hk _ => hk
  have H1 := Lib.hid (And.intro (FE.litA (w := (W.alloc (.cells #[.int .i64 2, .int .i64 A, .int .i64 B] 56)).drew) (B := W.heap.size) (g := W.heap.size) (K := 2) (A := A) (C := B) hHL (Nat.le_refl _)) (And.intro (And.intro (box_keep H0.out.1.1 hbL) (box_keep H0.out.1.2 hbL)) (And.intro (And.intro (q1.keep hbL) (q2.keep hbL)) (And.intro (bt H0.out.2.1 hbL) hbL))))
  clear hbL hHL q1 q2 hi2 hk3 hz1 hz1'
  go_wp2
  clear a1' al
  go_loopg [7, 27] l.length (fun q y i' wr => ∃ n : Nat, n + q = l.length ∧ i' = .int .i64 n ∧ FE wr W.heap.size y ((2, A, B) :: wlL l i k n) ∧ (wr.heap[w.heap.size]? = some (.cells #[.slice p1 a1.length c1, .slice (some ⟨bb, oo, none⟩) l.length c2] 26 (0, 0)) ∧ wr.heap[w.heap.size + 1]? = some (.cells #[.slice none 0 0, .slice none 0 0] 26 (0, 0))) ∧ (RL wr (fun k => k < W.heap.size) (.slice p1 a1.length c1) a1 ∧ RL wr (fun k => k < W.heap.size) (.slice (some ⟨bb, oo, none⟩) l.length c2) l) ∧ Below w.heap.size w wr ∧ Below W.heap.size W wr)
  case atStart => exact ⟨0, by omega, rfl, H1.out⟩
  case round =>
    clear H1
    obtain ⟨n, hn, rfl, hF, hBB, hqq, hW1, hW2⟩ := hrel
    obtain ⟨M, hM⟩ : ∃ M, (2, A, B) :: wlL l i k n = M := ⟨_, rfl⟩
    have hMl : M.length ≤ n + 1 := by rw [← hM]; have := wlL_len l i k n; simp; omega
    rw [hM] at hF
    obtain ⟨ua, un, uc, rfl⟩ := hF.forms
    have HN := Lib.hid hn
    have HM := Lib.hid (And.intro hM hMl)
    clear hM hMl hn
    by_cases hn8 : n < l.length
    · have hni : (n : Int) < (l.length : Int) := by omega
      have hcase : ((n : Int) != (i : Int)) = false ∨ (((n : Int) != (i : Int)) = true ∧ ((n : Int) != (k : Int)) = false) ∨ (((n : Int) != (i : Int)) = true ∧ ((n : Int) != (k : Int)) = true) := by
        cases ((n : Int) != (i : Int)) <;> cases ((n : Int) != (k : Int)) <;> simp
      obtain ⟨qa, qc, hqe, _, _, hqf⟩ := hqq.2.atomAt
      simp only [Value.slice.injEq] at hqe
      obtain ⟨he1, _, rfl⟩ := hqe
      subst he1
      obtain ⟨b1, o1, he, _, hz1, hp1, hp2, hp3⟩ := hqf n hn8
      obtain ⟨rfl, rfl⟩ : bb = b1 ∧ oo = o1 := by injection he with he; injection he with h1 h2; exact ⟨h1, h2⟩
      obtain ⟨X, hX⟩ : ∃ X, gd l n = X := ⟨_, rfl⟩
      obtain ⟨X1, X2, X3⟩ := X
      rw [hX] at hp1 hp2 hp3
      simp only at hp1 hp2 hp3
      have hbF := below_alloc wr (.cells #[.int .i64 X1, .int .i64 X2, .int .i64 X3] 56)
      have hFX := heap_alloc_new wr (.cells #[.int .i64 X1, .int .i64 X2, .int .i64 X3] 56)
      have HD := Lib.hid (And.intro (hF.keep hbF) (And.intro (And.intro (box_keep hBB.1 hbF) (box_keep hBB.2 hbF)) (And.intro (And.intro (hqq.1.keep hbF) (hqq.2.keep hbF)) (And.intro (bt hW1 hbF) (bt hW2 hbF)))))
      have HX2 := Lib.hid (And.intro hX hW2.size)
      have HLE := Lib.hid (show M.length ≤ n + 1 ∧ n ≤ 8 from ⟨HM.out.2, by omega⟩)
      clear hqf he hX hF hBB hqq hW1 hW2 hbF
      rcases hcase with e1 | ⟨e1, e2⟩ | ⟨e1, e2⟩
      · have HS := Lib.hid (show (2, A, B) :: wlL l i k (n + 1) = M by rw [wlL_no (.inl (by simp at e1; omega)), HM.out.1])
        clear hFX
        go_wp2
        go_roundg (gk - 1)
        case rel => exact ⟨n + 1, by have := HN.out; omega, by go_num, by rw [HS.out]; exact HD.out.1, HD.out.2⟩
        case measure => have := HN.out; omega
      · have HS := Lib.hid (show (2, A, B) :: wlL l i k (n + 1) = M by rw [wlL_no (.inr (by simp at e2; omega)), HM.out.1])
        clear hFX
        go_wp2
        go_roundg (gk - 1)
        case rel => exact ⟨n + 1, by have := HN.out; omega, by go_num, by rw [HS.out]; exact HD.out.1, HD.out.2⟩
        case measure => have := HN.out; omega
      · have HS := Lib.hid (show (2, A, B) :: wlL l i k (n + 1) = M ++ [(X1, X2, X3)] by rw [wlL_yes (by simp at e1; omega) (by simp at e2; omega), ← List.cons_append, HM.out.1, HX2.out.1])
        have e0 := c30 hFX
        have e1' := c31 hFX
        have e2' := c32 hFX
        have ez := box_lt hFX
        have hlk := HLE.out
        have hzw5 := HX2.out.2
        clear hFX
        go_wp2_with (at_builtin; go_must (refine app_F (l := M) (m := [((X1, X2, X3) : Atom)]) (B := W.heap.size) (by rfl) (.tmp 40) (.tmp 42) _ (by rfl) ti_atom (by rfl) (HD.out.1.keep (below_alloc _ (.cells #[.int .i64 X1, .int .i64 X2, .int .i64 X3] 56))) (by rfl) (lit_atom_at (g := wr.heap.size + 1) (by simp) _ _ _ _) (by simp; omega) (by simp; omega) ?_; intro v' w7 o7 hf7; obtain ⟨a7, n7, c7, rfl⟩ := o7.forms))
        have hkp := below_alloc (wr.alloc (.cells #[.int .i64 X1, .int .i64 X2, .int .i64 X3] 56)) (.cells #[.int .i64 X1, .int .i64 X2, .int .i64 X3] 56)
        have hb7 := tf_below hf7 (by simp; omega)
        have far : ∀ k, k < ((wr.alloc (.cells #[.int .i64 X1, .int .i64 X2, .int .i64 X3] 56)).alloc (.cells #[.int .i64 X1, .int .i64 X2, .int .i64 X3] 56)).heap.size → (fun k => k < W.heap.size) k → ¬ TF ((wr.alloc (.cells #[.int .i64 X1, .int .i64 X2, .int .i64 X3] 56)).alloc (.cells #[.int .i64 X1, .int .i64 X2, .int .i64 X3] 56)) W.heap.size 56 k := fun k _ hs ht => by
          have h2 : k < W.heap.size := hs
          have := ht.1
          omega
        have H7 := Lib.hid (And.intro o7 (And.intro (And.intro (box_tf (box_keep HD.out.2.1.1 hkp) hf7 (by decide)) (box_tf (box_keep HD.out.2.1.2 hkp) hf7 (by decide))) (And.intro (And.intro ((HD.out.2.2.1.1.keep hkp).kept hf7 far) ((HD.out.2.2.1.2.keep hkp).kept hf7 far)) (And.intro ((bt HD.out.2.2.2.1 hkp).trans (hb7.mono (by have := HW.out.2; omega))) ((bt HD.out.2.2.2.2 hkp).trans hb7)))))
        clear o7 hf7 hkp hb7 far hlk hzw5 e0 e1' e2' ez
        go_wp2
        go_roundg (gk - 1)
        case rel => exact ⟨n + 1, by have := HN.out; omega, by go_num, by rw [HS.out]; exact H7.out.1, H7.out.2⟩
        case measure => have := HN.out; omega
    · obtain rfl : n = l.length := by have := HN.out; omega
      have hMM : M = (foldA (a1, l) i k).2 := by rw [← HM.out.1, foldA, foldX, HX.out.1, HX.out.2]; rfl
      have HMM := Lib.hid hMM
      have HD := Lib.hid (And.intro hF (And.intro hBB (And.intro hqq (And.intro hW1 hW2))))
      have b0 := box0 hBB.1
      have bl := box_lt hBB.1
      have hsz : a1.length + 0 ≤ 16777216 := by omega
      clear hMM hF hBB hqq hW1 hW2
      go_wp2_with fail
      refine (joinFacts_any (S2 := fun _ => True) _ _ a1 [] _ HD.out.2.2.1.1 (RL.nil _ _) (by simpa using hsz)).mono ?_
      rintro e w5 ⟨x1, rfl, ⟨f1, o1, n1⟩, hb5⟩
      rw [List.append_nil] at o1
      obtain ⟨d1, k1, rfl⟩ := o1.read.form
      have hR5 := box_keep HD.out.2.1.2 hb5
      have r0 := box0 hR5
      have r1 := box1 hR5
      have rz := boxz hR5
      have rl := box_lt hR5
      have rr := box_two (.slice d1 a1.length k1) (.slice ua un uc) r0 r1
      have hs6 := fr_twoR w5 (w.heap.size + 1) (.slice d1 a1.length k1) (.slice ua un uc)
      have hWz := HW.out.2
      have hwz := HD.out.2.2.2.2.size
      have g1 : RL w5 (fun k => w.heap.size + 2 ≤ k) (.slice d1 a1.length k1) a1 := o1.read.more fun k _ hk => by have := (o1.lt k hk).1; omega
      have g2 : RL w5 (fun k => w.heap.size + 2 ≤ k) (.slice ua un uc) M := (HD.out.1.keep hb5).rl.more fun k _ hk => (show w.heap.size + 2 ≤ k from Nat.le_trans (by omega) hk)
      have far : ∀ k, k < w5.heap.size → (fun k => w.heap.size + 2 ≤ k) k → ¬ (fun j => j = w.heap.size + 1) k := fun k _ h e => by
        have h2 : w.heap.size + 2 ≤ k := h
        have e2 : k = w.heap.size + 1 := e
        omega
      have HO := Lib.hid (And.intro (And.intro ((g1.kept hs6 far).more fun k _ h => (show w.heap.size ≤ k from Nat.le_trans (by omega) h)) ((g2.kept hs6 far).more fun k _ h => (show w.heap.size ≤ k from Nat.le_trans (by omega) h))) (((bt HD.out.2.2.2.1 hb5).setCell (p := ⟨w.heap.size + 1, 0, none⟩) (by simp) (.slice d1 a1.length k1)).setCell (p := ⟨w.heap.size + 1, 1, none⟩) (by simp) (.slice ua un uc)))
      clear hR5 hs6 hWz hwz g1 g2 far o1 n1 hb5 b0 bl
      go_wp2
      refine bodyPost_ret (v := .agg #[.slice d1 a1.length k1, .slice ua un uc]) (by simp [results, Try.results75, go_sem, rr.1, rr.2]) rfl ?_
      exact ⟨_, _, rfl, ⟨HO.out.1.1, by rw [← HMM.out]; exact HO.out.1.2⟩, HO.out.2⟩
end Go.Proofs.Ytdjfdopgjlbloaa
