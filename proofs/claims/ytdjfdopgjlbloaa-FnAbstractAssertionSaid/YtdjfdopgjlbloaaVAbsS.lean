/- Walks: spec.l14Abstract, spec.AbstractAssertion. -/
import Derived.Test.YtdjfdopgjlbloaaVFoldS
import Derived.Test.YtdjfdopgjlbloaaVTidyS
import Derived.Deep.Cut
import Derived.Handy
set_option linter.unusedVariables false
set_option linter.unusedSimpArgs false
namespace Go.Proofs.Ytdjfdopgjlbloaa
open Go.RowKit

set_option maxRecDepth 100000 in
set_option maxHeartbeats 6400000 in
theorem absS_any {S1 S2 : Nat → Prop} (v1 v2 kv : Value) (a : Asn) (l : List Int) (w : World) (h1 : RL w S1 v1 a.1) (h2 : RL w S2 v2 a.2) (hk : RInts w kv l) (ha : asnB a = true) :
    Calls Try.prog 23 #[.agg #[v1, v2], kv] w fun e w' => ∃ x1 x2, e = .returned (.agg #[x1, x2]) ∧ (RL w' (fun k => w.heap.size ≤ k) x1 (absB (keepM l) a).1 ∧ RL w' (fun k => w.heap.size ≤ k) x2 (absB (keepM l) a).2) ∧ Below w.heap.size w w' := by
  obtain ⟨p1, c1, rfl⟩ := h1.form
  obtain ⟨p2, c2, rfl⟩ := h2.form
  obtain ⟨kq, kc, rfl, _⟩ := hk.cells
  have hbA := box_keep (heap_alloc_new w (.cells #[.slice p1 a.1.length c1, .slice p2 a.2.length c2] 26)) (below_alloc _ (.cells #[.slice none 0 0, .slice none 0 0] 26))
  have hbR := heap_alloc_new (w.alloc (.cells #[.slice p1 a.1.length c1, .slice p2 a.2.length c2] 26)) (.cells #[.slice none 0 0, .slice none 0 0] 26)
  rw [World.size_alloc] at hbR
  have hB0 : Below w.heap.size w ((w.alloc (.cells #[.slice p1 a.1.length c1, .slice p2 a.2.length c2] 26)).alloc (.cells #[.slice none 0 0, .slice none 0 0] 26)) := Bl
  obtain ⟨W, hW⟩ : ∃ W, ((w.alloc (.cells #[.slice p1 a.1.length c1, .slice p2 a.2.length c2] 26)).alloc (.cells #[.slice none 0 0, .slice none 0 0] 26)) = W := ⟨_, rfl⟩
  rw [hW] at hbA hbR hB0
  have hzW : W.heap.size = w.heap.size + 2 := by rw [← hW]; simp
  have H0 := Lib.hid (And.intro hbR (And.intro hB0 (And.intro (h1.keep hB0) (And.intro (h2.keep hB0) (hk.keep hB0)))))
  have HA := Lib.hid ha
  have HK0 := Lib.hid hk
  have HW := Lib.hid (And.intro hW hzW)
  obtain ⟨m, hm⟩ : ∃ m, keepM l = m := ⟨_, rfl⟩
  have HM := Lib.hid hm
  have a0 := box0 hbA
  have a1 := box1 hbA
  have al := box_lt hbA
  rw [hm]
  clear hbA hbR hB0 h1 h2 hk ha hW hzW hm
  go_enter Try.func23, Try.ntmps23
  go_upto_region 1 with fail
  rw [HW.out.1]
  go_wp2_with fail
  refine (tidyS_any _ _ _ a l _ H0.out.2.2.1 H0.out.2.2.2.1 H0.out.2.2.2.2 HA.out).mono ?_
  rw [HM.out]
  rintro e w1 ⟨x1, x2, rfl, ⟨hx1, hx2⟩, hb1⟩
  obtain ⟨d1, g1, rfl⟩ := hx1.form
  obtain ⟨d2, g2, rfl⟩ := hx2.form
  obtain ⟨b0, hb0⟩ : ∃ b, tidyB m a = b := ⟨_, rfl⟩
  rw [hb0] at hx1 hx2 ⊢
  have hbO := heap_alloc_new w1 (.cells #[.slice d1 b0.1.length g1, .slice d2 b0.2.length g2] 26)
  have hbo := below_alloc w1 (.cells #[.slice d1 b0.1.length g1, .slice d2 b0.2.length g2] 26)
  have hz1 := hb1.size
  have hv0 : asnB b0 = true := by rw [← hb0]; exact tidyB_valid HA.out
  have q1 : RL w1 (fun k => W.heap.size ≤ k ∧ ¬ k = w1.heap.size) _ b0.1 := hx1.rl.more fun k hk h => ⟨h, by omega⟩
  have q2 : RL w1 (fun k => W.heap.size ≤ k ∧ ¬ k = w1.heap.size) _ b0.2 := hx2.rl.more fun k hk h => ⟨h, by omega⟩
  have H1 := Lib.hid (And.intro (And.intro hbO (box_keep (box_keep H0.out.1 hb1) hbo)) (And.intro (And.intro (q1.keep hbo) (q2.keep hbo)) (And.intro (bt (bt H0.out.2.1 hb1) hbo) (H0.out.2.2.2.2.keep (bt hb1 hbo)))))
  have HZ := Lib.hid (And.intro hv0 (And.intro hb0 hz1))
  clear a0 a1 al hx1 hx2 hbO hbo hz1 hv0 q1 q2 hb0 hb1
  go_wp2_with fail
  refine (l10Busy_any _ l _ H1.out.2.2.2).mono ?_
  rw [HM.out]
  rintro e w2 ⟨bv, rfl, ho, hb2⟩
  obtain ⟨g, cap, rfl⟩ := flags_form ho
  have hgl := own_lt ho (k := g) rfl
  simp only [World.size_alloc] at hgl
  have H2 := Lib.hid (And.intro (And.intro (box_keep H1.out.1.1 hb2) (box_keep H1.out.1.2 hb2)) (And.intro (And.intro (H1.out.2.1.1.keep hb2) (H1.out.2.1.2.keep hb2)) (And.intro (bt H1.out.2.2.1 hb2) (And.intro (H1.out.2.2.2.keep hb2) ho))))
  have HG := Lib.hid hgl
  obtain ⟨bO, hbO⟩ : ∃ bO, w1.heap.size = bO := ⟨_, rfl⟩
  rw [hbO] at H2 HG HZ
  simp only [hbO]
  have c0 := box0 H2.out.1.1
  have c1' := box1 H2.out.1.1
  have cl := box_lt H2.out.1.1
  obtain ⟨r0, hr0⟩ : ∃ r, foldO m b0 = r := ⟨_, rfl⟩
  have HR0 := Lib.hid hr0
  clear ho hb2 hgl hr0
  go_wp2_with fail
  refine (l14Fold_any _ _ _ b0 m _ r0 _ H2.out.2.1.1 H2.out.2.1.2 H2.out.2.2.2.2 HZ.out.1 HR0.out).mono ?_
  rintro e w3 ⟨u1, u2, n1, k1, n2, k2, rfl, hns, hb3⟩
  have hbN := heap_alloc_new w3 (.cells #[.slice u1 n1 k1, .slice u2 n2 k2] 26)
  have hbn := below_alloc w3 (.cells #[.slice u1 n1 k1, .slice u2 n2 k2] 26)
  have hb33 := bt hb3 hbn
  have hz3 := hb3.size
  have s1 : RL w3 (fun k => W.heap.size ≤ k ∧ (¬ k = bO ∧ ¬ k = w3.heap.size)) (.slice d1 b0.1.length g1) b0.1 := (H2.out.2.1.1.keep hb3).more fun k hk h => ⟨h.1, h.2, by omega⟩
  have s2 : RL w3 (fun k => W.heap.size ≤ k ∧ (¬ k = bO ∧ ¬ k = w3.heap.size)) (.slice d2 b0.2.length g2) b0.2 := (H2.out.2.1.2.keep hb3).more fun k hk h => ⟨h.1, h.2, by omega⟩
  have hg3 := HG.out
  have hbol := box_lt H2.out.1.1
  have H3 := Lib.hid (And.intro (And.intro (And.intro (box_keep H2.out.1.1 hb33) (box_keep H2.out.1.2 hb33)) (And.intro hbN (show ¬ w3.heap.size = bO by omega))) (And.intro (And.intro (s1.keep hbn) (s2.keep hbn)) (And.intro (show ∀ c, r0 = some c → RL (w3.alloc (.cells #[.slice u1 n1 k1, .slice u2 n2 k2] 26)) (fun _ => True) (.slice u1 n1 k1) c.1 ∧ RL (w3.alloc (.cells #[.slice u1 n1 k1, .slice u2 n2 k2] 26)) (fun _ => True) (.slice u2 n2 k2) c.2 from fun c hc => ⟨((hns c hc).1.keep hbn).any, ((hns c hc).2.keep hbn).any⟩) (And.intro (bt H2.out.2.2.1 hb33) (And.intro (H2.out.2.2.2.1.keep hb33) (own_keep H2.out.2.2.2.2 hb33))))))
  have HW3 := Lib.hid (show w2.heap.size ≤ w3.heap.size from hz3)
  clear hbN hbn hb33 hz3 s1 s2 hns hb3 c0 c1' cl hg3 hbol H2
  go_wp2
  go_loopg [8, 9] 6 (fun q s8 s9 wr => ∃ (b : Asn) (r : Option Asn) (bN : Nat) (d1 d2 u1 u2 : Option Addr) (g1 g2 n1 k1 n2 k2 : Nat), (asnB b = true ∧ absN m q b = absN m 6 (tidyB m a) ∧ b.2.length ≤ q ∧ foldO m b = r) ∧ s8 = .pointer (some ⟨bN, 0, none⟩) ∧ s9 = .bool (isSo r) ∧ ((wr.heap[bO]? = some (.cells #[.slice d1 b.1.length g1, .slice d2 b.2.length g2] 26 (0, 0)) ∧ wr.heap[w.heap.size + 1]? = some (.cells #[.slice none 0 0, .slice none 0 0] 26 (0, 0))) ∧ wr.heap[bN]? = some (.cells #[.slice u1 n1 k1, .slice u2 n2 k2] 26 (0, 0)) ∧ ¬ bN = bO) ∧ (RL wr (fun k => W.heap.size ≤ k ∧ (¬ k = bO ∧ ¬ k = bN)) (.slice d1 b.1.length g1) b.1 ∧ RL wr (fun k => W.heap.size ≤ k ∧ (¬ k = bO ∧ ¬ k = bN)) (.slice d2 b.2.length g2) b.2) ∧ (∀ c, r = some c → RL wr (fun _ => True) (.slice u1 n1 k1) c.1 ∧ RL wr (fun _ => True) (.slice u2 n2 k2) c.2) ∧ Below w.heap.size w wr ∧ RInts wr (.slice kq l.length kc) l ∧ wr.ownsRow (bO + 1) 4 1 (.slice (some ⟨g, 0, none⟩) 9 cap) 9 (flagsOf m))
  case atStart =>
    refine ⟨b0, r0, w3.heap.size, d1, d2, u1, u2, g1, g2, n1, k1, n2, k2, ⟨HZ.out.1, by rw [HZ.out.2.1], (asnLe HZ.out.1).1.2, HR0.out⟩, rfl, rfl, H3.out.1, H3.out.2.1, H3.out.2.2.1, H3.out.2.2.2.1, H3.out.2.2.2.2.1, ?_⟩
    have := H3.out.2.2.2.2.2
    simp only [World.size_alloc] at this
    rw [hbO] at this
    exact this
  case round =>
    clear H3
    obtain ⟨b, r, bN, d1, d2, u1, u2, g1, g2, n1, k1, n2, k2, hpl, rfl, rfl, hBB, hqq, hns, hW, hkk, ho⟩ := hrel
    have HP := Lib.hid hpl
    have HR := Lib.hid (And.intro hBB (And.intro hqq (And.intro hns (And.intro hW (And.intro hkk ho)))))
    have n0 := box0 hBB.2.1
    have n1' := box1 hBB.2.1
    have nl := box_lt hBB.2.1
    clear hpl hBB hqq hns hW hkk ho
    cases r with
    | none =>
      have hk2 : isSo (none : Option Asn) = false := rfl
      rw [hk2]
      clear hk2 n0 n1' nl
      have hres : absB m a = b := by rw [absB, ← HP.out.2.1, abs_stop HP.out.2.2.2]
      have HRES := Lib.hid hres
      have b0' := box0 HR.out.1.1.1
      have b1' := box1 HR.out.1.1.1
      have bl := box_lt HR.out.1.1.1
      have r0' := box0 HR.out.1.1.2
      have r1' := box1 HR.out.1.1.2
      have rz := boxz HR.out.1.1.2
      have rl := box_lt HR.out.1.1.2
      have rr := box_two (.slice d1 b.1.length g1) (.slice d2 b.2.length g2) r0' r1'
      have hs6 := fr_twoR wr (w.heap.size + 1) (.slice d1 b.1.length g1) (.slice d2 b.2.length g2)
      have hzW := HW.out.2
      have far : ∀ k, k < wr.heap.size → (fun k => W.heap.size ≤ k ∧ (¬ k = bO ∧ ¬ k = bN)) k → ¬ (fun j => j = w.heap.size + 1) k := fun k _ h e => by
        have h2 : W.heap.size ≤ k := h.1
        have e2 : k = w.heap.size + 1 := e
        omega
      have HO := Lib.hid (And.intro (And.intro ((HR.out.2.1.1.kept hs6 far).more fun k _ h => (show w.heap.size ≤ k from Nat.le_trans (by omega) h.1)) ((HR.out.2.1.2.kept hs6 far).more fun k _ h => (show w.heap.size ≤ k from Nat.le_trans (by omega) h.1))) ((HR.out.2.2.2.1.setCell (p := ⟨w.heap.size + 1, 0, none⟩) (by simp) (.slice d1 b.1.length g1)).setCell (p := ⟨w.heap.size + 1, 1, none⟩) (by simp) (.slice d2 b.2.length g2)))
      clear hres hs6 far hzW
      go_wp2
      refine bodyPost_ret (v := .agg #[.slice d1 b.1.length g1, .slice d2 b.2.length g2]) (by simp [results, Try.results23, go_sem, rr.1, rr.2]) rfl ?_
      exact ⟨_, _, rfl, by rw [HRES.out]; exact HO.out.1, HO.out.2⟩
    | some c =>
      have hk2 : isSo (some c) = true := rfl
      rw [hk2]
      clear hk2
      have hfl := fold_len HP.out.2.2.2
      obtain ⟨i0, k0, _, _, htr⟩ := foldO_some HP.out.2.2.2
      have hvc : asnB c = true := (ent_valid (try_some htr).2).2
      have hcr := HR.out.2.2.1 c rfl
      obtain ⟨j1, l1, e1⟩ := hcr.1.form
      obtain ⟨j2, l2, e2⟩ := hcr.2.form
      have HC := Lib.hid (And.intro hfl (And.intro hvc hcr))
      clear hfl htr hvc hcr e1 e2
      go_wp2_with fail
      refine (tidyS_any _ _ _ c l _ HC.out.2.2.1 HC.out.2.2.2 HR.out.2.2.2.2.1 HC.out.2.1).mono ?_
      rw [HM.out]
      rintro e w5 ⟨y1, y2, rfl, ⟨hy1, hy2⟩, hb5⟩
      obtain ⟨f1, h1, rfl⟩ := hy1.form
      obtain ⟨f2, h2, rfl⟩ := hy2.form
      obtain ⟨b', hb'⟩ : ∃ b', tidyB m c = b' := ⟨_, rfl⟩
      rw [hb'] at hy1 hy2 ⊢
      have hO5 := box_keep HR.out.1.1.1 hb5
      have hol := box_lt HR.out.1.1.1
      have hz5 := hb5.size
      have hzr := HR.out.2.2.2.1.size
      have hZ := HZ.out.2.2
      have hzW := HW.out.2
      have hs6 := fr_twoR w5 bO (.slice f1 b'.1.length h1) (.slice f2 b'.2.length h2)
      have far : ∀ k, k < w5.heap.size → (fun k => wr.heap.size ≤ k) k → ¬ (fun j => j = bO) k := fun k _ h e => by
        have h2 : wr.heap.size ≤ k := h
        have e2 : k = bO := e
        omega
      have HB := Lib.hid (And.intro (show asnB b' = true by rw [← hb']; exact tidyB_valid HC.out.2.1) (And.intro (show b'.2.length + 1 ≤ b.2.length by rw [← hb']; have := tidyB_len (m := m) (a := c); have := HC.out.1; omega) hb'))
      have ho6 := own_kept (own_keep HR.out.2.2.2.2.2 hb5) hs6 fun k hk e => by
        have e2 : k = bO := e
        have := (own_lt HR.out.2.2.2.2.2 (k := k) hk).1
        omega
      have HR6 := Lib.hid (And.intro (And.intro (box_set1 (box_set0 hO5 (.slice f1 b'.1.length h1)) (.slice f2 b'.2.length h2)) (box_other (box_other (box_keep HR.out.1.1.2 hb5) ⟨bO, 0, none⟩ (.slice f1 b'.1.length h1) (by show ¬ w.heap.size + 1 = bO; omega)) ⟨bO, 1, none⟩ (.slice f2 b'.2.length h2) (by show ¬ w.heap.size + 1 = bO; omega))) (And.intro (And.intro (hy1.rl.kept hs6 far) (hy2.rl.kept hs6 far)) (And.intro (((bt HR.out.2.2.2.1 hb5).setCell (p := ⟨bO, 0, none⟩) (by show w.heap.size ≤ bO; omega) (.slice f1 b'.1.length h1)).setCell (p := ⟨bO, 1, none⟩) (by show w.heap.size ≤ bO; omega) (.slice f2 b'.2.length h2)) ho6)))
      have hN6 := box_other (box_other (box_keep HR.out.1.2.1 hb5) ⟨bO, 0, none⟩ (.slice f1 b'.1.length h1) (by show ¬ bN = bO; exact HR.out.1.2.2)) ⟨bO, 1, none⟩ (.slice f2 b'.2.length h2) (by show ¬ bN = bO; exact HR.out.1.2.2)
      have m0 := box0 hN6
      have m1 := box1 hN6
      have ml := box_lt (box_keep HR.out.1.2.1 hb5)
      have c0 := box0 hO5
      have c1' := box1 hO5
      have cz := boxz hO5
      have cl := box_lt hO5
      obtain ⟨r', hr'⟩ : ∃ r, foldO m b' = r := ⟨_, rfl⟩
      have HR' := Lib.hid hr'
      have hbn := below_alloc ((w5.setCell ⟨bO, 0, none⟩ (.slice f1 b'.1.length h1)).setCell ⟨bO, 1, none⟩ (.slice f2 b'.2.length h2)) (.cells #[.slice u1 n1 k1, .slice u2 n2 k2] 26)
      have hbN := heap_alloc_new ((w5.setCell ⟨bO, 0, none⟩ (.slice f1 b'.1.length h1)).setCell ⟨bO, 1, none⟩ (.slice f2 b'.2.length h2)) (.cells #[.slice u1 n1 k1, .slice u2 n2 k2] 26)
      simp only [World.size_setCell] at hbN
      have mor : ∀ k, k < ((w5.setCell ⟨bO, 0, none⟩ (.slice f1 b'.1.length h1)).setCell ⟨bO, 1, none⟩ (.slice f2 b'.2.length h2)).heap.size → (fun k => wr.heap.size ≤ k) k → (fun k => W.heap.size ≤ k ∧ (¬ k = bO ∧ ¬ k = w5.heap.size)) k := fun k hk h => by
        have h2 : wr.heap.size ≤ k := h
        simp only [World.size_setCell] at hk
        refine ⟨by omega, by omega, by omega⟩
      have HR7 := Lib.hid (And.intro (And.intro (And.intro (box_keep HR6.out.1.1 hbn) (box_keep HR6.out.1.2 hbn)) hbN) (And.intro (And.intro ((HR6.out.2.1.1.more mor).keep hbn) ((HR6.out.2.1.2.more mor).keep hbn)) (And.intro (bt HR6.out.2.2.1 hbn) (own_keep HR6.out.2.2.2 hbn))))
      have HL5 := Lib.hid (show ¬ w5.heap.size = bO by omega)
      clear hy1 hy2 hb5 hO5 hol hz5 hzr hZ hzW hs6 far ho6 hN6 hr' hbn hbN mor hb'
      have e0 := box0 HR7.out.1.1.1
      have e1 := box1 HR7.out.1.1.1
      go_wp2_with fail
      refine (l14Fold_any _ _ _ b' m _ r' _ HR7.out.2.1.1 HR7.out.2.1.2 HR7.out.2.2.2 HB.out.1 HR'.out).mono ?_
      rintro e w7 ⟨v1, v2, s1, t1, s2, t2, rfl, hns, hb7⟩
      have hgz := (own_lt HR6.out.2.2.2 (k := g) rfl).2
      simp only [World.size_setCell] at hgz
      have hN7 := box_keep HR7.out.1.2 hb7
      have hs8 := fr_twoR w7 w5.heap.size (.slice v1 s1 t1) (.slice v2 s2 t2)
      have hz7 := hb7.size
      simp only [World.size_alloc, World.size_setCell] at hz7
      have hle := HR7.out.2.2.1.size
      have hrl := box_lt HR6.out.1.2
      simp only [World.size_setCell] at hrl
      have hlo : w.heap.size ≤ w5.heap.size := by omega
      have far8 : ∀ k, k < w7.heap.size → (fun k => W.heap.size ≤ k ∧ (¬ k = bO ∧ ¬ k = w5.heap.size)) k → ¬ (fun j => j = w5.heap.size) k := fun k _ h e => h.2.2 e
      have farN : ∀ k, k < w7.heap.size → (fun k => (((w5.setCell ⟨bO, 0, none⟩ (.slice f1 b'.1.length h1)).setCell ⟨bO, 1, none⟩ (.slice f2 b'.2.length h2)).alloc (.cells #[.slice u1 n1 k1, .slice u2 n2 k2] 26)).heap.size ≤ k) k → ¬ (fun j => j = w5.heap.size) k := fun k _ h e => by
        have h2 : (((w5.setCell ⟨bO, 0, none⟩ (.slice f1 b'.1.length h1)).setCell ⟨bO, 1, none⟩ (.slice f2 b'.2.length h2)).alloc (.cells #[.slice u1 n1 k1, .slice u2 n2 k2] 26)).heap.size ≤ k := h
        have e2 : k = w5.heap.size := e
        simp only [World.size_alloc, World.size_setCell] at h2
        omega
      have hW8 := (bt HR7.out.2.2.1 hb7).trans (hs8.below (by omega) fun k hk e => by have e2 : k = w5.heap.size := e; omega)
      have H9 := Lib.hid (And.intro (And.intro (And.intro (box_other (box_other (box_keep HR7.out.1.1.1 hb7) ⟨w5.heap.size, 0, none⟩ (.slice v1 s1 t1) (by show ¬ bO = w5.heap.size; have := HL5.out; omega)) ⟨w5.heap.size, 1, none⟩ (.slice v2 s2 t2) (by show ¬ bO = w5.heap.size; have := HL5.out; omega)) (box_other (box_other (box_keep HR7.out.1.1.2 hb7) ⟨w5.heap.size, 0, none⟩ (.slice v1 s1 t1) (by show ¬ w.heap.size + 1 = w5.heap.size; omega)) ⟨w5.heap.size, 1, none⟩ (.slice v2 s2 t2) (by show ¬ w.heap.size + 1 = w5.heap.size; omega))) (And.intro (box_set1 (box_set0 hN7 (.slice v1 s1 t1)) (.slice v2 s2 t2)) HL5.out))
        (And.intro (And.intro ((HR7.out.2.1.1.keep hb7).kept hs8 far8) ((HR7.out.2.1.2.keep hb7).kept hs8 far8))
        (And.intro (show ∀ c, r' = some c → RL ((w7.setCell ⟨w5.heap.size, 0, none⟩ (.slice v1 s1 t1)).setCell ⟨w5.heap.size, 1, none⟩ (.slice v2 s2 t2)) (fun _ => True) (.slice v1 s1 t1) c.1 ∧ RL ((w7.setCell ⟨w5.heap.size, 0, none⟩ (.slice v1 s1 t1)).setCell ⟨w5.heap.size, 1, none⟩ (.slice v2 s2 t2)) (fun _ => True) (.slice v2 s2 t2) c.2 from fun c hc => ⟨((hns c hc).1.kept hs8 farN).any, ((hns c hc).2.kept hs8 farN).any⟩)
        (And.intro hW8 (And.intro (HK0.out.keep hW8) (own_kept (own_keep HR7.out.2.2.2 hb7) hs8 fun k hk e => by
          have e2 : k = w5.heap.size := e
          have hkg : k = g := by simpa [Value.ownBlock] using hk
          omega))))))
      have d0 := box0 hN7
      have d1' := box1 hN7
      have dz := boxz hN7
      have dl := box_lt hN7
      clear hgz hN7 hs8 hz7 hle hrl hlo far8 farN hW8 hns hb7 e0 e1 m0 m1 ml c0 c1' cz cl
      go_wp2
      go_roundg (gk - 1)
      case rel =>
        have hlt := HB.out.2.1
        have hq := HP.out.2.2.1
        have hgk : gk = (gk - 1) + 1 := by omega
        refine ⟨b', r', w5.heap.size, f1, f2, v1, v2, h1, h2, s1, t1, s2, t2, ⟨HB.out.1, ?_, by omega, HR'.out⟩, rfl, rfl, H9.out⟩
        rw [← HP.out.2.1, hgk, abs_step HP.out.2.2.2, HB.out.2.2]; rfl
      case measure =>
        have hlt := HB.out.2.1
        have hq := HP.out.2.2.1
        omega
end Go.Proofs.Ytdjfdopgjlbloaa
