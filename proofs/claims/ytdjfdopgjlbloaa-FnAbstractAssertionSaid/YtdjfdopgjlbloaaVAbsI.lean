/- Walks: impl.abstract. -/
import Derived.Test.YtdjfdopgjlbloaaVFoldI
import Derived.Test.YtdjfdopgjlbloaaVTidyI
import Derived.Deep.Cut
import Derived.Handy
set_option linter.unusedVariables false
set_option linter.unusedSimpArgs false
namespace Go.Proofs.Ytdjfdopgjlbloaa
open Go.RowKit

theorem boxK {w : World} {b : Nat} {x : Value} {T : TypeId} (h : w.heap[b]? = some (.cells #[x] T (0, 0))) : w.cell? ⟨b, 0, none⟩ = some x := cell_of_row w b 0 _ _ _ h
set_option maxRecDepth 100000 in
set_option maxHeartbeats 6400000 in
theorem absI_any {S1 S2 : Nat → Prop} (v1 v2 : Value) (a : Asn) (m : Nat) (w : World) (h1 : RL w S1 v1 a.1) (h2 : RL w S2 v2 a.2) (hm : m < 65536) (ha : asnB a = true) :
    Calls Try.prog 20 #[.agg #[v1, v2], .int .u16 m] w fun e w' => ∃ x1 x2, e = .returned (.agg #[x1, x2]) ∧ ((FE w' w.heap.size x1 (absB m a).1 ∧ FE w' w.heap.size x2 (absB m a).2) ∧ (NilE (absB m a).1 x1 ∧ NilE (absB m a).2 x2)) ∧ Below w.heap.size w w' := by
  obtain ⟨p1, c1, rfl⟩ := h1.form
  obtain ⟨p2, c2, rfl⟩ := h2.form
  have hbA := box_keep (box_keep (heap_alloc_new w (.cells #[.slice p1 a.1.length c1, .slice p2 a.2.length c2] 26)) (below_alloc _ (.cells #[.int .u16 m] 48))) (below_alloc _ (.cells #[.slice none 0 0, .slice none 0 0] 26))
  have hbK := box_keep (heap_alloc_new (w.alloc (.cells #[.slice p1 a.1.length c1, .slice p2 a.2.length c2] 26)) (.cells #[.int .u16 m] 48)) (below_alloc _ (.cells #[.slice none 0 0, .slice none 0 0] 26))
  have hbR := heap_alloc_new ((w.alloc (.cells #[.slice p1 a.1.length c1, .slice p2 a.2.length c2] 26)).alloc (.cells #[.int .u16 m] 48)) (.cells #[.slice none 0 0, .slice none 0 0] 26)
  have hB0 : Below w.heap.size w (((w.alloc (.cells #[.slice p1 a.1.length c1, .slice p2 a.2.length c2] 26)).alloc (.cells #[.int .u16 m] 48)).alloc (.cells #[.slice none 0 0, .slice none 0 0] 26)) := Bl
  obtain ⟨W, hW⟩ : ∃ W, (((w.alloc (.cells #[.slice p1 a.1.length c1, .slice p2 a.2.length c2] 26)).alloc (.cells #[.int .u16 m] 48)).alloc (.cells #[.slice none 0 0, .slice none 0 0] 26)) = W := ⟨_, rfl⟩
  rw [hW] at hbA hbK hbR hB0
  simp only [World.size_alloc] at hbK hbR
  have hzW : W.heap.size = w.heap.size + 3 := by rw [← hW]; simp
  have H0 := Lib.hid (And.intro (And.intro hbA (And.intro hbK hbR)) (And.intro hB0 (And.intro (h1.keep hB0) (h2.keep hB0))))
  have HA := Lib.hid ha
  have HW := Lib.hid (And.intro hW hzW)
  have a0 := box0 hbA
  have a1 := box1 hbA
  have al := box_lt hbA
  have k0 := boxK hbK
  have kl := box_lt hbK
  clear hbA hbK hbR hB0 h1 h2 ha hW hzW
  go_enter Try.func20, Try.ntmps20
  go_upto_region 1 with fail
  rw [HW.out.1]
  go_wp2_with fail
  refine (tidyI_any _ _ a m _ H0.out.2.2.1 H0.out.2.2.2 hm HA.out).mono ?_
  rintro e w1 ⟨x1, x2, rfl, ⟨⟨hx1, hx2⟩, hz12⟩, hb1⟩
  obtain ⟨d1, g1, rfl⟩ := hx1.form
  obtain ⟨d2, g2, rfl⟩ := hx2.form
  obtain ⟨b0, hb0⟩ : ∃ b, tidyB m a = b := ⟨_, rfl⟩
  rw [hb0] at hx1 hx2 hz12 ⊢
  have hA1 := box_keep H0.out.1.1 hb1
  have hzW := HW.out.2
  have H1 := Lib.hid (And.intro (And.intro (box_set1 (box_set0 hA1 (.slice d1 b0.1.length g1)) (.slice d2 b0.2.length g2)) (And.intro (box_other (box_other (box_keep H0.out.1.2.1 hb1) ⟨w.heap.size, 0, none⟩ (.slice d1 b0.1.length g1) (by show ¬ w.heap.size + 1 = w.heap.size; omega)) ⟨w.heap.size, 1, none⟩ (.slice d2 b0.2.length g2) (by show ¬ w.heap.size + 1 = w.heap.size; omega)) (box_other (box_other (box_keep H0.out.1.2.2 hb1) ⟨w.heap.size, 0, none⟩ (.slice d1 b0.1.length g1) (by show ¬ w.heap.size + 1 + 1 = w.heap.size; omega)) ⟨w.heap.size, 1, none⟩ (.slice d2 b0.2.length g2) (by show ¬ w.heap.size + 1 + 1 = w.heap.size; omega))))
    (And.intro (And.intro ((hx1.mono (B' := w.heap.size) (by omega)).set2 (x := .slice d1 b0.1.length g1) (y := .slice d2 b0.2.length g2) hA1 (by decide)) ((hx2.mono (B' := w.heap.size) (by omega)).set2 (x := .slice d1 b0.1.length g1) (y := .slice d2 b0.2.length g2) hA1 (by decide))) (And.intro hz12 (((bt H0.out.2.1 hb1).setCell (p := ⟨w.heap.size, 0, none⟩) (Nat.le_refl _) (.slice d1 b0.1.length g1)).setCell (p := ⟨w.heap.size, 1, none⟩) (Nat.le_refl _) (.slice d2 b0.2.length g2)))))
  have HB0 := Lib.hid (And.intro (show asnB b0 = true by rw [← hb0]; exact tidyB_valid HA.out) hb0)
  have c0 := box0 hA1
  have c1' := box1 hA1
  have cz := boxz hA1
  have cl := box_lt hA1
  clear hA1 hzW hx1 hx2 hz12 hb1 hb0 a0 a1 al k0 kl
  go_wp2
  clear c0 c1' cz cl
  go_loopg [] 6 (fun q wr => ∃ (b : Asn) (o1 o2 : Value), (asnB b = true ∧ absN m q b = absN m 6 (tidyB m a) ∧ b.2.length ≤ q) ∧ (wr.heap[w.heap.size]? = some (.cells #[o1, o2] 26 (0, 0)) ∧ (wr.heap[w.heap.size + 1]? = some (.cells #[.int .u16 m] 48 (0, 0)) ∧ wr.heap[w.heap.size + 1 + 1]? = some (.cells #[.slice none 0 0, .slice none 0 0] 26 (0, 0)))) ∧ (FE wr w.heap.size o1 b.1 ∧ FE wr w.heap.size o2 b.2) ∧ (NilE b.1 o1 ∧ NilE b.2 o2) ∧ Below w.heap.size w wr)
  case atStart => exact ⟨b0, _, _, ⟨HB0.out.1, by rw [HB0.out.2], (asnLe HB0.out.1).1.2⟩, H1.out.1, H1.out.2.1, H1.out.2.2⟩
  case round =>
    clear H1
    obtain ⟨b, o1, o2, hpl, hBB, hff, hnn, hWr⟩ := hrel
    obtain ⟨d1, g1, rfl⟩ := hff.1.form
    obtain ⟨d2, g2, rfl⟩ := hff.2.form
    obtain ⟨r, hr⟩ : ∃ r, foldO m b = r := ⟨_, rfl⟩
    have HP := Lib.hid (And.intro hpl hr)
    have HR := Lib.hid (And.intro hBB (And.intro hff (And.intro hnn hWr)))
    have b0' := box0 hBB.1
    have b1' := box1 hBB.1
    have bl := box_lt hBB.1
    clear hpl hBB hff hnn hWr hr
    go_wp2_with fail
    refine (firstFold_any _ _ b m (w.heap.size + 1) w.heap.size r _ HR.out.2.1.1.rl HR.out.2.1.2.rl (boxK HR.out.1.2.1) HR.out.1.1 hm HP.out.1.1 HP.out.2).mono ?_
    rintro e w3 ⟨u1, u2, n1, k1, n2, k2, rfl, hns, hb3⟩
    have hbn := below_alloc w3 (.cells #[.slice u1 n1 k1, .slice u2 n2 k2] 26)
    have hbN := heap_alloc_new w3 (.cells #[.slice u1 n1 k1, .slice u2 n2 k2] 26)
    have hb33 := bt hb3 hbn
    have HR3 := Lib.hid (And.intro (And.intro (box_keep HR.out.1.1 hb33) (And.intro (box_keep HR.out.1.2.1 hb33) (box_keep HR.out.1.2.2 hb33))) (And.intro (And.intro (HR.out.2.1.1.keep hb33) (HR.out.2.1.2.keep hb33)) (And.intro HR.out.2.2.1 (bt HR.out.2.2.2 hb33))))
    have HN3 := Lib.hid (And.intro hbN (show ∀ c, r = some c → RL (w3.alloc (.cells #[.slice u1 n1 k1, .slice u2 n2 k2] 26)) (fun _ => True) (.slice u1 n1 k1) c.1 ∧ RL (w3.alloc (.cells #[.slice u1 n1 k1, .slice u2 n2 k2] 26)) (fun _ => True) (.slice u2 n2 k2) c.2 from fun c hc => ⟨((hns c hc).1.keep hbn).any, ((hns c hc).2.keep hbn).any⟩))
    have k0' := boxK (box_keep HR.out.1.2.1 hb3)
    have kl' := box_lt (box_keep HR.out.1.2.1 hb3)
    have c0 := box0 (box_keep HR.out.1.1 hb3)
    have c1' := box1 (box_keep HR.out.1.1 hb3)
    have cl := box_lt (box_keep HR.out.1.1 hb3)
    have cz := boxz (box_keep HR.out.1.1 hb3)
    have q0 := box0 (box_keep HR.out.1.2.2 hb3)
    have q1 := box1 (box_keep HR.out.1.2.2 hb3)
    have ql := box_lt (box_keep HR.out.1.2.2 hb3)
    have qz := boxz (box_keep HR.out.1.2.2 hb3)
    have HB3 := Lib.hid hb3
    clear hbn hbN hb33 hns hb3 b0' b1' bl
    cases r with
    | none =>
      have hk2 : isSo (none : Option Asn) = false := rfl
      rw [hk2]
      clear hk2
      have hres : absB m a = b := by rw [absB, ← HP.out.1.2.1, abs_stop HP.out.2]
      have HRES := Lib.hid hres
      have rr := box_two (.slice d1 b.1.length g1) (.slice d2 b.2.length g2) q0 q1
      have rr0 := cell_keep (below_alloc _ (.cells #[.slice u1 n1 k1, .slice u2 n2 k2] 26)) rr.1
      have rr1 := cell_keep (below_alloc _ (.cells #[.slice u1 n1 k1, .slice u2 n2 k2] 26)) rr.2
      have hR3 := box_keep HR.out.1.2.2 HB3.out
      have f1 := (((HR.out.2.1.1.keep HB3.out).set2 (x := .slice d1 b.1.length g1) (y := .slice d2 b.2.length g2) hR3 (by decide)).alloc (.cells #[.slice u1 n1 k1, .slice u2 n2 k2] 26))
      have f2 := (((HR.out.2.1.2.keep HB3.out).set2 (x := .slice d1 b.1.length g1) (y := .slice d2 b.2.length g2) hR3 (by decide)).alloc (.cells #[.slice u1 n1 k1, .slice u2 n2 k2] 26))
      have hbf := ba (((bt HR.out.2.2.2 HB3.out).setCell (p := ⟨w.heap.size + 1 + 1, 0, none⟩) (by show w.heap.size ≤ w.heap.size + 1 + 1; omega) (.slice d1 b.1.length g1)).setCell (p := ⟨w.heap.size + 1 + 1, 1, none⟩) (by show w.heap.size ≤ w.heap.size + 1 + 1; omega) (.slice d2 b.2.length g2)) (.cells #[.slice u1 n1 k1, .slice u2 n2 k2] 26)
      have HO := Lib.hid (And.intro (And.intro (And.intro f1 f2) HR.out.2.2.1) hbf)
      have HRR := Lib.hid (And.intro rr0 rr1)
      clear hres rr rr0 rr1 hR3 f1 f2 hbf
      go_wp2
      refine bodyPost_ret (v := .agg #[.slice d1 b.1.length g1, .slice d2 b.2.length g2]) (by simp [results, Try.results20, go_sem, HRR.out.1, HRR.out.2]) rfl ?_
      exact ⟨_, _, rfl, by rw [HRES.out]; exact HO.out.1, HO.out.2⟩
    | some c =>
      have hk2 : isSo (some c) = true := rfl
      rw [hk2]
      clear hk2
      have hfl := fold_len HP.out.2
      obtain ⟨i0, k0, _, _, htr⟩ := foldO_some HP.out.2
      have hvc : asnB c = true := (ent_valid (try_some htr).2).2
      have hcr := HN3.out.2 c rfl
      have HC := Lib.hid (And.intro hfl (And.intro hvc hcr))
      clear hfl htr hvc hcr
      go_wp2_with fail
      refine (tidyI_any _ _ c m _ HC.out.2.2.1 HC.out.2.2.2 hm HC.out.2.1).mono ?_
      rintro e w5 ⟨y1, y2, rfl, ⟨⟨hy1, hy2⟩, hz12⟩, hb5⟩
      obtain ⟨f1, h1, rfl⟩ := hy1.form
      obtain ⟨f2, h2, rfl⟩ := hy2.form
      obtain ⟨b', hb'⟩ : ∃ b', tidyB m c = b' := ⟨_, rfl⟩
      rw [hb'] at hy1 hy2 hz12 ⊢
      have HB := Lib.hid (And.intro (show asnB b' = true by rw [← hb']; exact tidyB_valid HC.out.2.1) (And.intro (show b'.2.length + 1 ≤ b.2.length by rw [← hb']; have := tidyB_len (m := m) (a := c); have := HC.out.1; omega) hb'))
      have hA5 := box_keep HR3.out.1.1 hb5
      have hle := HR3.out.2.2.2.size
      have H6 := Lib.hid (And.intro (And.intro (box_set1 (box_set0 hA5 (.slice f1 b'.1.length h1)) (.slice f2 b'.2.length h2)) (And.intro (box_other (box_other (box_keep HR3.out.1.2.1 hb5) ⟨w.heap.size, 0, none⟩ (.slice f1 b'.1.length h1) (by show ¬ w.heap.size + 1 = w.heap.size; omega)) ⟨w.heap.size, 1, none⟩ (.slice f2 b'.2.length h2) (by show ¬ w.heap.size + 1 = w.heap.size; omega)) (box_other (box_other (box_keep HR3.out.1.2.2 hb5) ⟨w.heap.size, 0, none⟩ (.slice f1 b'.1.length h1) (by show ¬ w.heap.size + 1 + 1 = w.heap.size; omega)) ⟨w.heap.size, 1, none⟩ (.slice f2 b'.2.length h2) (by show ¬ w.heap.size + 1 + 1 = w.heap.size; omega))))
        (And.intro (And.intro ((hy1.mono hle).set2 (x := .slice f1 b'.1.length h1) (y := .slice f2 b'.2.length h2) hA5 (by decide)) ((hy2.mono hle).set2 (x := .slice f1 b'.1.length h1) (y := .slice f2 b'.2.length h2) hA5 (by decide))) (And.intro hz12 (((bt HR3.out.2.2.2 hb5).setCell (p := ⟨w.heap.size, 0, none⟩) (Nat.le_refl _) (.slice f1 b'.1.length h1)).setCell (p := ⟨w.heap.size, 1, none⟩) (Nat.le_refl _) (.slice f2 b'.2.length h2)))))
      clear c0 c1' cl cz q0 q1 ql qz k0' kl'
      have c0 := box0 hA5
      have c1' := box1 hA5
      have cl := box_lt hA5
      have cz := boxz hA5
      clear hA5 hle hy1 hy2 hz12 hb5 hb'
      go_wp2
      go_roundg (gk - 1)
      case rel =>
        have hlt := HB.out.2.1
        have hq := HP.out.1.2.2
        have hgk : gk = (gk - 1) + 1 := by omega
        refine ⟨b', _, _, ⟨HB.out.1, ?_, by omega⟩, H6.out.1, H6.out.2.1, H6.out.2.2⟩
        rw [← HP.out.1.2.1, hgk, abs_step HP.out.2, HB.out.2.2]; rfl
      case measure =>
        have hlt := HB.out.2.1
        have hq := HP.out.1.2.2
        omega
end Go.Proofs.Ytdjfdopgjlbloaa
