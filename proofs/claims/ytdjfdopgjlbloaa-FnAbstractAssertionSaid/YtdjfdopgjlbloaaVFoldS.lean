/- Walk: spec.l14Fold. -/
import Derived.Test.YtdjfdopgjlbloaaVWoutX
import Derived.Test.YtdjfdopgjlbloaaVUses
import Derived.Test.YtdjfdopgjlbloaaVKnown
import Derived.Test.YtdjfdopgjlbloaaVReplI
import Derived.Test.YtdjfdopgjlbloaaVEnt2
import Derived.Test.YtdjfdopgjlbloaaVHeldD
import Derived.Deep.Cut
import Derived.Handy
set_option linter.unusedVariables false
set_option linter.unusedSimpArgs false
namespace Go.Proofs.Ytdjfdopgjlbloaa
open Go.RowKit

theorem rng_step {β : Type} {f : Nat → Option β} {k : Nat} (h : (List.range k).findSome? f = none) (h1 : f k = none) : (List.range (k + 1)).findSome? f = none := by
  rw [List.range_succ, List.findSome?_append, h, List.findSome?_cons, h1]; rfl
theorem rng_hit {β : Type} {f : Nat → Option β} {k n : Nat} {y : β} (hk : k < n) (h : (List.range k).findSome? f = none) (h1 : f k = some y) : (List.range n).findSome? f = some y := by
  induction n with
  | zero => omega
  | succ n ih =>
    rw [List.range_succ, List.findSome?_append]
    by_cases e : k = n
    · subst e; rw [h, List.findSome?_cons, h1]; rfl
    · rw [ih (by omega)]; rfl
theorem rng_none {β : Type} {f : Nat → Option β} {n : Nat} (h : ∀ k, f k = none) : (List.range n).findSome? f = none := by
  rw [List.findSome?_eq_none_iff]; exact fun x _ => h x
def rowO (m : Nat) (a : Asn) (i : Nat) : Option Asn := (List.range a.2.length).findSome? fun k => tryB m a i k
theorem foldO_eq (m : Nat) (a : Asn) : foldO m a = (List.range a.2.length).findSome? (rowO m a) := rfl
theorem row_skip {m : Nat} {a : Asn} {i : Nat} (h : (freeB m (gd a.2 i).2.2 && decide (usesN a.2 (gd a.2 i).2.2 = 2)) = false) : rowO m a i = none :=
  rng_none fun k => by rw [tryB, if_neg (by rw [h]; decide)]
theorem try_eq {m : Nat} {a : Asn} {i k : Nat} (h : (freeB m (gd a.2 i).2.2 && decide (usesN a.2 (gd a.2 i).2.2 = 2)) = true) : tryB m a i k = if i = k then none else if (gd a.2 k).2.1 = (gd a.2 i).2.2 then (if entB a (foldA a i k) = true then some (foldA a i k) else none) else none := by
  rw [tryB, if_pos h]
/-- What the region of the fold leaves. -/
def FoldBox (a : Asn) (i k : Nat) (w0 : World) (s : Value) (w : World) : Prop :=
  ∃ (bN : Nat) (d1 d2 : Option Addr) (g1 g2 : Nat), s = .pointer (some ⟨bN, 0, none⟩) ∧ w.heap[bN]? = some (.cells #[.slice d1 (foldA a i k).1.length g1, .slice d2 (foldA a i k).2.length g2] 26 (0, 0)) ∧ w0.heap.size ≤ bN ∧
    (RL w (fun k => w0.heap.size ≤ k) (.slice d1 (foldA a i k).1.length g1) (foldA a i k).1 ∧ RL w (fun k => w0.heap.size ≤ k) (.slice d2 (foldA a i k).2.length g2) (foldA a i k).2) ∧ Below w0.heap.size w0 w
theorem foldS_mk {a : Asn} {i k bN B0 : Nat} {A B : Int} {w0 w : World} {d1 d2 : Option Addr} {g1 g2 : Nat} {c1 c2 : Value} (hN : w.heap[bN]? = some (.cells #[c1, c2] 26 (0, 0)))
    (h1 : FE w B0 (.slice d1 a.1.length g1) a.1) (h2 : FE w B0 (.slice d2 ((2, A, B) :: withoutL a.2 i k).length g2) ((2, A, B) :: withoutL a.2 i k)) (hb : Below w0.heap.size w0 w) (hB : w0.heap.size ≤ B0) (hN2 : w0.heap.size ≤ bN) (eA : (gd a.2 i).2.1 = A) (eB : (gd a.2 k).2.2 = B) :
    FoldBox a i k w0 (.pointer (some ⟨bN, 0, none⟩)) ((w.setCell ⟨bN, 0, none⟩ (.slice d1 a.1.length g1)).setCell ⟨bN, 1, none⟩ (.slice d2 ((2, A, B) :: withoutL a.2 i k).length g2)) := by
  subst eA; subst eB
  refine ⟨bN, d1, d2, g1, g2, rfl, box_set1 (box_set0 hN _) _, hN2, ⟨?_, ?_⟩, (hb.setCell hN2 _).setCell hN2 _⟩
  · exact ((h1.set2 (x := .slice d1 a.1.length g1) (y := .slice d2 ((2, (gd a.2 i).2.1, (gd a.2 k).2.2) :: withoutL a.2 i k).length g2) hN (by decide)).rl).more fun k _ h => Nat.le_trans hB h
  · exact ((h2.set2 (x := .slice d1 a.1.length g1) (y := .slice d2 ((2, (gd a.2 i).2.1, (gd a.2 k).2.2) :: withoutL a.2 i k).length g2) hN (by decide)).rl).more fun k _ h => Nat.le_trans hB h
theorem foldS_mk2 {a : Asn} {i k B0 : Nat} {A B : Int} {w0 w : World} {d1 d2 : Option Addr} {g1 g2 : Nat}
    (h1 : FE w B0 (.slice d1 a.1.length g1) a.1) (h2 : FE w B0 (.slice d2 ((2, A, B) :: withoutL a.2 i k).length g2) ((2, A, B) :: withoutL a.2 i k)) (hb : Below w0.heap.size w0 w) (hB : w0.heap.size ≤ B0) (eA : (gd a.2 i).2.1 = A) (eB : (gd a.2 k).2.2 = B) :
    FoldBox a i k w0 (.pointer (some ⟨w.heap.size, 0, none⟩)) (w.alloc (.cells #[.slice d1 a.1.length g1, .slice d2 ((2, A, B) :: withoutL a.2 i k).length g2] 26)) := by
  subst eA; subst eB
  exact ⟨w.heap.size, d1, d2, g1, g2, rfl, heap_alloc_new _ _, hb.size, ⟨(h1.alloc _).rl.more fun k _ h => Nat.le_trans hB h, (h2.alloc _).rl.more fun k _ h => Nat.le_trans hB h⟩, ba hb _⟩
set_option maxRecDepth 100000 in
set_option maxHeartbeats 6400000 in
theorem l14Fold_any {S1 S2 : Nat → Prop} (v1 v2 bv : Value) (a : Asn) (m B0 : Nat) (r : Option Asn) (w : World) (h1 : RL w S1 v1 a.1) (h2 : RL w S2 v2 a.2) (ho : w.ownsRow B0 4 1 bv 9 (flagsOf m)) (ha : asnB a = true) (hr : foldO m a = r) :
    Calls Try.prog 56 #[.agg #[v1, v2], bv] w fun e w' => ∃ (d1 d2 : Option Addr) (n1 g1 n2 g2 : Nat), e = .returned (.tuple #[.agg #[.slice d1 n1 g1, .slice d2 n2 g2], .bool (isSo r)]) ∧ (∀ b, r = some b → RL w' (fun k => w.heap.size ≤ k) (.slice d1 n1 g1) b.1 ∧ RL w' (fun k => w.heap.size ≤ k) (.slice d2 n2 g2) b.2) ∧ Below w.heap.size w w' := by
  obtain ⟨p1, c1, rfl⟩ := h1.form
  obtain ⟨p2, c2, rfl⟩ := h2.form
  obtain ⟨g, cap, rfl⟩ := flags_form ho
  have hlb := asnLe ha
  have hl2 : (a.2.length : Int) ≤ 8 := by omega
  have hs1 : a.1.length ≤ 1048576 := by omega
  have hs2 : a.2.length ≤ 1048576 := by omega
  have hbA := box_keep (heap_alloc_new w (.cells #[.slice p1 a.1.length c1, .slice p2 a.2.length c2] 26)) (below_alloc _ (.cells #[.slice none 0 0, .slice none 0 0] 26))
  have hbR := heap_alloc_new (w.alloc (.cells #[.slice p1 a.1.length c1, .slice p2 a.2.length c2] 26)) (.cells #[.slice none 0 0, .slice none 0 0] 26)
  rw [World.size_alloc] at hbR
  have hB0 : Below w.heap.size w ((w.alloc (.cells #[.slice p1 a.1.length c1, .slice p2 a.2.length c2] 26)).alloc (.cells #[.slice none 0 0, .slice none 0 0] 26)) := Bl
  have H0 := Lib.hid (And.intro (And.intro hbA hbR) hB0)
  have HA := Lib.hid (And.intro ha (And.intro hr (And.intro h1 (And.intro h2 ho))))
  clear hbA hbR hB0 hlb ha hr h1 h2 ho
  go_enter Try.func56, Try.ntmps56
  go_wp2
  go_loopg [6] a.2.length (fun q i wr => ∃ i' : Nat, i' + q = a.2.length ∧ i = .int .i64 i' ∧ (List.range i').findSome? (rowO m a) = none ∧ (wr.heap[w.heap.size]? = some (.cells #[.slice p1 a.1.length c1, .slice p2 a.2.length c2] 26 (0, 0)) ∧ wr.heap[w.heap.size + 1]? = some (.cells #[.slice none 0 0, .slice none 0 0] 26 (0, 0))) ∧ Below w.heap.size w wr)
  case atStart => exact ⟨0, by omega, rfl, rfl, H0.out.1, H0.out.2⟩
  case round =>
    clear H0
    obtain ⟨i, hi, rfl, hf, hBB, hW⟩ := hrel
    have HI := Lib.hid (And.intro hi hf)
    have HR := Lib.hid (And.intro hBB hW)
    have b0 := box0 hBB.1
    have b1 := box1 hBB.1
    have bl := box_lt hBB.1
    clear hi hf hBB hW
    by_cases hi8 : i < a.2.length
    · have hii : (i : Int) < (a.2.length : Int) := by omega
      obtain ⟨qa, qc, hqe, _, _, hqf⟩ := (HA.out.2.2.2.1.keep HR.out.2).atomAt
      simp only [Value.slice.injEq] at hqe
      obtain ⟨rfl, _, rfl⟩ := hqe
      obtain ⟨bb, oo, rfl, _, hz1, hi1, hi2, hi3⟩ := hqf i hi8
      have hvx := atomB_le' ((asn_parts HA.out.1).2 _ (gd_mem hi8))
      obtain ⟨T, hT⟩ := Int.eq_ofNat_of_zero_le hvx.2.2.1
      obtain ⟨A, hA⟩ : ∃ A, (gd a.2 i).2.1 = A := ⟨_, rfl⟩
      rw [hT] at hi3
      rw [hA] at hi2
      have t8 : T ≤ 8 := by omega
      have t9 : (T : Int) < 9 := by omega
      obtain ⟨tb, htb, y2⟩ : ∃ c, m.testBit T = c ∧ wr.cell? ⟨g, T, none⟩ = some (.bool c) := ⟨_, rfl, by have := (own_keep HA.out.2.2.2.2 HR.out.2).cellAt T (by omega); rw [flags_at m T (by omega)] at this; exact this⟩
      have yz := World.block_lt_of_cell? wr _ y2
      simp only at yz
      obtain ⟨u, hu⟩ : ∃ u : Nat, usesN a.2 (T : Int) = u := ⟨_, rfl⟩
      have HX := Lib.hid (And.intro (And.intro hT hA) (And.intro t8 (And.intro htb hu)))
      have hfree := free_nat (m := m) t8
      rw [htb] at hfree
      have skip : (freeB m (T : Int) && decide (u = 2)) = false → (List.range (i + 1)).findSome? (rowO m a) = none := fun e => rng_step HI.out.2 (row_skip (by rw [hT, hu]; exact e))
      have HK := Lib.hid (And.intro hfree skip)
      have hqfi := fun k hk => hqf k hk
      have HQF := Lib.hid hqfi
      clear hqf hqfi hvx hT hA t8 htb hu hfree skip hi1
      by_cases h4 : (T : Int) ≤ 4
      · have HS := Lib.hid (HK.out.2 (by rw [HK.out.1, decide_eq_false (by omega : ¬ 4 < (T : Int))]; rfl))
        go_wp2
        go_roundg (gk - 1)
        case rel => exact ⟨i + 1, by have := HI.out.1; omega, by go_num, HS.out, HR.out⟩
        case measure => have := HI.out.1; omega
      · cases tb with
        | true =>
          have HS := Lib.hid (HK.out.2 (by rw [HK.out.1]; simp))
          go_wp2
          go_roundg (gk - 1)
          case rel => exact ⟨i + 1, by have := HI.out.1; omega, by go_num, HS.out, HR.out⟩
          case measure => have := HI.out.1; omega
        | false =>
          have HF := Lib.hid (show freeB m (T : Int) = true by rw [HK.out.1, decide_eq_true (by omega : 4 < (T : Int))]; rfl)
          go_wp2_with fail
          refine (l14Uses_any _ _ a (T : Int) _ (HA.out.2.2.1.keep HR.out.2) (HA.out.2.2.2.1.keep HR.out.2) hl2).mono ?_
          rw [HX.out.2.2.2]
          rintro e w3 ⟨rfl, hb3⟩
          have HR3 := Lib.hid (And.intro (And.intro (box_keep HR.out.1.1 hb3) (box_keep HR.out.1.2 hb3)) (bt HR.out.2 hb3))
          have HC3 := Lib.hid (And.intro (cell_keep hb3 hi2) (cell_keep hb3 hi3))
          clear b0 b1 bl hi2 hi3 y2 yz hz1
          have b0 := box0 HR3.out.1.1
          have b1 := box1 HR3.out.1.1
          have bl := box_lt HR3.out.1.1
          cases hu2 : ((u : Int) != 2) with
          | true =>
            have HS := Lib.hid (HK.out.2 (by rw [decide_eq_false (by simp at hu2; omega : ¬ u = 2)]; simp))
            clear hb3
            go_wp2
            go_roundg (gk - 1)
            case rel => exact ⟨i + 1, by have := HI.out.1; omega, by go_num, HS.out, HR3.out⟩
            case measure => have := HI.out.1; omega
          | false =>
            have HY := Lib.hid (show (freeB m (gd a.2 i).2.2 && decide (usesN a.2 (gd a.2 i).2.2 = 2)) = true by rw [HX.out.1.1, HX.out.2.2.2, HF.out, decide_eq_true (by simp at hu2; omega : u = 2)]; rfl)
            obtain ⟨gO, hgO⟩ : ∃ gO, gO = gk := ⟨_, rfl⟩
            have HGO := Lib.hid hgO
            clear hb3 hgO
            go_wp2
            clear b0 b1 bl hu2
            go_loopg [8] a.2.length (fun q k wr => ∃ k' : Nat, k' + q = a.2.length ∧ k = .int .i64 k' ∧ (List.range k').findSome? (fun k => tryB m a i k) = none ∧ (wr.heap[w.heap.size]? = some (.cells #[.slice p1 a.1.length c1, .slice (some ⟨bb, oo, none⟩) a.2.length c2] 26 (0, 0)) ∧ wr.heap[w.heap.size + 1]? = some (.cells #[.slice none 0 0, .slice none 0 0] 26 (0, 0))) ∧ Below w3.heap.size w3 wr)
            case atStart => exact ⟨0, by omega, rfl, rfl, HR3.out.1, Below.refl _ _⟩
            case round =>
              obtain ⟨k, hk, rfl, hf, hBB, hW⟩ := hrel
              have HJ := Lib.hid (And.intro hk hf)
              have HR4 := Lib.hid (And.intro hBB hW)
              have b0 := box0 hBB.1
              have b1 := box1 hBB.1
              have bl := box_lt hBB.1
              have hi2 := cell_keep hW HC3.out.1
              have hi3 := cell_keep hW HC3.out.2
              have HW := Lib.hid hW
              clear hk hf hBB hW
              by_cases hk8 : k < a.2.length
              · have hki : (k : Int) < (a.2.length : Int) := by omega
                obtain ⟨qa, qc, hqe, _, _, hqf⟩ := (HA.out.2.2.2.1.keep (bt HR3.out.2 HW.out)).atomAt
                simp only [Value.slice.injEq] at hqe
                obtain ⟨he1, _, rfl⟩ := hqe
                subst he1
                obtain ⟨bb', oo', he, _, hz1, hk1, hk2, hk3⟩ := hqf k hk8
                obtain ⟨rfl, rfl⟩ : bb = bb' ∧ oo = oo' := by injection he with he; injection he with h1 h2; exact ⟨h1, h2⟩
                obtain ⟨C, hC⟩ : ∃ C, (gd a.2 k).2.1 = C := ⟨_, rfl⟩
                obtain ⟨B, hB⟩ : ∃ B, (gd a.2 k).2.2 = B := ⟨_, rfl⟩
                rw [hC] at hk2
                rw [hB] at hk3
                have hC2 := hC
                have hB2 := hB
                have HC := Lib.hid (And.intro hC2 hB2)
                have htry := try_eq (k := k) HY.out
                rw [HX.out.1.1, hC] at htry
                have HT := Lib.hid htry
                clear hqf he hC hB hC2 hB2 htry hk1
                cases e1 : ((k : Int) == (i : Int)) with
                | true =>
                  have HS := Lib.hid (rng_step HJ.out.2 (f := fun k => tryB m a i k) (k := k) (by rw [HT.out, if_pos (by simp at e1; omega)]))
                  go_wp2
                  go_roundg (gk - 1)
                  case rel => exact ⟨k + 1, by have := HJ.out.1; omega, by go_num, HS.out, HR4.out⟩
                  case measure => have := HJ.out.1; omega
                | false =>
                  have hne : ¬ i = k := by simp at e1; omega
                  have HNE := Lib.hid hne
                  clear hne
                  cases e2 : (C != (T : Int)) with
                  | true =>
                    have HS := Lib.hid (rng_step HJ.out.2 (f := fun k => tryB m a i k) (k := k) (by rw [HT.out, if_neg HNE.out, if_neg (by simpa using e2)]))
                    go_wp2
                    go_roundg (gk - 1)
                    case rel => exact ⟨k + 1, by have := HJ.out.1; omega, by go_num, HS.out, HR4.out⟩
                    case measure => have := HJ.out.1; omega
                  | false =>
                    have HE := Lib.hid (show C = (T : Int) by simpa using e2)
                    obtain ⟨t, ht⟩ : ∃ t, entB a (foldA a i k) = t := ⟨_, rfl⟩
                    have HT2 := Lib.hid ht
                    clear ht
                    go_upto_region 10 with fail
                    have HS := Lib.hid (And.intro (cell_keep (below_drew wr) b0) (And.intro (cell_keep (below_drew wr) b1) (And.intro (cell_keep (below_drew wr) hi2) (cell_keep (below_drew wr) hk3))))
                    have hbw := bt HR3.out.2 HW.out
                    have HQ := Lib.hid (And.intro (HA.out.2.2.1.keep (bt hbw (below_drew wr))) (And.intro (HA.out.2.2.2.1.keep (bt hbw (below_drew wr))) hbw))
                    clear b0 b1 hi2 hi3 hk2 hk3 e1 e2 hbw
                    go_cut [9] from 57 to 77 (fun s wc => FoldBox a i k wr s wc)
                    case first =>
                      refine wp_region_late (S := (fun w' => w'.cell? ⟨w.heap.size, 0, none⟩ = some (.slice p1 a.1.length c1) ∧ (w'.cell? ⟨w.heap.size, 1, none⟩ = some (.slice (some ⟨bb, oo, none⟩) a.2.length c2) ∧ (w'.cell? ⟨bb, oo + i * 3 + 1, none⟩ = some (.int .i64 A) ∧ w'.cell? ⟨bb, oo + k * 3 + 2, none⟩ = some (.int .i64 B))))) (dep := [18]) (by kernel_rfl) HS.out (fun hHeld => ?_)
                      refine wpAnyD_free (i := 1) (oi := _) (v := ?_) rfl (by kernel_rfl) (by kernel_rfl) (by kernel_rfl) (by kernel_rfl) (fun _ _ _ h => h) (Or.inl ⟨by rfl, ?_⟩) hHeld (fun hHeld => ?_)
                      rotate_left
                      · (intro w _; first | (go_simp; done) | (go_simp; with_reducible rfl))
                      try simp only [Act.put, List.setIfInBounds_toArray, List.set_cons_zero, List.set_cons_succ]
                      refine wpAnyD_free (i := 2) (oi := _) (v := ?_) rfl (by kernel_rfl) (by kernel_rfl) (by kernel_rfl) (by kernel_rfl) (fun _ _ _ h => h) (Or.inl ⟨by rfl, ?_⟩) hHeld (fun hHeld => ?_)
                      rotate_left
                      · (intro w _; first | (go_simp; done) | (go_simp; with_reducible rfl))
                      try simp only [Act.put, List.setIfInBounds_toArray, List.set_cons_zero, List.set_cons_succ]
                      refine wpAnyD_free (i := 3) (oi := _) (v := ?_) rfl (by kernel_rfl) (by kernel_rfl) (by kernel_rfl) (by kernel_rfl) (fun _ _ _ h => h) (Or.inl ⟨by rfl, ?_⟩) hHeld (fun hHeld => ?_)
                      rotate_left
                      · (intro w _; first | (go_simp; done) | (go_simp; with_reducible rfl))
                      try simp only [Act.put, List.setIfInBounds_toArray, List.set_cons_zero, List.set_cons_succ]
                      refine wpAnyD_free (i := 5) (oi := _) (v := ?_) rfl (by kernel_rfl) (by kernel_rfl) (by kernel_rfl) (by kernel_rfl) (fun _ _ _ h => h) (Or.inl ⟨by rfl, ?_⟩) hHeld (fun hHeld => ?_)
                      rotate_left
                      · (intro w _; first | (go_simp; done) | (go_simp; with_reducible rfl))
                      try simp only [Act.put, List.setIfInBounds_toArray, List.set_cons_zero, List.set_cons_succ]
                      refine wpAnyD_free (i := 9) (oi := _) (v := ?_) rfl (by kernel_rfl) (by kernel_rfl) (by kernel_rfl) (by kernel_rfl) (fun _ _ _ h => h) (Or.inl ⟨by rfl, ?_⟩) hHeld (fun hHeld => ?_)
                      rotate_left
                      · (intro w _; first | (go_simp; done) | (go_simp; with_reducible rfl))
                      try simp only [Act.put, List.setIfInBounds_toArray, List.set_cons_zero, List.set_cons_succ]
                      refine wpAnyD_free (i := 11) (oi := _) (v := ?_) rfl (by kernel_rfl) (by kernel_rfl) (by kernel_rfl) (by kernel_rfl) (fun _ _ _ h => h) (Or.inl ⟨by rfl, ?_⟩) hHeld (fun hHeld => ?_)
                      rotate_left
                      · (intro w _; first | (go_simp; done) | (go_simp; with_reducible rfl))
                      try simp only [Act.put, List.setIfInBounds_toArray, List.set_cons_zero, List.set_cons_succ]
                      refine wpAnyD_take (i := 0) (oi := _) (v := ?_) rfl (by kernel_rfl) (by kernel_rfl) (by kernel_rfl) (by kernel_rfl) (by kernel_rfl) (fun _ _ _ h => h) (Or.inl ⟨by rfl, ?_⟩) (hHeld (early_of (by kernel_rfl))) ?_
                      rotate_left
                      · (intro w hSw; obtain ⟨hS0, hS1, hS2, hS3⟩ := hSw; first | (go_simp; done) | (go_simp; with_reducible rfl))
                      try simp only [Act.put, List.setIfInBounds_toArray, List.set_cons_zero, List.set_cons_succ]
                      replace hHeld := fun (he : Early _ _) => hHeld (Early.of_set (i := 0) he (by decide))
                      refine wpAnyD_take (i := 4) (oi := _) (v := ?_) rfl (by kernel_rfl) (by kernel_rfl) (by kernel_rfl) (by kernel_rfl) (by kernel_rfl) (fun _ _ _ h => h) (Or.inl ⟨by rfl, ?_⟩) (hHeld (early_of (by kernel_rfl))) ?_
                      rotate_left
                      · (intro w hSw; obtain ⟨hS0, hS1, hS2, hS3⟩ := hSw; first | (go_simp; done) | (go_simp; with_reducible rfl))
                      try simp only [Act.put, List.setIfInBounds_toArray, List.set_cons_zero, List.set_cons_succ]
                      replace hHeld := fun (he : Early _ _) => hHeld (Early.of_set (i := 4) he (by decide))
                      refine wpAnyD_free (i := 6) (oi := _) (v := ?_) rfl (by kernel_rfl) (by kernel_rfl) (by kernel_rfl) (by kernel_rfl) (fun _ _ _ h => h) (Or.inl ⟨by rfl, ?_⟩) hHeld (fun hHeld => ?_)
                      rotate_left
                      · (intro w _; first | (go_simp; done) | (go_simp; with_reducible rfl))
                      try simp only [Act.put, List.setIfInBounds_toArray, List.set_cons_zero, List.set_cons_succ]
                      refine wpAnyD_free (i := 7) (oi := _) (v := ?_) rfl (by kernel_rfl) (by kernel_rfl) (by kernel_rfl) (by kernel_rfl) (fun _ _ _ h => h) (Or.inl ⟨by rfl, ?_⟩) hHeld (fun hHeld => ?_)
                      rotate_left
                      · (intro w _; first | (go_simp; done) | (go_simp; with_reducible rfl))
                      try simp only [Act.put, List.setIfInBounds_toArray, List.set_cons_zero, List.set_cons_succ]
                      refine wpAnyD_take (i := 8) (oi := _) (v := ?_) rfl (by kernel_rfl) (by kernel_rfl) (by kernel_rfl) (by kernel_rfl) (by kernel_rfl) (fun _ _ _ h => h) (Or.inl ⟨by rfl, ?_⟩) (hHeld (early_of (by kernel_rfl))) ?_
                      rotate_left
                      · (intro w hSw; obtain ⟨hS0, hS1, hS2, hS3⟩ := hSw; first | (go_simp; done) | (go_simp; with_reducible rfl))
                      try simp only [Act.put, List.setIfInBounds_toArray, List.set_cons_zero, List.set_cons_succ]
                      replace hHeld := fun (he : Early _ _) => hHeld (Early.of_set (i := 8) he (by decide))
                      refine wpAnyD_take (i := 10) (oi := _) (v := ?_) rfl (by kernel_rfl) (by kernel_rfl) (by kernel_rfl) (by kernel_rfl) (by kernel_rfl) (fun _ _ _ h => h) (Or.inl ⟨by rfl, ?_⟩) (hHeld (early_of (by kernel_rfl))) ?_
                      rotate_left
                      · (intro w hSw; obtain ⟨hS0, hS1, hS2, hS3⟩ := hSw; first | (go_simp; done) | (go_simp; with_reducible rfl))
                      try simp only [Act.put, List.setIfInBounds_toArray, List.set_cons_zero, List.set_cons_succ]
                      replace hHeld := fun (he : Early _ _) => hHeld (Early.of_set (i := 10) he (by decide))
                      refine wpAnyD_free (i := 12) (oi := _) (v := ?_) rfl (by kernel_rfl) (by kernel_rfl) (by kernel_rfl) (by kernel_rfl) (fun _ _ _ h => h) (Or.inl ⟨by rfl, ?_⟩) hHeld (fun hHeld => ?_)
                      rotate_left
                      · (intro w _; first | (go_simp; done) | (go_simp; with_reducible rfl))
                      try simp only [Act.put, List.setIfInBounds_toArray, List.set_cons_zero, List.set_cons_succ]
                      refine wpAnyD_free (i := 13) (oi := _) (v := ?_) rfl (by kernel_rfl) (by kernel_rfl) (by kernel_rfl) (by kernel_rfl) (fun _ _ _ h => h) (Or.inl ⟨by rfl, ?_⟩) hHeld (fun hHeld => ?_)
                      rotate_left
                      · (intro w _; first | (go_simp; done) | (go_simp; with_reducible rfl))
                      try simp only [Act.put, List.setIfInBounds_toArray, List.set_cons_zero, List.set_cons_succ]
                      refine wpAnyD_take (i := 14) (oi := _) (v := ?_) rfl (by kernel_rfl) (by kernel_rfl) (by kernel_rfl) (by kernel_rfl) (by kernel_rfl) (fun _ _ _ h => h) (Or.inl ⟨by rfl, ?_⟩) (hHeld (early_of (by kernel_rfl))) ?_
                      rotate_left
                      · (intro w hSw; obtain ⟨hS0, hS1, hS2, hS3⟩ := hSw; first | (go_simp; done) | (go_simp; with_reducible rfl))
                      try simp only [Act.put, List.setIfInBounds_toArray, List.set_cons_zero, List.set_cons_succ]
                      replace hHeld := fun (he : Early _ _) => hHeld (Early.of_set (i := 14) he (by decide))
                      refine wpAnyD_free (i := 15) (oi := _) (v := ?_) rfl (by kernel_rfl) (by kernel_rfl) (by kernel_rfl) (by kernel_rfl) (fun _ _ _ h => h) (Or.inl ⟨by rfl, ?_⟩) hHeld (fun hHeld => ?_)
                      rotate_left
                      · (intro w _; first | (go_simp; done) | (go_simp; with_reducible rfl))
                      try simp only [Act.put, List.setIfInBounds_toArray, List.set_cons_zero, List.set_cons_succ]
                      refine wpAnyD_ready (rs := [16, 17]) (by kernel_rfl) (by simp) ?_
                      refine (AllReadyD.cons (o := _) rfl (fun K hK => ?_) (AllReadyD.cons (o := _) rfl (fun K hK => ?_) AllReadyD.nil))
                      · clear hHeld
                        go_simp
                        (go_at_call 83; refine (l6WithoutX_any _ _ a i k 2 A B _ (HQ.out.1) (HQ.out.2.1) hs1 hs2).mono ?_; rintro e w5 ⟨x1, x2, rfl, ⟨hx1, hx2⟩, hb5⟩; obtain ⟨d1, g1, rfl⟩ := hx1.form; obtain ⟨d2, g2, rfl⟩ := hx2.form)
                        have hbb := hb5
                        go_wp2_with fail
                        refine hK.out _ _ ?_ (fun hHeld => ?_)
                        · exact fun _ => ⟨cell_keep hbb HS.out.1, cell_keep hbb HS.out.2.1, cell_keep hbb HS.out.2.2.1, cell_keep hbb HS.out.2.2.2⟩
                        clear hK K
                        try simp only [Act.put, List.setIfInBounds_toArray, List.set_cons_zero, List.set_cons_succ]
                        refine wpAnyD_ready (rs := [17]) (by kernel_rfl) (by simp) ?_
                        refine (AllReadyD.cons (o := _) rfl (fun K hK => ?_) AllReadyD.nil)
                        clear hHeld
                        go_simp
                        refine hK.out _ _ ?_ (fun hHeld => ?_)
                        · exact fun _ => ⟨cell_keep (ba hbb _) HS.out.1, cell_keep (ba hbb _) HS.out.2.1, cell_keep (ba hbb _) HS.out.2.2.1, cell_keep (ba hbb _) HS.out.2.2.2⟩
                        clear hK K
                        try simp only [Act.put, List.setIfInBounds_toArray, List.set_cons_zero, List.set_cons_succ]
                        have hN := heap_alloc_new w5 (.cells #[.slice none 0 0, .slice none 0 0] 26)
                        replace hbb := ba hbb (.cells #[.slice none 0 0, .slice none 0 0] 26)
                        refine wpAnyD_ready (rs := [18]) (by kernel_rfl) (by simp) ?_
                        refine (AllReadyD.cons (o := _) rfl (fun K hK => ?_) AllReadyD.nil)
                        clear hHeld
                        have nb0 := box0 hN
                        have nb1 := box1 hN
                        have nbz := boxz hN
                        have nbl := box_lt hN
                        go_simp
                        refine hK.out _ _ ?_ (fun hHeld => ?_)
                        · exact late_none (by kernel_rfl)
                        clear hK K
                        try simp only [Act.put, List.setIfInBounds_toArray, List.set_cons_zero, List.set_cons_succ]
                        refine wpAnyD_done (by kernel_rfl) ?_ _
                        clear hHeld
                        go_wp2
                        go_meet
                        case rel => exact foldS_mk2 hx1 hx2 (bt (below_drew wr) hb5) (by simp) HX.out.1.2 HC.out.2
                      · clear hHeld
                        go_simp
                        refine hK.out _ _ ?_ (fun hHeld => ?_)
                        · exact fun _ => ⟨cell_keep (below_alloc _ _) HS.out.1, cell_keep (below_alloc _ _) HS.out.2.1, cell_keep (below_alloc _ _) HS.out.2.2.1, cell_keep (below_alloc _ _) HS.out.2.2.2⟩
                        clear hK K
                        try simp only [Act.put, List.setIfInBounds_toArray, List.set_cons_zero, List.set_cons_succ]
                        refine wpAnyD_ready (rs := [16]) (by kernel_rfl) (by simp) ?_
                        refine (AllReadyD.cons (o := _) rfl (fun K hK => ?_) AllReadyD.nil)
                        clear hHeld
                        go_simp
                        (go_at_call 83; refine (l6WithoutX_any _ _ a i k 2 A B _ (HQ.out.1.keep (below_alloc _ (.cells #[.slice none 0 0, .slice none 0 0] 26))) (HQ.out.2.1.keep (below_alloc _ (.cells #[.slice none 0 0, .slice none 0 0] 26))) hs1 hs2).mono ?_; rintro e w5 ⟨x1, x2, rfl, ⟨hx1, hx2⟩, hb5⟩; obtain ⟨d1, g1, rfl⟩ := hx1.form; obtain ⟨d2, g2, rfl⟩ := hx2.form)
                        have hbb := bt (below_alloc _ (.cells #[.slice none 0 0, .slice none 0 0] 26)) hb5
                        have hN := box_keep (heap_alloc_new wr.drew (.cells #[.slice none 0 0, .slice none 0 0] 26)) hb5
                        simp only [World.size_drew] at hN
                        go_wp2_with fail
                        refine hK.out _ _ ?_ (fun hHeld => ?_)
                        · exact fun _ => ⟨cell_keep hbb HS.out.1, cell_keep hbb HS.out.2.1, cell_keep hbb HS.out.2.2.1, cell_keep hbb HS.out.2.2.2⟩
                        clear hK K
                        try simp only [Act.put, List.setIfInBounds_toArray, List.set_cons_zero, List.set_cons_succ]
                        refine wpAnyD_ready (rs := [18]) (by kernel_rfl) (by simp) ?_
                        refine (AllReadyD.cons (o := _) rfl (fun K hK => ?_) AllReadyD.nil)
                        clear hHeld
                        have nb0 := box0 hN
                        have nb1 := box1 hN
                        have nbz := boxz hN
                        have nbl := box_lt hN
                        go_simp
                        refine hK.out _ _ ?_ (fun hHeld => ?_)
                        · exact late_none (by kernel_rfl)
                        clear hK K
                        try simp only [Act.put, List.setIfInBounds_toArray, List.set_cons_zero, List.set_cons_succ]
                        refine wpAnyD_done (by kernel_rfl) ?_ _
                        clear hHeld
                        go_wp2
                        go_meet
                        case rel => exact foldS_mk hN hx1 hx2 (bt (below_drew wr) hbb) (by simp) (Nat.le_refl _) HX.out.1.2 HC.out.2
                    case rest =>
                      obtain ⟨bN, d1, d2, g1, g2, rfl, hN, hNl, hrl, hbc⟩ := hcut
                      have HN := Lib.hid (And.intro (And.intro hN hNl) hrl)
                      have HR5 := Lib.hid (And.intro (And.intro (box_keep HR4.out.1.1 hbc) (box_keep HR4.out.1.2 hbc)) (bt HW.out hbc))
                      have b0 := box0 HR5.out.1.1
                      have b1 := box1 HR5.out.1.1
                      have bl := box_lt HR5.out.1.1
                      have n0 := box0 hN
                      have n1 := box1 hN
                      have nl := box_lt hN
                      clear hN hNl hrl hbc HS HQ
                      have hw5 := bt HR3.out.2 HR5.out.2
                      have HW5 := Lib.hid hw5
                      clear hw5
                      go_wp2_with fail
                      refine (cb (entailsS_any _ _ _ _ a (foldA a i k) _ (HA.out.2.2.1.keep HW5.out) (HA.out.2.2.2.1.keep HW5.out) HN.out.2.1 HN.out.2.2) HT2.out).mono ?_
                      rintro e w7 ⟨rfl, hb7⟩
                      clear b0 b1 bl n0 n1 nl
                      cases t with
                      | false =>
                        have HS := Lib.hid (rng_step HJ.out.2 (f := fun k => tryB m a i k) (k := k) (by rw [HT.out, if_neg HNE.out, if_pos HE.out, if_neg (by rw [HT2.out]; decide)]))
                        have HR7 := Lib.hid (And.intro (And.intro (box_keep HR5.out.1.1 hb7) (box_keep HR5.out.1.2 hb7)) (bt HR5.out.2 hb7))
                        clear hb7
                        go_wp2
                        go_roundg (gk - 1)
                        case rel => exact ⟨k + 1, by have := HJ.out.1; omega, by go_num, HS.out, HR7.out⟩
                        case measure => have := HJ.out.1; omega
                      | true =>
                        have hhit : r = some (foldA a i k) := by
                          rw [← HA.out.2.1, foldO_eq]
                          exact rng_hit hi8 HI.out.2 (rng_hit hk8 HJ.out.2 (by rw [HT.out, if_neg HNE.out, if_pos HE.out, if_pos HT2.out]))
                        have HH := Lib.hid hhit
                        have hN7 := box_keep HN.out.1.1 hb7
                        have n0 := box0 hN7
                        have n1 := box1 hN7
                        have nl := box_lt hN7
                        have hR7 := box_keep HR5.out.1.2 hb7
                        have r0 := box0 hR7
                        have r1 := box1 hR7
                        have rz := boxz hR7
                        have rl := box_lt hR7
                        have rr := box_two (.slice d1 (foldA a i k).1.length g1) (.slice d2 (foldA a i k).2.length g2) r0 r1
                        have hs6 := fr_twoR w7 (w.heap.size + 1) (.slice d1 (foldA a i k).1.length g1) (.slice d2 (foldA a i k).2.length g2)
                        have hlo := box_lt HR4.out.1.2
                        have far : ∀ k, k < w7.heap.size → (fun k => wr.heap.size ≤ k) k → ¬ (fun j => j = w.heap.size + 1) k := fun k _ h e => by
                          have h2 : wr.heap.size ≤ k := h
                          have e2 : k = w.heap.size + 1 := e
                          omega
                        have HO := Lib.hid (And.intro (And.intro (((HN.out.2.1.keep hb7).kept hs6 far).more fun k _ h => (show w.heap.size ≤ k from Nat.le_trans (by omega) h)) (((HN.out.2.2.keep hb7).kept hs6 far).more fun k _ h => (show w.heap.size ≤ k from Nat.le_trans (by omega) h))) (((bt HW5.out hb7).setCell (p := ⟨w.heap.size + 1, 0, none⟩) (by simp) (.slice d1 (foldA a i k).1.length g1)).setCell (p := ⟨w.heap.size + 1, 1, none⟩) (by simp) (.slice d2 (foldA a i k).2.length g2)))
                        clear hhit hN7 hR7 hs6 hlo far hb7
                        go_wp2
                        refine bodyPost_ret (v := .tuple #[.agg #[.slice d1 (foldA a i k).1.length g1, .slice d2 (foldA a i k).2.length g2], .bool true]) (by simp [results, Try.results56, go_sem, rr.1, rr.2]) rfl ?_
                        exact ⟨_, _, _, _, _, _, by rw [HH.out]; rfl, fun b hb => by obtain rfl := Option.some.inj (HH.out.symm.trans hb); exact HO.out.1, HO.out.2⟩
              · obtain rfl : k = a.2.length := by have := HJ.out.1; omega
                have HS := Lib.hid (rng_step HI.out.2 (f := rowO m a) (k := i) HJ.out.2)
                have HWW := Lib.hid (bt HR3.out.2 HW.out)
                go_wp2
                go_roundg (gO - 1)
                case rel => exact ⟨i + 1, by have := HI.out.1; have := HGO.out; omega, by go_num, HS.out, HR4.out.1, HWW.out⟩
                case measure => have := HI.out.1; have := HGO.out; omega
    · obtain rfl : i = a.2.length := by have := HI.out.1; omega
      have HH := Lib.hid (show r = none by rw [← HA.out.2.1, foldO_eq]; exact HI.out.2)
      have r0 := box0 HR.out.1.2
      have r1 := box1 HR.out.1.2
      have rz := boxz HR.out.1.2
      have rl := box_lt HR.out.1.2
      have rr := box_two (.slice p1 a.1.length c1) (.slice p2 a.2.length c2) r0 r1
      have HO := Lib.hid ((HR.out.2.setCell (p := ⟨w.heap.size + 1, 0, none⟩) (by simp) (.slice p1 a.1.length c1)).setCell (p := ⟨w.heap.size + 1, 1, none⟩) (by simp) (.slice p2 a.2.length c2))
      go_wp2
      refine bodyPost_ret (v := .tuple #[.agg #[.slice p1 a.1.length c1, .slice p2 a.2.length c2], .bool false]) (by simp [results, Try.results56, go_sem, rr.1, rr.2]) rfl ?_
      exact ⟨_, _, _, _, _, _, by rw [HH.out]; rfl, (fun b hb => by rw [HH.out] at hb; cases hb), HO.out⟩
end Go.Proofs.Ytdjfdopgjlbloaa
