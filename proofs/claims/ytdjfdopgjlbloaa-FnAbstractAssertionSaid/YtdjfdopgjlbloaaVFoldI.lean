/- Walks: impl.firstFold, and the function value that impl.abstract hands to it. -/
import Derived.Test.YtdjfdopgjlbloaaVFoldAt
import Derived.Test.YtdjfdopgjlbloaaVFoldS
import Derived.Test.YtdjfdopgjlbloaaVItrB
import Derived.Deep.Cut
import Derived.Handy
set_option linter.unusedVariables false
set_option linter.unusedSimpArgs false
namespace Go.Proofs.Ytdjfdopgjlbloaa
open Go.RowKit

/-- A chain may be folded at a term. -/
def fldB (m : Nat) (a : Asn) (t : Int) : Bool := freeB m t && decide (usesN a.2 t = 2)
theorem try_ok {m : Nat} {a : Asn} {i k : Nat} : tryB m a i k = if fldB m a (gd a.2 i).2.2 = true then (if i = k then none else if (gd a.2 k).2.1 = (gd a.2 i).2.2 then (if entB a (foldA a i k) = true then some (foldA a i k) else none) else none) else none := rfl
set_option maxRecDepth 100000 in
set_option maxHeartbeats 1600000 in
theorem clos_any {S2 : Nat → Prop} (v1 v2 : Value) (a : Asn) (m bK bA T : Nat) (t : Bool) (w : World) (hK : w.cell? ⟨bK, 0, none⟩ = some (.int .u16 m)) (hA : w.heap[bA]? = some (.cells #[v1, v2] 26 (0, 0))) (h2 : RL w S2 v2 a.2) (hm : m < 65536) (hT : T ≤ 8) (hl : (a.2.length : Int) ≤ 8) (ht : fldB m a (T : Int) = t) :
    Calls Try.prog 47 #[.int .i64 (T : Int), .pointer (some ⟨bK, 0, none⟩), .pointer (some ⟨bA, 0, none⟩)] w fun e w' => e = .returned (.bool t) ∧ Below w.heap.size w w' := by
  obtain ⟨p2, c2, rfl⟩ := h2.form
  have hf := free_nat (m := m) hT
  have hlg := log_nat hT
  have hhs := has_nat (m := m) hT
  have b1 := box1 hA
  have bl := box_lt hA
  have kl := World.block_lt_of_cell? w _ hK
  simp only at kl
  obtain ⟨u, hu⟩ : ∃ u : Nat, usesN a.2 (T : Int) = u := ⟨_, rfl⟩
  have hte : t = (freeB m (T : Int) && decide (u = 2)) := by rw [← ht, fldB, hu]
  obtain ⟨tb, htb⟩ : ∃ c, m.testBit T = c := ⟨_, rfl⟩
  rw [htb] at hf hhs
  have H2 := Lib.hid (And.intro h2 hu)
  have HTE := Lib.hid (And.intro hte hf)
  clear h2 hu ht hf hte htb hA hT
  by_cases h4 : 4 < (T : Int)
  · rw [decide_eq_true h4] at hlg
    cases tb with
    | true =>
      have HR := Lib.hid (show t = false by rw [HTE.out.1, HTE.out.2]; simp)
      go_enter Try.func47, Try.ntmps47
      go_wp2_with (first
        | (go_at_call 48; refine (logVar_any _ _).mono ?_; rintro e w' ⟨rfl, rfl⟩)
        | (go_at_call 49; refine (hasT_any _ _ _ hm).mono ?_; rintro e w' ⟨rfl, rfl⟩))
      go_ret
      exact ⟨by rw [HR.out]; rfl, Below.refl _ _⟩
    | false =>
      have HF := Lib.hid (show freeB m (T : Int) = true by rw [HTE.out.2, decide_eq_true h4]; rfl)
      cases hu2 : ((u : Int) == 2) with
      | true =>
        have HR := Lib.hid (show t = true by rw [HTE.out.1, HF.out, decide_eq_true (by simp at hu2; omega : u = 2)]; rfl)
        go_enter Try.func47, Try.ntmps47
        go_wp2_with (first
          | (go_at_call 48; refine (logVar_any _ _).mono ?_; rintro e w' ⟨rfl, rfl⟩)
          | (go_at_call 49; refine (hasT_any _ _ _ hm).mono ?_; rintro e w' ⟨rfl, rfl⟩)
          | (go_at_call 50; refine (occ_any _ a.2 _ _ H2.out.1 hl).mono ?_; rw [H2.out.2]; rintro e w5 ⟨rfl, hb⟩))
        go_ret
        exact ⟨by rw [HR.out]; rfl, hb⟩
      | false =>
        have HR := Lib.hid (show t = false by rw [HTE.out.1, decide_eq_false (by simp at hu2; omega : ¬ u = 2)]; simp)
        go_enter Try.func47, Try.ntmps47
        go_wp2_with (first
          | (go_at_call 48; refine (logVar_any _ _).mono ?_; rintro e w' ⟨rfl, rfl⟩)
          | (go_at_call 49; refine (hasT_any _ _ _ hm).mono ?_; rintro e w' ⟨rfl, rfl⟩)
          | (go_at_call 50; refine (occ_any _ a.2 _ _ H2.out.1 hl).mono ?_; rw [H2.out.2]; rintro e w5 ⟨rfl, hb⟩))
        go_ret
        exact ⟨by rw [HR.out]; rfl, hb⟩
  · rw [decide_eq_false h4] at hlg
    have HR := Lib.hid (show t = false by rw [HTE.out.1, HTE.out.2, decide_eq_false h4]; simp)
    go_enter Try.func47, Try.ntmps47
    go_wp2_with (first
      | (go_at_call 48; refine (logVar_any _ _).mono ?_; rintro e w' ⟨rfl, rfl⟩))
    go_ret
    exact ⟨by rw [HR.out]; rfl, Below.refl _ _⟩
set_option maxRecDepth 100000 in
set_option maxHeartbeats 6400000 in
theorem firstFold_any {S1 S2 : Nat → Prop} (v1 v2 : Value) (a : Asn) (m bK bX : Nat) (r : Option Asn) (w : World) (h1 : RL w S1 v1 a.1) (h2 : RL w S2 v2 a.2) (hK : w.cell? ⟨bK, 0, none⟩ = some (.int .u16 m)) (hX : w.heap[bX]? = some (.cells #[v1, v2] 26 (0, 0))) (hm : m < 65536) (ha : asnB a = true) (hr : foldO m a = r) :
    Calls Try.prog 46 #[.agg #[v1, v2], .func (.func 47) #[] #[.pointer (some ⟨bK, 0, none⟩), .pointer (some ⟨bX, 0, none⟩)]] w fun e w' => ∃ (d1 d2 : Option Addr) (n1 g1 n2 g2 : Nat), e = .returned (.tuple #[.agg #[.slice d1 n1 g1, .slice d2 n2 g2], .bool (isSo r)]) ∧ (∀ b, r = some b → RL w' (fun k => w.heap.size ≤ k) (.slice d1 n1 g1) b.1 ∧ RL w' (fun k => w.heap.size ≤ k) (.slice d2 n2 g2) b.2) ∧ Below w.heap.size w w' := by
  obtain ⟨p1, c1, rfl⟩ := h1.form
  obtain ⟨p2, c2, rfl⟩ := h2.form
  have hlb := asnLe ha
  have hl1 : (a.1.length : Int) ≤ 12 := by omega
  have hl2 : (a.2.length : Int) ≤ 8 := by omega
  have hbA := box_keep (heap_alloc_new w (.cells #[.slice p1 a.1.length c1, .slice p2 a.2.length c2] 26)) (below_alloc _ (.cells #[.slice none 0 0, .slice none 0 0] 26))
  have hbR := heap_alloc_new (w.alloc (.cells #[.slice p1 a.1.length c1, .slice p2 a.2.length c2] 26)) (.cells #[.slice none 0 0, .slice none 0 0] 26)
  rw [World.size_alloc] at hbR
  have hB0 : Below w.heap.size w ((w.alloc (.cells #[.slice p1 a.1.length c1, .slice p2 a.2.length c2] 26)).alloc (.cells #[.slice none 0 0, .slice none 0 0] 26)) := Bl
  have H0 := Lib.hid (And.intro (And.intro hbA hbR) hB0)
  have HA := Lib.hid (And.intro ha (And.intro hr (And.intro h1 (And.intro h2 (And.intro hK hX)))))
  clear hbA hbR hB0 hlb ha hr h1 h2 hK hX
  go_enter Try.func46, Try.ntmps46
  go_wp2
  go_loopg [14] a.2.length (fun q i wr => ∃ i' : Nat, i' + q = a.2.length ∧ i = .int .i64 i' ∧ (List.range i').findSome? (rowO m a) = none ∧ (wr.heap[w.heap.size]? = some (.cells #[.slice p1 a.1.length c1, .slice p2 a.2.length c2] 26 (0, 0)) ∧ wr.heap[w.heap.size + 1]? = some (.cells #[.slice none 0 0, .slice none 0 0] 26 (0, 0))) ∧ Below w.heap.size w wr)
  case atStart => exact ⟨0, by omega, rfl, rfl, H0.out.1, H0.out.2⟩
  case round =>
    clear H0
    obtain ⟨wo, rfl⟩ : ∃ wo : World, wo = wr := ⟨_, rfl⟩
    obtain ⟨i, hi, rfl, hf, hBB, hW⟩ := hrel
    have HI := Lib.hid (And.intro hi hf)
    have HR := Lib.hid (And.intro hBB hW)
    have b0 := box0 hBB.1
    have b1 := box1 hBB.1
    have bl := box_lt hBB.1
    clear hi hf hBB hW
    by_cases hi8 : i < a.2.length
    · have hii : (i : Int) < (a.2.length : Int) := by omega
      obtain ⟨qa, qc, hqe, _, _, hqf⟩ := (HA.out.2.2.2.1.keep HR.out.2).atomAt
      simp only [Value.slice.injEq] at hqe
      obtain ⟨rfl, _, rfl⟩ := hqe
      obtain ⟨bb, oo, rfl, _, hz1, hi1, hi2, hi3⟩ := hqf i hi8
      have hvx := atomB_le' ((asn_parts HA.out.1).2 _ (gd_mem hi8))
      obtain ⟨T, hT⟩ := Int.eq_ofNat_of_zero_le hvx.2.2.1
      obtain ⟨A, hA⟩ : ∃ A, (gd a.2 i).2.1 = A := ⟨_, rfl⟩
      obtain ⟨K, hKK⟩ : ∃ K, (gd a.2 i).1 = K := ⟨_, rfl⟩
      rw [hT] at hi3
      rw [hA] at hi2
      rw [hKK] at hi1
      have t8 : T ≤ 8 := by omega
      have HX := Lib.hid (And.intro hT t8)
      have hbx := below_alloc wo (.cells #[.int .i64 K, .int .i64 A, .int .i64 T] 56)
      have hXX := heap_alloc_new wo (.cells #[.int .i64 K, .int .i64 A, .int .i64 T] 56)
      have HR3 := Lib.hid (And.intro (And.intro (box_keep HR.out.1.1 hbx) (box_keep HR.out.1.2 hbx)) (And.intro (bt HR.out.2 hbx) hXX))
      obtain ⟨gO, hgO⟩ : ∃ gO, gO = gk := ⟨_, rfl⟩
      have HGO := Lib.hid hgO
      clear hqf hvx hT hA hKK t8 hbx hXX hgO
      go_wp2
      clear b0 b1 bl hi1 hi2 hi3 hz1
      go_loopg [22] a.2.length (fun q k wi => ∃ k' : Nat, k' + q = a.2.length ∧ k = .int .i64 k' ∧ (List.range k').findSome? (fun k => tryB m a i k) = none ∧ (wi.heap[w.heap.size]? = some (.cells #[.slice p1 a.1.length c1, .slice (some ⟨bb, oo, none⟩) a.2.length c2] 26 (0, 0)) ∧ wi.heap[w.heap.size + 1]? = some (.cells #[.slice none 0 0, .slice none 0 0] 26 (0, 0))) ∧ wi.heap[wo.heap.size]? = some (.cells #[.int .i64 K, .int .i64 A, .int .i64 T] 56 (0, 0)) ∧ Below w.heap.size w wi)
      case atStart => exact ⟨0, by omega, rfl, rfl, HR3.out.1, HR3.out.2.2, HR3.out.2.1⟩
      case round =>
        clear HR3
        obtain ⟨k, hk, rfl, hf, hBB, hXX, hW⟩ := hrel
        have HJ := Lib.hid (And.intro hk hf)
        have HR4 := Lib.hid (And.intro hBB (And.intro hXX hW))
        have b0 := box0 hBB.1
        have b1 := box1 hBB.1
        have bl := box_lt hBB.1
        have x2 := c32 hXX
        have xl := box_lt hXX
        clear hk hf hBB hXX
        by_cases hk8 : k < a.2.length
        · have hki : (k : Int) < (a.2.length : Int) := by omega
          obtain ⟨qa, qc, hqe, _, _, hqf⟩ := (HA.out.2.2.2.1.keep hW).atomAt
          simp only [Value.slice.injEq] at hqe
          obtain ⟨he1, _, rfl⟩ := hqe
          subst he1
          obtain ⟨bb', oo', he, _, hz1, hk1, hk2, hk3⟩ := hqf k hk8
          obtain ⟨rfl, rfl⟩ : bb = bb' ∧ oo = oo' := by injection he with he; injection he with h1 h2; exact ⟨h1, h2⟩
          obtain ⟨C, hC⟩ : ∃ C, (gd a.2 k).2.1 = C := ⟨_, rfl⟩
          obtain ⟨B, hB⟩ : ∃ B, (gd a.2 k).2.2 = B := ⟨_, rfl⟩
          obtain ⟨D, hD⟩ : ∃ D, (gd a.2 k).1 = D := ⟨_, rfl⟩
          rw [hC] at hk2
          rw [hB] at hk3
          rw [hD] at hk1
          have htry : tryB m a i k = if fldB m a (T : Int) = true then (if i = k then none else if C = (T : Int) then (if entB a (foldA a i k) = true then some (foldA a i k) else none) else none) else none := by rw [try_ok, HX.out.1, hC]
          have hskip : tryB m a i k = none → (List.range (k + 1)).findSome? (fun k => tryB m a i k) = none := fun e => rng_step HJ.out.2 (f := fun k => tryB m a i k) e
          have HT := Lib.hid (And.intro htry hskip)
          have hby := below_alloc wr (.cells #[.int .i64 D, .int .i64 C, .int .i64 B] 56)
          have HR5 := Lib.hid (And.intro (And.intro (box_keep HR4.out.1.1 hby) (box_keep HR4.out.1.2 hby)) (And.intro (box_keep HR4.out.2.1 hby) (bt HR4.out.2.2 hby)))
          have HW := Lib.hid hW
          clear hqf he hC hB hD htry hskip hby hW
          cases e1 : ((i : Int) == (k : Int)) with
          | true =>
            have HS := Lib.hid (HT.out.2 (by rw [HT.out.1, if_pos (by simp at e1; omega : i = k)]; split <;> rfl))
            go_wp2
            go_roundg (gk - 1)
            case rel => exact ⟨k + 1, by have := HJ.out.1; omega, by go_num, HS.out, HR5.out⟩
            case measure => have := HJ.out.1; omega
          | false =>
            have HNE := Lib.hid (show ¬ i = k by simp at e1; omega)
            cases e2 : ((T : Int) != C) with
            | true =>
              have HS := Lib.hid (HT.out.2 (by rw [HT.out.1, if_neg HNE.out, if_neg (by simp at e2; omega : ¬ C = (T : Int))]; split <;> rfl))
              go_wp2
              go_roundg (gk - 1)
              case rel => exact ⟨k + 1, by have := HJ.out.1; omega, by go_num, HS.out, HR5.out⟩
              case measure => have := HJ.out.1; omega
            | false =>
              have HE := Lib.hid (show C = (T : Int) by simp at e2; omega)
              obtain ⟨ok, hok⟩ : ∃ ok, fldB m a (T : Int) = ok := ⟨_, rfl⟩
              have HOK := Lib.hid hok
              clear hok
              go_wp2_with fail
              refine (clos_any _ _ a m bK bX T ok _ ((HR5.out.2.2.cell (World.block_lt_of_cell? w _ HA.out.2.2.2.2.1)).trans HA.out.2.2.2.2.1) (box_keep HA.out.2.2.2.2.2 HR5.out.2.2) (HA.out.2.2.2.1.keep HR5.out.2.2) hm HX.out.2 hl2 HOK.out).mono ?_
              rintro e w5 ⟨rfl, hb5⟩
              have HR6 := Lib.hid (And.intro (And.intro (box_keep HR5.out.1.1 hb5) (box_keep HR5.out.1.2 hb5)) (And.intro (box_keep HR5.out.2.1 hb5) (bt HR5.out.2.2 hb5)))
              have hb56 := bt (below_alloc wr (.cells #[.int .i64 D, .int .i64 C, .int .i64 B] 56)) hb5
              have HBR := Lib.hid hb56
              clear b0 b1 bl x2 xl hk1 hk2 hk3 hz1 hb5 hb56 HR5 e1 e2
              cases ok with
              | false =>
                have HS := Lib.hid (HT.out.2 (by rw [HT.out.1, if_neg (by rw [HOK.out]; decide)]))
                go_wp2
                go_roundg (gk - 1)
                case rel => exact ⟨k + 1, by have := HJ.out.1; omega, by go_num, HS.out, HR6.out⟩
                case measure => have := HJ.out.1; omega
              | true =>
                obtain ⟨t, ht⟩ : ∃ t, entB a (foldA a i k) = t := ⟨_, rfl⟩
                have HT2 := Lib.hid ht
                clear ht
                have b0 := box0 HR6.out.1.1
                have b1 := box1 HR6.out.1.1
                have bl := box_lt HR6.out.1.1
                go_wp2_with fail
                refine (foldAt_any _ _ a i k _ (HA.out.2.2.1.keep HR6.out.2.2) (HA.out.2.2.2.1.keep HR6.out.2.2) hl1 hl2 hi8 hk8).mono ?_
                rintro e w6 ⟨y1, y2, rfl, ⟨hy1, hy2⟩, hb6⟩
                obtain ⟨d1, g1, rfl⟩ := hy1.form
                obtain ⟨d2, g2, rfl⟩ := hy2.form
                have hN := heap_alloc_new w6 (.cells #[.slice d1 (foldA a i k).1.length g1, .slice d2 (foldA a i k).2.length g2] 26)
                have hb66 := ba hb6 (.cells #[.slice d1 (foldA a i k).1.length g1, .slice d2 (foldA a i k).2.length g2] 26)
                have hz5 := HBR.out.size
                have HN := Lib.hid (And.intro hN (And.intro (hy1.keep (below_alloc w6 (.cells #[.slice d1 (foldA a i k).1.length g1, .slice d2 (foldA a i k).2.length g2] 26))) (hy2.keep (below_alloc w6 (.cells #[.slice d1 (foldA a i k).1.length g1, .slice d2 (foldA a i k).2.length g2] 26)))))
                have HR7 := Lib.hid (And.intro (And.intro (box_keep HR6.out.1.1 hb66) (box_keep HR6.out.1.2 hb66)) (And.intro (box_keep HR6.out.2.1 hb66) (bt HR6.out.2.2 hb66)))
                have c0 := box0 (box_keep HR6.out.1.1 hb6)
                have c1' := box1 (box_keep HR6.out.1.1 hb6)
                have cl := box_lt (box_keep HR6.out.1.1 hb6)
                clear hN hb66 hy1 hy2 b0 b1 bl hb6
                go_wp2_with fail
                refine (cb (entailsI_any _ _ _ _ a (foldA a i k) _ (HA.out.2.2.1.keep HR7.out.2.2) (HA.out.2.2.2.1.keep HR7.out.2.2) HN.out.2.1 HN.out.2.2) HT2.out).mono ?_
                rintro e w7 ⟨rfl, hb7⟩
                clear c0 c1' cl
                cases t with
                | false =>
                  have HS := Lib.hid (HT.out.2 (by rw [HT.out.1, if_pos HOK.out, if_neg HNE.out, if_pos HE.out, if_neg (by rw [HT2.out]; decide)]))
                  have HR8 := Lib.hid (And.intro (And.intro (box_keep HR7.out.1.1 hb7) (box_keep HR7.out.1.2 hb7)) (And.intro (box_keep HR7.out.2.1 hb7) (bt HR7.out.2.2 hb7)))
                  clear hb7
                  go_wp2
                  go_roundg (gk - 1)
                  case rel => exact ⟨k + 1, by have := HJ.out.1; omega, by go_num, HS.out, HR8.out⟩
                  case measure => have := HJ.out.1; omega
                | true =>
                  have hhit : r = some (foldA a i k) := by
                    rw [← HA.out.2.1, foldO_eq]
                    exact rng_hit hi8 HI.out.2 (rng_hit hk8 HJ.out.2 (by rw [HT.out.1, if_pos HOK.out, if_neg HNE.out, if_pos HE.out, if_pos HT2.out]))
                  have HH := Lib.hid hhit
                  have hN7 := box_keep HN.out.1 hb7
                  have n0 := box0 hN7
                  have n1 := box1 hN7
                  have nl := box_lt hN7
                  have hR7 := box_keep HR7.out.1.2 hb7
                  have r0 := box0 hR7
                  have r1 := box1 hR7
                  have rz := boxz hR7
                  have rl := box_lt hR7
                  have rr := box_two (.slice d1 (foldA a i k).1.length g1) (.slice d2 (foldA a i k).2.length g2) r0 r1
                  have hs6 := fr_twoR w7 (w.heap.size + 1) (.slice d1 (foldA a i k).1.length g1) (.slice d2 (foldA a i k).2.length g2)
                  have hlo := box_lt HR6.out.1.2
                  have far : ∀ k, k < w7.heap.size → (fun k => w5.heap.size ≤ k) k → ¬ (fun j => j = w.heap.size + 1) k := fun k _ h e => by
                    have h2 : w5.heap.size ≤ k := h
                    have e2 : k = w.heap.size + 1 := e
                    omega
                  have HO := Lib.hid (And.intro (And.intro (((HN.out.2.1.keep hb7).kept hs6 far).more fun k _ h => (show w.heap.size ≤ k from Nat.le_trans (by omega) h)) (((HN.out.2.2.keep hb7).kept hs6 far).more fun k _ h => (show w.heap.size ≤ k from Nat.le_trans (by omega) h))) (((bt HR7.out.2.2 hb7).setCell (p := ⟨w.heap.size + 1, 0, none⟩) (by simp) (.slice d1 (foldA a i k).1.length g1)).setCell (p := ⟨w.heap.size + 1, 1, none⟩) (by simp) (.slice d2 (foldA a i k).2.length g2)))
                  clear hhit hN7 hR7 hs6 hlo far hb7
                  go_wp2
                  refine bodyPost_ret (v := .tuple #[.agg #[.slice d1 (foldA a i k).1.length g1, .slice d2 (foldA a i k).2.length g2], .bool true]) (by simp [results, Try.results46, go_sem, rr.1, rr.2]) rfl ?_
                  exact ⟨_, _, _, _, _, _, by rw [HH.out]; rfl, (fun b hb => by obtain rfl := Option.some.inj (HH.out.symm.trans hb); exact HO.out.1), HO.out.2⟩
        · obtain rfl : k = a.2.length := by have := HJ.out.1; omega
          have HS := Lib.hid (rng_step HI.out.2 (f := rowO m a) (k := i) HJ.out.2)
          have HWW := Lib.hid hW
          clear hW
          go_wp2
          go_roundg (gO - 1)
          case rel => exact ⟨i + 1, by have := HI.out.1; have := HGO.out; omega, by go_num, HS.out, HR4.out.1, HWW.out⟩
          case measure => have := HI.out.1; have := HGO.out; omega
    · obtain rfl : i = a.2.length := by have := HI.out.1; omega
      have HH := Lib.hid (show r = none by rw [← HA.out.2.1, foldO_eq]; exact HI.out.2)
      have r0 := box0 HR.out.1.2
      have r1 := box1 HR.out.1.2
      have rz := boxz HR.out.1.2
      have rl := box_lt HR.out.1.2
      have rr := box_two (.slice none 0 0) (.slice none 0 0) r0 r1
      have HO := Lib.hid ((HR.out.2.setCell (p := ⟨w.heap.size + 1, 0, none⟩) (by simp) (.slice none 0 0)).setCell (p := ⟨w.heap.size + 1, 1, none⟩) (by simp) (.slice none 0 0))
      go_wp2
      refine bodyPost_ret (v := .tuple #[.agg #[.slice none 0 0, .slice none 0 0], .bool false]) (by simp [results, Try.results46, go_sem, rr.1, rr.2]) rfl ?_
      exact ⟨_, _, _, _, _, _, by rw [HH.out]; rfl, (fun b hb => by rw [HH.out] at hb; cases hb), HO.out⟩
end Go.Proofs.Ytdjfdopgjlbloaa
