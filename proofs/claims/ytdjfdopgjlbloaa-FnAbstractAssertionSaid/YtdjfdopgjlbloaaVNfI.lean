/- Walk: impl.normalForm. -/
import Derived.Test.YtdjfdopgjlbloaaVHold1
import Derived.Laws.StructEq
import Derived.Deep.Cut
import Derived.Deep.RegionLaw
import Derived.Handy
import Derived.BigQuiet
set_option linter.unusedVariables false
set_option linter.unusedSimpArgs false
namespace Go.Proofs.Ytdjfdopgjlbloaa
open Go.RowKit

/-- What is empty is nil. -/
def NilE {α : Type} (l : List α) (v : Value) : Prop := l = [] → v = .slice none 0 0
theorem NilE.app {α : Type} (l : List α) (x : α) (v : Value) : NilE (l ++ [x]) v := fun h => by simp at h
set_option maxRecDepth 100000 in
set_option maxHeartbeats 6400000 in
theorem normIE_any {S1 S2 : Nat → Prop} (v1 v2 : Value) (a : Asn) (w : World) (h1 : RL w S1 v1 a.1) (h2 : RL w S2 v2 a.2) (ha : asnB a = true) :
    Calls Try.prog 74 #[.agg #[v1, v2]] w fun e w' => ∃ x1 x2, e = .returned (.agg #[x1, x2]) ∧ ((FE w' w.heap.size x1 (nfB a).1 ∧ FE w' w.heap.size x2 (nfB a).2) ∧ (((nfB a).1 = [] → x1 = .slice none 0 0) ∧ ((nfB a).2 = [] → x2 = .slice none 0 0))) ∧ Below w.heap.size w w' := by
  have hsz := asnLe ha
  obtain ⟨a1, a2⟩ := a
  simp only at h1 h2 hsz
  obtain ⟨p1, c1, rfl⟩ := h1.form
  obtain ⟨p2, c2, rfl⟩ := h2.form
  have hl1 : (a1.length : Int) ≤ 12 := by omega
  have hl2 : (a2.length : Int) ≤ 8 := by omega
  have hbA := box_keep (box_keep (heap_alloc_new w (.cells #[.slice p1 a1.length c1, .slice p2 a2.length c2] 26)) (below_alloc _ (.cells #[.slice none 0 0, .slice none 0 0] 26))) (below_alloc _ (.cells #[.slice none 0 0, .slice none 0 0] 26))
  have hbR := heap_alloc_new (w.alloc (.cells #[.slice p1 a1.length c1, .slice p2 a2.length c2] 26)) (.cells #[.slice none 0 0, .slice none 0 0] 26)
  rw [World.size_alloc] at hbR
  have hB0 : Below w.heap.size w ((w.alloc (.cells #[.slice p1 a1.length c1, .slice p2 a2.length c2] 26)).alloc (.cells #[.slice none 0 0, .slice none 0 0] 26)) := Bl
  have H1 := Lib.hid (And.intro (And.intro hbA hbR) (And.intro hB0 (show ∀ n, n < a2.length → atomB (gd a2 n) = true from fun n hn => List.all_eq_true.1 hsz.2.2 _ (gd_mem hn))))
  have HH := Lib.hid (And.intro h1 h2)
  clear hbA hbR hB0 ha h1 h2 hsz
  go_enter Try.func74, Try.ntmps74
  go_wp2
  go_loopg [14] a1.length (fun q i wr => ∃ (k : Nat) (y1 : Value), k + q = a1.length ∧ i = .int .i64 k ∧ DB w wr (w.heap.size + 1) (w.heap.size + 1 + 1) y1 (.slice none 0 0) (nfF (a1.take k)) [] ∧ wr.heap[w.heap.size]? = some (.cells #[.slice p1 a1.length c1, .slice p2 a2.length c2] 26 (0, 0)) ∧ NilE (nfF (a1.take k)) y1)
  case atStart => exact ⟨0, _, by omega, rfl, DB.mkA (FE.nil _ _ _) (FE.nil _ _ _) H1.out.1.2 H1.out.2.1 (by simp), H1.out.1.1, fun _ => rfl⟩
  case round =>
    obtain ⟨wo, rfl⟩ : ∃ wo : World, wo = wr := ⟨_, rfl⟩
    obtain ⟨gm, hgm⟩ : ∃ gm, gm = gk - 1 := ⟨_, rfl⟩
    obtain ⟨k, y1, hk, rfl, D, hBX, hE⟩ := hrel
    obtain ⟨L, hL⟩ : ∃ L, nfF (a1.take k) = L := ⟨_, rfl⟩
    have hLk := nfF_lenk a1 k
    rw [hL] at D hLk hE
    obtain ⟨ua1, uc1, rfl⟩ := D.f.form
    have HNE := Lib.hid hE
    clear hE
    have x0 := box0 hBX
    have x1 := box1 hBX
    have xl := box_lt hBX
    have hwz := D.fr.size
    have hbo := box_lt D.boxA
    by_cases hk8 : k < a1.length
    · have hki : (k : Int) < (a1.length : Int) := by omega
      have hLi : (L.length : Int) ≤ 12 := by omega
      have hst := nfF_step hk8
      obtain ⟨qa, qc, hqe, _, _, hqf⟩ := (HH.out.1.keep D.fr).factAt
      simp only [Value.slice.injEq] at hqe
      obtain ⟨rfl, _, rfl⟩ := hqe
      obtain ⟨b1, o1, rfl, _, hz1, hp1, hp2, hp3⟩ := hqf k hk8
      obtain ⟨X, hX⟩ : ∃ X, gd a1 k = X := ⟨_, rfl⟩
      obtain ⟨X1, X2, X3⟩ := X
      rw [hX] at hp1 hp2 hp3 hst
      rw [hL] at hst
      simp only at hp1 hp2 hp3
      have HK := Lib.hid (And.intro hk (And.intro hst hLk))
      clear hqf hX hL hk hst hLk
      have HD := Lib.hid (And.intro D hBX)
      clear D hBX
      cases hidf : idF (X1, X2, X3) with
      | true =>
        have hn : nfF (a1.take (k + 1)) = L := by rw [HK.out.2.1, nfStep, if_pos hidf]
        simp only [idF, Bool.and_eq_true] at hidf
        obtain ⟨rfl, hxe⟩ := hidf
        have HN := Lib.hid hn
        clear hn
        go_wp2
        go_roundg (gk - 1)
        case rel => exact ⟨k + 1, _, by have := HK.out.1; omega, by go_num, by rw [HN.out]; exact HD.out.1.keep (below_alloc _ _), box_keep HD.out.2 (below_alloc _ _), by rw [HN.out]; exact HNE.out⟩
        case measure => have := HK.out.1; omega
      | false =>
        obtain ⟨Z, hZ⟩ : ∃ Z, ordF (X1, X2, X3) = Z := ⟨_, rfl⟩
        have hn : nfF (a1.take (k + 1)) = if L.any (· == Z) = true then L else L ++ [Z] := by rw [HK.out.2.1, nfStep, if_neg (by rw [hidf]; decide), hZ]
        have hord : (X3 < X2 ∧ Z = (X1, X3, X2)) ∨ (¬ X3 < X2 ∧ Z = (X1, X2, X3)) := by
          rw [ordF] at hZ
          by_cases h : X3 < X2
          · rw [if_pos h] at hZ; exact .inl ⟨h, hZ.symm⟩
          · rw [if_neg h] at hZ; exact .inr ⟨h, hZ.symm⟩
        obtain ⟨Z1, Z2, Z3⟩ := Z
        simp only [Prod.mk.injEq] at hord
        have HN := Lib.hid (And.intro hn hord)
        clear hn hord hZ
        have hcase : X1 = false ∨ (X1 = true ∧ (X2 == X3) = false) := by
          simp only [idF] at hidf
          cases X1 with
          | false => exact .inl rfl
          | true => exact .inr ⟨rfl, hidf⟩
        clear hidf
        rcases hcase with rfl | ⟨rfl, hxe⟩
        all_goals
          go_upto_if 31 with fail
          go_cut [] from 15 to 60 (fun wc => wc.heap[wo.heap.size]? = some (.cells #[.bool Z1, .int .i64 Z2, .int .i64 Z3] 53 (0, 0)) ∧ Below wo.heap.size wo wc)
          case first =>
            rcases HN.out.2 with ⟨hlt, rfl, rfl, rfl⟩ | ⟨hlt, rfl, rfl, rfl⟩
            · go_wp2
              go_meet
              case rel => exact ⟨heap_alloc_new _ _, below_alloc _ _⟩
            · go_wp2
              go_meet
              case rel => exact ⟨heap_alloc_new _ _, below_alloc _ _⟩
          case rest =>
            obtain ⟨hZc, hbc⟩ := hcut
            have HD2 := Lib.hid (And.intro (HD.out.1.keep hbc) (box_keep HD.out.2 hbc))
            have g0 := c30 hZc
            have g1 := c31 hZc
            have g2 := c32 hZc
            have gz := box_lt hZc
            have hbo2 := box_lt HD2.out.1.boxA
            have d0 := box0 HD2.out.1.boxA
            have HZ := Lib.hid hZc
            clear hZc hbc x0 x1 hp1 hp2 hp3
            go_wp2
            go_loopg [6, 41] L.length (fun q x i wi => ∃ (j : Nat) (o : Bool), j + q = L.length ∧ i = .int .i64 j ∧ x = .bool o ∧ o = (L.take j).any (· == (Z1, Z2, Z3)) ∧ Below wc.heap.size wc wi)
            case atStart => exact ⟨0, false, by omega, rfl, rfl, by simp, Below.refl _ _⟩
            case round =>
              obtain ⟨j, o, hj, rfl, rfl, ho, hbi⟩ := hrel
              have HJ := Lib.hid (And.intro hj ho)
              have HD3 := Lib.hid (And.intro (HD2.out.1.keep hbi) (box_keep HD2.out.2 hbi))
              replace g0 := cell_keep hbi g0
              replace g1 := cell_keep hbi g1
              replace g2 := cell_keep hbi g2
              have gz := box_lt (box_keep HZ.out hbi)
              have hbo3 := box_lt HD3.out.1.boxA
              have e0 := box0 HD3.out.1.boxA
              clear hj ho d0
              by_cases hj8 : j < L.length
              · have hji : (j : Int) < (L.length : Int) := by omega
                obtain ⟨qa, qc, hqe, _, _, hqf⟩ := HD3.out.1.f.rl.factAt
                simp only [Value.slice.injEq] at hqe
                obtain ⟨rfl, _, rfl⟩ := hqe
                obtain ⟨b2, o2, rfl, _, hz2, hq1, hq2, hq3⟩ := hqf j hj8
                have hnx := any_more1 (p := fun y => y == (Z1, Z2, Z3)) hj8
                rw [← HJ.out.2] at hnx
                obtain ⟨Y, hY⟩ : ∃ Y, gd L j = Y := ⟨_, rfl⟩
                obtain ⟨Y1, Y2, Y3⟩ := Y
                rw [hY] at hq1 hq2 hq3 hnx
                simp only [fact_beq] at hq1 hq2 hq3 hnx
                have HX := Lib.hid hnx
                clear hqf hY hnx
                have hstp : ∀ b : Bool, b = (Y1 == Z1 && (Y2 == Z2 && Y3 == Z3)) → (L.take (j + 1)).any (fun y => y == (Z1, Z2, Z3)) = (o || b) := fun b e => by rw [e]; exact HX.out
                have HS := Lib.hid hstp
                clear hstp
                cases o with
                | true =>
                  go_wp2
                  go_roundg (gk - 1)
                  case rel => exact ⟨j + 1, true, by have := HJ.out.1; omega, by go_num, rfl, (HS.out _ rfl).symm, ba hbi _⟩
                  case measure => have := HJ.out.1; omega
                | false =>
                  have hc4 : (Y1 == Z1) = false ∨ ((Y1 == Z1) = true ∧ (Y2 == Z2) = false) ∨ ((Y1 == Z1) = true ∧ (Y2 == Z2) = true ∧ (Y3 == Z3) = false) ∨ ((Y1 == Z1) = true ∧ (Y2 == Z2) = true ∧ (Y3 == Z3) = true) := by
                    cases (Y1 == Z1) <;> cases (Y2 == Z2) <;> cases (Y3 == Z3) <;> simp
                  rcases hc4 with e1 | ⟨e1, e2⟩ | ⟨e1, e2, e3⟩ | ⟨e1, e2, e3⟩
                  · have HV := Lib.hid (HS.out false (by rw [e1]; rfl))
                    go_wp2
                    go_roundg (gk - 1)
                    case rel => exact ⟨j + 1, false, by have := HJ.out.1; omega, by go_num, rfl, HV.out.symm, ba hbi _⟩
                    case measure => have := HJ.out.1; omega
                  · have HV := Lib.hid (HS.out false (by rw [e1, e2]; rfl))
                    go_wp2
                    go_roundg (gk - 1)
                    case rel => exact ⟨j + 1, false, by have := HJ.out.1; omega, by go_num, rfl, HV.out.symm, ba hbi _⟩
                    case measure => have := HJ.out.1; omega
                  · have HV := Lib.hid (HS.out false (by rw [e1, e2, e3]; rfl))
                    go_wp2
                    go_roundg (gk - 1)
                    case rel => exact ⟨j + 1, false, by have := HJ.out.1; omega, by go_num, rfl, HV.out.symm, ba hbi _⟩
                    case measure => have := HJ.out.1; omega
                  · have HV := Lib.hid (HS.out true (by rw [e1, e2, e3]; rfl))
                    go_wp2
                    go_roundg (gk - 1)
                    case rel => exact ⟨j + 1, true, by have := HJ.out.1; omega, by go_num, rfl, HV.out.symm, ba hbi _⟩
                    case measure => have := HJ.out.1; omega
              · obtain rfl : j = L.length := by have := HJ.out.1; omega
                have hany : L.any (fun y => y == (Z1, Z2, Z3)) = o := by have := HJ.out.2; rw [List.take_length] at this; exact this.symm
                have hn2 := HN.out.1
                rw [hany] at hn2
                have HM := Lib.hid (And.intro hn2 HK.out.2.2)
                clear hany hn2
                cases o with
                | true =>
                  go_wp2
                  go_roundg gm
                  case rel => exact ⟨k + 1, _, by have := HK.out.1; omega, by go_num, by rw [HM.out.1]; exact HD3.out.1, HD3.out.2, by rw [HM.out.1]; exact HNE.out⟩
                  case measure => have := HK.out.1; omega
                | false =>
                  have hlk := HM.out.2
                  go_wp2_with (at_builtin; go_must (refine app_F (l := L) (m := [((Z1, Z2, Z3) : Fact)]) (B := w.heap.size) (by rfl) (.tmp 55) (.tmp 57) _ (by rfl) ti_fact (by rfl) (HD3.out.1.f.keep (below_alloc _ _)) (by rfl) (lit_fact _ _ _ _ _) (by simp; omega) (by simp; omega) ?_; intro v' w7 o7 hf7; obtain ⟨a7, n7, c7, rfl⟩ := o7.forms; have hA7 := box_tf (box_keep HD3.out.1.boxA (below_alloc wr (.cells #[.bool Z1, .int .i64 Z2, .int .i64 Z3] 53))) hf7 (by decide); have hb0 := box0 hA7; have hbz := boxz hA7 0; have hbl7 := box_lt hA7; clear hA7))
                  have hkp := below_alloc wr (.cells #[.bool Z1, .int .i64 Z2, .int .i64 Z3] 53)
                  have D9 := (HD3.out.1.keep hkp).app1 (by omega) (by omega) o7 hf7
                  have hB9 := box_other (box_tf (box_keep HD3.out.2 hkp) hf7 (by decide)) ⟨(w.heap.size + 1 + 1), 0, none⟩ (.slice a7 n7 c7) (by show ¬ w.heap.size = (w.heap.size + 1 + 1); omega)
                  have H9 := Lib.hid (And.intro D9 hB9)
                  clear D9 hB9 o7 hf7 hkp
                  go_wp2
                  go_roundg gm
                  case rel => exact ⟨k + 1, _, by have := HK.out.1; omega, by go_num, by rw [HM.out.1]; exact H9.out.1, H9.out.2, by rw [HM.out.1]; exact NilE.app _ _ _⟩
                  case measure => have := HK.out.1; omega
    · obtain rfl : k = a1.length := by omega
      rw [List.take_length] at hL
      have hLl : L.length ≤ 12 := by omega
      obtain ⟨wm, rfl⟩ : ∃ wm : World, wm = wo := ⟨_, rfl⟩
      have HD0 := Lib.hid (And.intro D hBX)
      have HL := Lib.hid hL
      clear D hBX hL hk
      go_wp2
      clear x0 x1 xl
      go_loopg [64] a2.length (fun q i wr => ∃ (n : Nat) (y2 : Value), n + q = a2.length ∧ i = .int .i64 n ∧ DB w wr (w.heap.size + 1) (w.heap.size + 1 + 1) (.slice ua1 L.length uc1) y2 L (nfA (a2.take n)) ∧ wr.heap[w.heap.size]? = some (.cells #[.slice p1 a1.length c1, .slice p2 a2.length c2] 26 (0, 0)) ∧ NilE (nfA (a2.take n)) y2)
      case atStart => exact ⟨0, _, by omega, rfl, HD0.out.1, HD0.out.2, fun _ => rfl⟩
      case round =>
        obtain ⟨n, y2, hn, rfl, D, hBX, hE⟩ := hrel
        obtain ⟨M, hM⟩ : ∃ M, nfA (a2.take n) = M := ⟨_, rfl⟩
        have hMn := nfA_lenk a2 n
        rw [hM] at D hMn hE
        obtain ⟨ua2, uc2, rfl⟩ := D.a.form
        have HNM := Lib.hid hE
        clear hE
        by_cases hn8 : n < a2.length
        · have hni : (n : Int) < (a2.length : Int) := by omega
          have x0 := box0 hBX
          have x1 := box1 hBX
          have xl := box_lt hBX
          have hwz := D.fr.size
          have hbo := box_lt D.boxA
          have hst := nfA_step hn8
          obtain ⟨qa, qc, hqe, _, _, hqf⟩ := (HH.out.2.keep D.fr).atomAt
          simp only [Value.slice.injEq] at hqe
          obtain ⟨rfl, _, rfl⟩ := hqe
          obtain ⟨b1, o1, rfl, _, hz1, hp1, hp2, hp3⟩ := hqf n hn8
          obtain ⟨X, hX⟩ : ∃ X, gd a2 n = X := ⟨_, rfl⟩
          obtain ⟨X1, X2, X3⟩ := X
          rw [hX] at hp1 hp2 hp3 hst
          rw [hM] at hst
          simp only at hp1 hp2 hp3 hst
          have HN := Lib.hid (And.intro hn (And.intro hst hMn))
          have HD := Lib.hid (And.intro D hBX)
          have HA1 := Lib.hid (show atomB (X1, X2, X3) = true by rw [← hX]; exact H1.out.2.2 n hn8)
          clear hqf hX hM hn hst hMn D hBX
          have hka : X1 = 1 ∨ X1 = 2 := by
            have h := HA1.out
            simp [atomB] at h
            omega
          rcases hka with rfl | rfl
          · have hnx : nfA (a2.take (n + 1)) = M ++ [(1, X2, X3)] := by rw [HN.out.2.1]; simp
            have HX := Lib.hid hnx
            clear hnx
            have hlk := HN.out.2.2
            have d1 := box1 HD.out.1.boxA
            have dz := boxz HD.out.1.boxA 1
            have dl := box_lt HD.out.1.boxA
            go_wp2_with (at_builtin; go_must (refine app_F (l := M) (m := [((1, X2, X3) : Atom)]) (B := w.heap.size) (by rfl) (.tmp 79) (.tmp 81) _ (by rfl) ti_atom (by rfl) (HD.out.1.a.keep (ba (below_alloc wr (.cells #[.int .i64 1, .int .i64 X2, .int .i64 X3] 56)) (.cells #[.int .i64 1, .int .i64 X2, .int .i64 X3] 56))) (by rfl) (lit_atom_at (g := wr.heap.size + 1) (by simp) _ _ _ _) (by simp; omega) (by simp; omega) ?_; intro v' w7 o7 hf7; obtain ⟨a7, n7, c7, rfl⟩ := o7.forms; have hA7 := box_tf (box_keep HD.out.1.boxA (ba (below_alloc wr (.cells #[.int .i64 1, .int .i64 X2, .int .i64 X3] 56)) (.cells #[.int .i64 1, .int .i64 X2, .int .i64 X3] 56))) hf7 (by decide); have hb0 := box1 hA7; have hbz := boxz hA7 1; have hbl7 := box_lt hA7; clear hA7))
            have hkp : Below wr.heap.size wr ((wr.alloc (.cells #[.int .i64 1, .int .i64 X2, .int .i64 X3] 56)).alloc (.cells #[.int .i64 1, .int .i64 X2, .int .i64 X3] 56)) := ba (below_alloc wr (.cells #[.int .i64 1, .int .i64 X2, .int .i64 X3] 56)) (.cells #[.int .i64 1, .int .i64 X2, .int .i64 X3] 56)
            have D9 := (HD.out.1.keep hkp).app2 (by omega) (by omega) o7 hf7
            have hB9 := box_other (box_tf (box_keep HD.out.2 hkp) hf7 (by decide)) ⟨w.heap.size + 1 + 1, 1, none⟩ (.slice a7 n7 c7) (by show ¬ w.heap.size = w.heap.size + 1 + 1; omega)
            have H9 := Lib.hid (And.intro D9 hB9)
            clear D9 hB9 o7 hf7 hkp
            go_wp2
            go_roundg (gk - 1)
            case rel => exact ⟨n + 1, _, by have := HN.out.1; omega, by go_num, by rw [HX.out]; exact H9.out.1, H9.out.2, by rw [HX.out]; exact NilE.app _ _ _⟩
            case measure => have := HN.out.1; omega
          · cases hxe : (X2 != X3) with
            | false =>
              have hnx : nfA (a2.take (n + 1)) = M := by rw [HN.out.2.1, hxe]; simp
              have HX := Lib.hid hnx
              clear hnx
              go_wp2
              go_roundg (gk - 1)
              case rel => exact ⟨n + 1, _, by have := HN.out.1; omega, by go_num, by rw [HX.out]; exact HD.out.1.keep (below_alloc _ _), box_keep HD.out.2 (below_alloc _ _), by rw [HX.out]; exact HNM.out⟩
              case measure => have := HN.out.1; omega
            | true =>
              have hnx : nfA (a2.take (n + 1)) = M ++ [(2, X2, X3)] := by rw [HN.out.2.1, hxe]; simp
              have HX := Lib.hid hnx
              clear hnx
              have hlk := HN.out.2.2
              have d1 := box1 HD.out.1.boxA
              have dz := boxz HD.out.1.boxA 1
              have dl := box_lt HD.out.1.boxA
              go_wp2_with (at_builtin; go_must (refine app_F (l := M) (m := [((2, X2, X3) : Atom)]) (B := w.heap.size) (by rfl) (.tmp 79) (.tmp 81) _ (by rfl) ti_atom (by rfl) (HD.out.1.a.keep (ba (below_alloc wr (.cells #[.int .i64 2, .int .i64 X2, .int .i64 X3] 56)) (.cells #[.int .i64 2, .int .i64 X2, .int .i64 X3] 56))) (by rfl) (lit_atom_at (g := wr.heap.size + 1) (by simp) _ _ _ _) (by simp; omega) (by simp; omega) ?_; intro v' w7 o7 hf7; obtain ⟨a7, n7, c7, rfl⟩ := o7.forms; have hA7 := box_tf (box_keep HD.out.1.boxA (ba (below_alloc wr (.cells #[.int .i64 2, .int .i64 X2, .int .i64 X3] 56)) (.cells #[.int .i64 2, .int .i64 X2, .int .i64 X3] 56))) hf7 (by decide); have hb0 := box1 hA7; have hbz := boxz hA7 1; have hbl7 := box_lt hA7; clear hA7))
              have hkp : Below wr.heap.size wr ((wr.alloc (.cells #[.int .i64 2, .int .i64 X2, .int .i64 X3] 56)).alloc (.cells #[.int .i64 2, .int .i64 X2, .int .i64 X3] 56)) := ba (below_alloc wr (.cells #[.int .i64 2, .int .i64 X2, .int .i64 X3] 56)) (.cells #[.int .i64 2, .int .i64 X2, .int .i64 X3] 56)
              have D9 := (HD.out.1.keep hkp).app2 (by omega) (by omega) o7 hf7
              have hB9 := box_other (box_tf (box_keep HD.out.2 hkp) hf7 (by decide)) ⟨w.heap.size + 1 + 1, 1, none⟩ (.slice a7 n7 c7) (by show ¬ w.heap.size = w.heap.size + 1 + 1; omega)
              have H9 := Lib.hid (And.intro D9 hB9)
              clear D9 hB9 o7 hf7 hkp
              go_wp2
              go_roundg (gk - 1)
              case rel => exact ⟨n + 1, _, by have := HN.out.1; omega, by go_num, by rw [HX.out]; exact H9.out.1, H9.out.2, by rw [HX.out]; exact NilE.app _ _ _⟩
              case measure => have := HN.out.1; omega
        · obtain rfl : n = a2.length := by omega
          rw [List.take_length] at hM
          have x0 := box0 hBX
          have x1 := box1 hBX
          have b0 := box0 D.boxA
          have b1 := box1 D.boxA
          have bz := boxz D.boxA
          have bl := box_lt D.boxA
          have r0 := box0 D.boxR
          have r1 := box1 D.boxR
          have rz := boxz D.boxR
          have rl := box_lt D.boxR
          have r := box_two (.slice ua1 L.length uc1) (.slice ua2 M.length uc2) r0 r1
          have HO := Lib.hid (And.intro hM (D.done (by omega) (.slice ua1 L.length uc1) (.slice ua2 M.length uc2)))
          clear D hBX hM hn
          go_wp2
          refine bodyPost_ret (v := .agg #[.slice ua1 L.length uc1, .slice ua2 M.length uc2]) (by simp [results, Try.results74, go_sem, r.1, r.2]) rfl ?_
          exact ⟨_, _, rfl, by rw [nfB, HL.out, HO.out.1]; exact ⟨HO.out.2.1, HNE.out, HNM.out⟩, HO.out.2.2⟩
end Go.Proofs.Ytdjfdopgjlbloaa
