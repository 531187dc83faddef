/- Walks: two atoms that may be one (the reference's FoldCells). -/
import Derived.Test.YtapoillhgimdiaaWout
import Derived.Test.YtapoillhgimdiaaEnt1
import Derived.Deep.CutRange
namespace Go.Proofs.Ytapoillhgimdiaa
open Go.RowKit

theorem FE.any {α : Type} [Flat α] [Tid α] {w : World} {B : Nat} {v : Value} {l : List α} (h : FE w B v l) : RL w (fun _ => True) v l := h.rl.any
set_option maxRecDepth 100000 in
set_option maxHeartbeats 6400000 in
theorem foldCellsS_any {S1 S2 : Nat → Prop} (v1 v2 : Value) (a : Asn) (w : World) (h1 : RL w S1 v1 a.1) (h2 : RL w S2 v2 a.2) :
    Calls Try.prog 200 #[.agg #[v1, v2]] w fun e w' => ∃ (y1 y2 : Value) (b : Asn) (ok : Bool), e = .returned (.tuple #[.agg #[y1, y2], .bool ok]) ∧ asnB b = true ∧ FE w' w.heap.size y1 b.1 ∧ FE w' w.heap.size y2 b.2 ∧ Below w.heap.size w w' := by
  obtain ⟨a1, a2⟩ := a
  simp only at h1 h2
  obtain ⟨p1, c1, rfl⟩ := h1.form
  obtain ⟨p2, c2, rfl⟩ := h2.form
  obtain ⟨w0, hw0⟩ : ∃ w0, w0 = ((w.alloc (.cells #[.slice p1 a1.length c1, .slice p2 a2.length c2] 33)).alloc (.cells #[.slice none 0 0, .slice none 0 0] 33)) := ⟨_, rfl⟩
  have hc0 : w0.cell? ⟨w.heap.size, 0, none⟩ = some (.slice p1 a1.length c1) := by rw [hw0]; simp [go_sem]
  have hc1 : w0.cell? ⟨w.heap.size, 1, none⟩ = some (.slice p2 a2.length c2) := by rw [hw0]; simp [go_sem]
  have hR : w0.heap[w.heap.size + 1]? = some (.cells #[.slice none 0 0, .slice none 0 0] 33 (0, 0)) := by
    rw [hw0]
    exact heap_at (by simp)
  have hW : Below w.heap.size w w0 := by rw [hw0]; exact ba (below_alloc _ _) _
  have HW0 := Lib.hid (And.intro hw0 (And.intro (And.intro hc0 hc1) (And.intro hR hW)))
  have HEND : ∀ (W : World), W.heap[w.heap.size + 1]? = some (.cells #[.slice none 0 0, .slice none 0 0] 33 (0, 0)) → Below w.heap.size w W → ∃ (y1 y2 : Value) (b : Asn) (ok : Bool), Ending.returned (.tuple #[.agg #[.slice none 0 0, .slice none 0 0], .bool false]) = .returned (.tuple #[.agg #[y1, y2], .bool ok]) ∧ asnB b = true ∧ FE ((W.setCell ⟨w.heap.size + 1, 0, none⟩ (.slice none 0 0)).setCell ⟨w.heap.size + 1, 1, none⟩ (.slice none 0 0)) w.heap.size y1 b.1 ∧ FE ((W.setCell ⟨w.heap.size + 1, 0, none⟩ (.slice none 0 0)).setCell ⟨w.heap.size + 1, 1, none⟩ (.slice none 0 0)) w.heap.size y2 b.2 ∧ Below w.heap.size w ((W.setCell ⟨w.heap.size + 1, 0, none⟩ (.slice none 0 0)).setCell ⟨w.heap.size + 1, 1, none⟩ (.slice none 0 0)) := fun W _ hb =>
    ⟨_, _, ([], []), false, rfl, by decide, FE.nil _ _ _, FE.nil _ _ _, (hb.setCell (by simp) _).setCell (by simp) _⟩
  have HEN := Lib.hid HEND
  clear hw0 hc0 hc1 hR hW HEND
  cases ha : asnB (a1, a2) with
  | false =>
    have HV := Lib.hid ha
    clear ha
    go_enter Try.func200, Try.ntmps200
    go_upto_region 1 with fail
    rw [← HW0.out.1]
    obtain ⟨⟨hc0, hc1⟩, hR, hW⟩ := HW0.out.2
    go_wp2_with fail
    refine (cb (asnValidS_any _ _ (a1, a2) _ (h1.keep hW) (h2.keep hW)) HV.out).mono ?_
    rintro e w1 ⟨rfl, hb⟩
    have hR1 := box_keep hR hb
    have r0 := box0 hR1
    have r1 := box1 hR1
    have rz := boxz hR1
    have rl := box_lt hR1
    have HRR := Lib.hid (And.intro hR1 (bt hW hb))
    clear hR1 hb hR hW hc0 hc1
    go_wp2
    refine bodyPost_ret (v := .tuple #[.agg #[.slice none 0 0, .slice none 0 0], .bool false]) (by simp [results, Try.results200, go_sem, r0, r1]) rfl ?_
    exact HEN.out _ HRR.out.1 HRR.out.2
  | true =>
    have hsz : a1.length ≤ 1048576 ∧ a2.length ≤ 1048576 := by
      have ha2 := ha
      simp only [asnB, factsB, Bool.and_eq_true, decide_eq_true_eq] at ha2
      omega
    have hl6 : a2.length ≤ 6 := (asn_all' ha).2
    have HV := Lib.hid (And.intro ha hsz)
    clear ha hsz
    go_enter Try.func200, Try.ntmps200
    go_upto_region 1 with fail
    rw [← HW0.out.1]
    obtain ⟨⟨hc0, hc1⟩, hR, hW⟩ := HW0.out.2
    go_wp2_with fail
    refine (cb (asnValidS_any _ _ (a1, a2) _ (h1.keep hW) (h2.keep hW)) HV.out.1).mono ?_
    rintro e w1 ⟨rfl, hb⟩
    replace hc0 := cell_keep hb hc0
    replace hc1 := cell_keep hb hc1
    replace hR := box_keep hR hb
    replace hW := bt hW hb
    clear hb HW0
    have H0 := Lib.hid (And.intro (And.intro hc0 hc1) (And.intro hR hW))
    go_wp2
    go_loopg [4, 5, 6] a2.length (fun q i kk pp wr => ∃ k : Nat, k + q = a2.length ∧ i = .int .i64 k ∧ ((wr.cell? ⟨w.heap.size, 0, none⟩ = some (.slice p1 a1.length c1) ∧ wr.cell? ⟨w.heap.size, 1, none⟩ = some (.slice p2 a2.length c2)) ∧ wr.heap[w.heap.size + 1]? = some (.cells #[.slice none 0 0, .slice none 0 0] 33 (0, 0)) ∧ Below w.heap.size w wr))
    case atStart => exact ⟨0, by omega, rfl, H0.out⟩
    case round =>
      clear hc0 hc1 hR hW H0
      obtain ⟨i, hi, rfl, ⟨hc0, hc1⟩, hR, hW⟩ := hrel
      have HI := Lib.hid hi
      clear hi
      have zb := World.block_lt_of_cell? wr _ hc0
      simp only at zb
      by_cases hi8 : i < a2.length
      · have hii : (i : Int) < (a2.length : Int) := by omega
        obtain ⟨gO, hgO⟩ : ∃ g, g = gk := ⟨_, rfl⟩
        have HGO := Lib.hid hgO
        clear hgO
        have H1 := Lib.hid (And.intro (And.intro hc0 hc1) (And.intro hR hW))
        go_wp2
        go_loopg [5, 6] a2.length (fun q kk pp wr => ∃ k : Nat, k + q = a2.length ∧ kk = .int .i64 k ∧ ((wr.cell? ⟨w.heap.size, 0, none⟩ = some (.slice p1 a1.length c1) ∧ wr.cell? ⟨w.heap.size, 1, none⟩ = some (.slice p2 a2.length c2)) ∧ wr.heap[w.heap.size + 1]? = some (.cells #[.slice none 0 0, .slice none 0 0] 33 (0, 0)) ∧ Below w.heap.size w wr))
        case atStart => exact ⟨0, by omega, rfl, H1.out⟩
        case round =>
          clear hc0 hc1 hR hW H1
          obtain ⟨k, hk, rfl, ⟨hc0, hc1⟩, hR, hW⟩ := hrel
          have HK := Lib.hid hk
          clear hk
          have zb := World.block_lt_of_cell? wr _ hc0
          simp only at zb
          by_cases hk8 : k < a2.length
          · have hki : (k : Int) < (a2.length : Int) := by omega
            obtain ⟨q2a, q2c, hqe, _, _, hqf⟩ := (h2.keep hW).atomAt
            simp only [Value.slice.injEq] at hqe
            obtain ⟨rfl, _, rfl⟩ := hqe
            obtain ⟨b1, o1, rfl, _, hz1, hp1, hp2, hp3⟩ := hqf i hi8
            obtain ⟨b2, o2, hbe, _, hz2, hq1, hq2, hq3⟩ := hqf k hk8
            simp only [Option.some.injEq, Addr.mk.injEq, and_true] at hbe
            obtain ⟨rfl, rfl⟩ := hbe
            obtain ⟨X, hX⟩ : ∃ X, gd a2 i = X := ⟨_, rfl⟩
            obtain ⟨Y, hY⟩ : ∃ Y, gd a2 k = Y := ⟨_, rfl⟩
            rw [hX] at hp1 hp2 hp3
            rw [hY] at hq1 hq2 hq3
            have HB := Lib.hid (And.intro (And.intro hc0 hc1) (And.intro hR hW))
            clear hqf hX hY
            have hcase : ((i : Int) == (k : Int)) = true ∨ (((i : Int) == (k : Int)) = false ∧ (X.2.2 != Y.2.1) = true) ∨ (((i : Int) == (k : Int)) = false ∧ (X.2.2 != Y.2.1) = false) := by
              cases ((i : Int) == (k : Int)) <;> cases (X.2.2 != Y.2.1) <;> simp
            rcases hcase with e1 | ⟨e1, e2⟩ | ⟨e1, e2⟩
            · go_wp2
              refine wp_region_ext (by kernel_rfl) (by kernel_rfl) ?_
              repeat (go_big_quiet_step ((fail)))
              refine wpQuiet_nil ?_
              intro w5 hb5
              go_wp2
              go_roundg (gk - 1)
              case rel => exact ⟨k + 1, by have := HK.out; omega, by go_num, ⟨cell_keep hb5 HB.out.1.1, cell_keep hb5 HB.out.1.2⟩, box_keep HB.out.2.1 hb5, bt HB.out.2.2 hb5⟩
              case measure => have := HK.out; omega
            · go_wp2
              refine wp_region_ext (by kernel_rfl) (by kernel_rfl) ?_
              repeat (go_big_quiet_step ((fail)))
              refine wpQuiet_nil ?_
              intro w5 hb5
              go_wp2
              go_roundg (gk - 1)
              case rel => exact ⟨k + 1, by have := HK.out; omega, by go_num, ⟨cell_keep hb5 HB.out.1.1, cell_keep hb5 HB.out.1.2⟩, box_keep HB.out.2.1 hb5, bt HB.out.2.2 hb5⟩
              case measure => have := HK.out; omega
            · go_wp2
              refine wp_region_ext (by kernel_rfl) (by kernel_rfl) ?_
              repeat (go_big_quiet_step ((fail)))
              refine wpQuiet_nil ?_
              intro w5 hb5
              have hc0 := cell_keep hb5 HB.out.1.1
              have hc1 := cell_keep hb5 HB.out.1.2
              replace hp1 := cell_keep hb5 hp1; replace hp2 := cell_keep hb5 hp2; replace hp3 := cell_keep hb5 hp3
              replace hq1 := cell_keep hb5 hq1; replace hq2 := cell_keep hb5 hq2; replace hq3 := cell_keep hb5 hq3
              have hR5 := box_keep HB.out.2.1 hb5
              have hW5 := bt HB.out.2.2 hb5
              have hz5 := hb5.size
              have zb5 := World.block_lt_of_cell? w5 _ hc0
              simp only at zb5
              have h15 := h1.keep hW5
              have h25 := h2.keep hW5
              have HB5 := Lib.hid (And.intro hR5 hW5)
              clear hR5 hW5 hb5 HB
              go_upto_region 10 with fail
              go_cut [6] from 43 to 63 (fun pp wc => ∃ (g : Nat) (y1 y2 : Value) (b : Asn), pp = .pointer (some ⟨g, 0, none⟩) ∧ (wc.cell? ⟨g, 0, none⟩ = some y1 ∧ wc.cell? ⟨g, 1, none⟩ = some y2) ∧ (FE wc w5.heap.size y1 b.1 ∧ FE wc w5.heap.size y2 b.2) ∧ Below w5.heap.size w5 wc)
              case first =>
                go_region_held3 (fun w' => (w'.cell? ⟨w.heap.size, 0, none⟩ = some (.slice p1 a1.length c1) ∧ w'.cell? ⟨w.heap.size, 1, none⟩ = some (.slice (some ⟨b1, o1, none⟩) a2.length c2)) ∧ (w'.cell? ⟨b1, o1 + i * 3 + 1, none⟩ = some (.int .i64 X.2.1) ∧ w'.cell? ⟨b1, o1 + k * 3 + 2, none⟩ = some (.int .i64 Y.2.2)))
                  (exact ⟨⟨cell_keep Bl hc0, cell_keep Bl hc1⟩, cell_keep Bl hp2, cell_keep Bl hq3⟩)
                  (first
                    | (go_at_call 238; go_must (refine (l6Without_any _ _ (a1, a2) _ _ 2 X.2.1 Y.2.2 _ (h15.keep Bl) (h25.keep Bl) HV.out.2.1 HV.out.2.2).mono ?_; rintro e w6 ⟨y1, y2, b, rfl, hbl, t1, t2, hb6'⟩; obtain ⟨za1, zn1, zc1, rfl⟩ := t1.forms; obtain ⟨za2, zn2, zc2, rfl⟩ := t2.forms; have hb6 : Below w5.heap.size w5 w6 := bt Bl hb6'; have hz6 := hb6.size; (first | (have hTT : w6.heap[w5.heap.size]? = some (.cells #[.slice none 0 0, .slice none 0 0] 33 (0, 0)) := box_keep (heap_alloc_new w5.drew _) hb6'; have ht0 := box0 hTT; have ht1 := box1 hTT; have htz := boxz hTT; have htl := box_lt hTT; have HTT := Lib.hid hTT; clear hTT) | skip); (try simp only [World.size_alloc, World.size_drew] at t1 t2); clear hb6'))
                    | fail)
                all_goals
                  have HQ := Lib.hid (And.intro (t1.mono (B' := w5.heap.size) (by omega)) (t2.mono (B' := w5.heap.size) (by omega)))
                  clear t1 t2
                  go_wp2
                  go_meet
                  case rel =>
                    obtain ⟨t1, t2⟩ := HQ.out
                    refine ⟨_, .slice za1 zn1 zc1, .slice za2 zn2 zc2, b, rfl, ⟨?_, ?_⟩, ⟨?_, ?_⟩, ?_⟩
                    · first | exact (box_two _ _ ht0 ht1).1 | (simp; done) | (simp [go_sem]; done)
                    · first | exact (box_two _ _ ht0 ht1).2 | (simp; done) | (simp [go_sem]; done)
                    · first | exact t1.set2 HTT.out (by decide) | exact t1.keep Bl
                    · first | exact t2.set2 HTT.out (by decide) | exact t2.keep Bl
                    · first | (with_reducible refine Below.setCell (Below.setCell hb6 ?_ _) ?_ _ <;> first | omega | (simp; done) | (simp; omega)) | exact bt hb6 Bl
              case rest =>
                obtain ⟨gx, y1, y2, b, rfl, ⟨hx0, hx1⟩, ⟨f1, f2⟩, hb⟩ := hcut
                obtain ⟨ya1, yn1, yc1, rfl⟩ := f1.forms
                obtain ⟨ya2, yn2, yc2, rfl⟩ := f2.forms
                have hgx := World.block_lt_of_cell? wc _ hx0
                simp only at hgx
                replace hc0 := cell_keep hb hc0
                replace hc1 := cell_keep hb hc1
                have hRc := box_keep HB5.out.1 hb
                have hWc := bt HB5.out.2 hb
                have hzc := hb.size
                have g1 := h1.keep hWc
                have g2 := h2.keep hWc
                have HF := Lib.hid (And.intro f1 f2)
                have HBC := Lib.hid (And.intro hRc hWc)
                have r1 := f1.rl
                have r2 := f2.rl
                clear hb hRc hWc f1 f2 hp1 hp2 hp3 hq1 hq2 hq3 h15 h25 HB5
                cases hen : entB (a1, (a2 : List Atom)) b with
                | false =>
                  have HEN2 := Lib.hid hen
                  clear hen
                  go_wp2_with fail
                  refine (cb (entailsS_any _ _ _ _ (a1, a2) b _ g1 g2 r1 r2) HEN2.out).mono ?_
                  rintro e w8 ⟨rfl, hb8⟩
                  have HB8 := Lib.hid (And.intro (And.intro (cell_keep hb8 hc0) (cell_keep hb8 hc1)) (And.intro (box_keep HBC.out.1 hb8) (bt HBC.out.2 hb8)))
                  clear hb8 hc0 hc1 hx0 hx1 g1 g2 r1 r2
                  go_wp2
                  go_roundg (gk - 1)
                  case rel => exact ⟨k + 1, by have := HK.out; omega, by go_num, HB8.out.1, HB8.out.2.1, HB8.out.2.2⟩
                  case measure => have := HK.out; omega
                | true =>
                  have HEN2 := Lib.hid (And.intro hen (ent_valid hen).2)
                  clear hen
                  go_wp2_with fail
                  refine (cb (entailsS_any _ _ _ _ (a1, a2) b _ g1 g2 r1 r2) HEN2.out.1).mono ?_
                  rintro e w8 ⟨rfl, hb8⟩
                  have hR8 := box_keep HBC.out.1 hb8
                  have r0 := box0 hR8
                  have r1' := box1 hR8
                  have rz := boxz hR8
                  have rl := box_lt hR8
                  replace hx0 := cell_keep hb8 hx0
                  replace hx1 := cell_keep hb8 hx1
                  have hg8 := World.block_lt_of_cell? w8 _ hx0
                  simp only at hg8
                  have rr := box_two (.slice ya1 yn1 yc1) (.slice ya2 yn2 yc2) r0 r1'
                  have HO := Lib.hid (And.intro ((HF.out.1.keep hb8).set2 (x := .slice ya1 yn1 yc1) (y := .slice ya2 yn2 yc2) hR8 (by decide)) (And.intro ((HF.out.2.keep hb8).set2 (x := .slice ya1 yn1 yc1) (y := .slice ya2 yn2 yc2) hR8 (by decide)) (((bt HBC.out.2 hb8).setCell (p := ⟨w.heap.size + 1, 0, none⟩) (by simp) (.slice ya1 yn1 yc1)).setCell (p := ⟨w.heap.size + 1, 1, none⟩) (by simp) (.slice ya2 yn2 yc2))))
                  clear hb8 hR8 hc0 hc1 g1 g2 r1 r2
                  go_wp2
                  refine bodyPost_ret (v := .tuple #[.agg #[.slice ya1 yn1 yc1, .slice ya2 yn2 yc2], .bool true]) (by simp [results, Try.results200, go_sem, rr.1, rr.2]) rfl ?_
                  exact ⟨_, _, b, true, rfl, HEN2.out.2, HO.out.1.mono (by omega), HO.out.2.1.mono (by omega), HO.out.2.2⟩
          · obtain rfl : k = a2.length := by have := HK.out; omega
            go_wp2
            go_roundg (gO - 1)
            case rel => exact ⟨i + 1, by have := HI.out; have := HGO.out; omega, by go_num, ⟨hc0, hc1⟩, hR, hW⟩
            case measure => have := HI.out; have := HGO.out; omega
      · obtain rfl : i = a2.length := by have := HI.out; omega
        have r0 := box0 hR
        have r1 := box1 hR
        have rz := boxz hR
        have rl := box_lt hR
        have HRR := Lib.hid (And.intro hR hW)
        clear hR hW
        go_wp2
        refine bodyPost_ret (v := .tuple #[.agg #[.slice none 0 0, .slice none 0 0], .bool false]) (by simp [results, Try.results200, go_sem, r0, r1]) rfl ?_
        exact HEN.out _ HRR.out.1 HRR.out.2
end Go.Proofs.Ytapoillhgimdiaa
