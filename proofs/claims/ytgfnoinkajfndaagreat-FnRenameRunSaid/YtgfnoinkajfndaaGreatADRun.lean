/- Walks: drawn names. -/
import Derived.Test.YtgfnoinkajfndaaGreatADraw2
import Derived.Test.YtgfnoinkajfndaaGreatAHRen
import Derived.Test.YtgfnoinkajfndaaGreatAMu8
import Derived.Handy
import Derived.Deep.DeepMust
namespace Go.Proofs.YtgfnoinkajfndaaGreat
open Go.RowKit

set_option maxHeartbeats 1600000 in
theorem l15Perm_any (g q : Nat) (w : World) (hr : Rdr w g q) (hq : q ≤ 100000) :
    Calls Tryz.prog 24 #[.pointer (some ⟨g, 0, none⟩)] w fun e w' => ∃ l, e = .returned (.slice (some ⟨w.heap.size, 0, none⟩) 8 8) ∧ l.length = 8 ∧ w'.heap[w.heap.size]? = some (.cells (iarr l) 3 (0, 0)) ∧ Rdr w' g (q + 10) ∧ Fr (fun j => j = g) w w' := by
  have hgw := hr.lt
  go_enter Tryz.func24, Tryz.ntmps24
  go_wp2
  go_loopg [4] 4 (fun q' i wr => ∃ (k : Nat) (l : List Int), k + q' = 4 ∧ i = .int .i64 k ∧ l.length = 8 ∧ wr.heap[w.heap.size]? = some (.cells (iarr l) 3 (0, 0)) ∧ Rdr wr g (q + 2 * k) ∧ Fr (fun j => j = g) w wr)
  case atStart => exact ⟨0, [1, 2, 3, 4, 5, 6, 7, 8], by omega, rfl, rfl, heap_alloc_new _ _, hr.keep (below_alloc _ _), (Below.fr (below_alloc _ _)).mono fun _ _ h => h.elim⟩
  case round =>
    obtain ⟨k, l, hk, rfl, hl, hrow, hrd, hf⟩ := hrel
    have HK := Lib.hid (And.intro hk hl)
    have HF := Lib.hid hf
    have hk4 : k ≤ 4 := by omega
    have hzr := box_lt hrow
    clear hk hl hf
    by_cases hk8 : k < 4
    · have hki : (k : Int) < 4 := by omega
      go_wp2_with fail
      refine (pick_any g (q + 2 * k) 8 _ hrd (by omega) (by decide) (by decide)).mono ?_
      rintro e wa ⟨x, rfl, hx8, hra, hfa⟩
      have hrowa := box_kept hrow hfa (by omega)
      clear hrow hrd
      go_wp2_with fail
      refine (pick_any g (q + 2 * k + 1) 8 _ hra (by omega) (by decide) (by decide)).mono ?_
      rintro e wb ⟨y, rfl, hy8, hrb, hfb⟩
      have hrowb := box_kept hrowa hfb (by omega)
      have HFB := Lib.hid ((HF.out.trans hfa).trans hfb)
      have hsb := box_lt hrowb
      have hx := iarr_at hrowb x (by have := HK.out.2; omega)
      have hy := iarr_at hrowb y (by have := HK.out.2; omega)
      have hz := fun i => frozen_of_row wb w.heap.size i _ _ hrowb
      have HR := Lib.hid (And.intro hrowb hrb)
      have hx8' : x < 8 := by omega
      have hy8' : y < 8 := by omega
      clear hrowa hra hfa hfb hrb hrowb
      by_cases hxy : x = y
      · subst hxy
        go_wp2
        go_roundg (gk - 1)
        case rel =>
          refine ⟨k + 1, (l.set x (gi l x)).set x (gi l x), by have := HK.out; omega, by go_num, by have := HK.out; simp; omega, ?_, ?_, ?_⟩
          · exact iarr_set (iarr_set HR.out.1 _ _) _ _
          · exact ((HR.out.2.kept (fr_set _ _ _) (fun j h1 e => by simp at e; omega)).kept (fr_set _ _ _) (fun j h1 e => by simp at e; omega)).more (by omega)
          · exact (HFB.out.then (fr_set _ _ _) (fun i hi e => by simp at e; omega)).then (fr_set _ _ _) (fun i hi e => by simp at e; omega)
        case measure => have := HK.out; omega
      · go_wp2
        go_roundg (gk - 1)
        case rel =>
          refine ⟨k + 1, (l.set x (gi l y)).set y (gi l x), by have := HK.out; omega, by go_num, by have := HK.out; simp; omega, ?_, ?_, ?_⟩
          · exact iarr_set (iarr_set HR.out.1 _ _) _ _
          · exact ((HR.out.2.kept (fr_set _ _ _) (fun j h1 e => by simp at e; omega)).kept (fr_set _ _ _) (fun j h1 e => by simp at e; omega)).more (by omega)
          · exact (HFB.out.then (fr_set _ _ _) (fun i hi e => by simp at e; omega)).then (fr_set _ _ _) (fun i hi e => by simp at e; omega)
        case measure => have := HK.out; omega
    · obtain rfl : k = 4 := by omega
      go_wp2_with fail
      refine (pick_any g (q + 2 * 4) 20 _ hrd (by omega) (by decide) (by decide)).mono ?_
      rintro e wa ⟨x, rfl, hx8, hra, hfa⟩
      have hrowa := box_kept hrow hfa (by omega)
      have HFA := Lib.hid (HF.out.trans hfa)
      have hza := box_lt hrowa
      clear hrow hrd hfa
      by_cases hx1 : x = 0
      · subst hx1
        have hlit := lit_ints wa [0, 9, 2] (by decide)
        have hl0 : (0 : Int) < 8 := by decide
        go_wp2_with fail
        refine (num_any g (q + 2 * 4 + 1) _ [0, 9, 2] _ (hra.keep (below_alloc _ _)) hlit (by omega) (by decide) (by decide) (fun k hk e => by simp [Value.ownBlock] at hk; have := hra.lt; omega)).mono ?_
        rintro e wb ⟨y, _, rfl, hrb, hfb⟩
        have hrowb := box_kept (box_keep hrowa (below_alloc wa _)) hfb (by omega)
        have hck := iarr_at hrowb 0 (by have := HK.out.2; omega)
        have hfz := frozen_of_row wb w.heap.size 0 _ _ hrowb
        have HFB := Lib.hid ((HFA.out.trans ((Below.fr (below_alloc wa _)).mono fun _ _ h => h.elim)).trans hfb)
        have hsb := box_lt hrowb
        have HR := Lib.hid (And.intro hrowb hrb)
        clear hrowa hra hrb hfb hrowb hlit
        go_wp2
        go_ret
        refine ⟨l.set 0 y, rfl, by rw [List.length_set]; exact HK.out.2, iarr_set HR.out.1 _ _, ?_, ?_⟩
        · exact (HR.out.2.kept (fr_set _ _ _) (fun j h1 e => by simp at e; omega)).more (by omega)
        · exact HFB.out.then (fr_set _ _ _) (fun i hi e => by simp at e; omega)
      · have hxb : ((x : Int) == 0) = false := by rw [beq_eq_false_iff_ne]; omega
        go_wp2
        go_ret
        exact ⟨l, rfl, HK.out.2, hrowa, hra.more (by omega), HFA.out⟩
set_option maxHeartbeats 3200000 in
theorem specDrawRenameState_any (v : Value) (n : Nat) (w : World) (h : RBytes w v n) :
    Calls Tryz.prog 6 #[v] w fun e w' => ∃ u1 u2 l1 l2 b l, e = .returned (.tuple #[.agg #[u1, u2], .slice (some ⟨b, 0, none⟩) 8 8]) ∧ l1.length ≤ 9 ∧ l2.length ≤ 9 ∧ l.length = 8 ∧ RInts w' u1 l1 ∧ RInts w' u2 l2 ∧ RInts w' (.slice (some ⟨b, 0, none⟩) 8 8) l ∧ Below w.heap.size w w' := by
  go_enter Tryz.func6, Tryz.ntmps6
  go_wp2_with fail
  refine (l18Open_any v n _ (h.keep (below_alloc _ _))).mono ?_
  rintro e w1 ⟨rfl, hr1, hb1⟩
  simp only [World.size_alloc] at hr1
  have hA := box_keep (heap_alloc_new w (.cells #[.slice none 0 0, .slice none 0 0] 25)) hb1
  have HF1 := Lib.hid (((Below.fr (bt (below_alloc w _) hb1)).mono (S' := fun k => k = w.heap.size + 1) fun _ _ h => h.elim))
  have hg1 := hr1.lt
  clear hb1
  simp only [World.size_alloc]
  go_wp2_with fail
  refine (l15State_any _ _ _ hr1 (by omega)).mono ?_
  rintro e w2 ⟨v1, v2, l1, l2, rfl, hl1, hl2, hst2, hr2, hf2⟩
  have hz2 := hf2.size
  have hA2 := box_kept hA hf2 (by omega)
  clear hA hr1
  go_wp2_with fail
  refine (l2Mutate_any _ _ _ _ l1 l2 _ hr2 (by omega) (own_ints hst2.one).1 (own_ints hst2.two).1 hl1 hl2).mono ?_
  rintro e w3 ⟨u1, u2, m1, m2, rfl, hm1, hm2, hst3, hr3, hf3⟩
  have hz3 := hf3.size
  have hA3 := box_kept hA2 hf3 (by omega)
  clear hA2 hr2 hst2 hl1 hl2
  obtain ⟨a1, c1, rfl⟩ := (own_ints hst3.one).1.form
  obtain ⟨a2, c2, rfl⟩ := (own_ints hst3.two).1.form
  have HST := Lib.hid hst3
  have HA := Lib.hid hA3
  have HR := Lib.hid hr3
  have HF2 := Lib.hid hf2
  have HF3 := Lib.hid hf3
  have HM1 := Lib.hid hm1
  have HM2 := Lib.hid hm2
  clear hst3 hA3 hr3 hf2 hf3 hm1 hm2
  go_wp2
  have hc0 : (w3.alloc (.cells #[.slice a1 m1.length c1, .slice a2 m2.length c2] 25)).cell? ⟨w3.heap.size, 0, none⟩ = some (.slice a1 m1.length c1) := by simp
  have hc1 : (w3.alloc (.cells #[.slice a1 m1.length c1, .slice a2 m2.length c2] 25)).cell? ⟨w3.heap.size, 1, none⟩ = some (.slice a2 m2.length c2) := by simp
  generalize hW : w3.alloc (.cells #[.slice a1 m1.length c1, .slice a2 m2.length c2] 25) = W at *
  have hb3W : Below w3.heap.size w3 W := by rw [← hW]; exact below_alloc _ _
  have hzW : w3.heap.size < W.heap.size := by rw [← hW]; simp
  clear hW
  have hAW := box_keep HA.out hb3W
  have hrW := HR.out.keep hb3W
  go_region_held3 (fun w' => (w'.cell? ⟨w3.heap.size, 0, none⟩ = some (.slice a1 m1.length c1) ∧ w'.cell? ⟨w3.heap.size, 1, none⟩ = some (.slice a2 m2.length c2)))
    (first
      | exact ⟨hc0, hc1⟩
      | exact ⟨cell_keep (below_drew _) hc0, cell_keep (below_drew _) hc1⟩
      | exact ⟨hd0, hd1⟩
      | exact ⟨(fr_set _ _ _).cell (by simp; omega) ((fr_set _ _ _).cell (by simp; omega) hd0), (fr_set _ _ _).cell (by simp; omega) ((fr_set _ _ _).cell (by simp; omega) hd1)⟩
      | exact ⟨(fr_set _ _ _).cell (by simp; omega) ((fr_set _ _ _).cell (by simp; omega) hc0), (fr_set _ _ _).cell (by simp; omega) ((fr_set _ _ _).cell (by simp; omega) hc1)⟩)
    ((go_at_call 24; go_must (refine (l15Perm_any (w.heap.size + 1) _ _ (by first | exact hrW | exact hrW.keep (below_drew _)) (by omega)).mono ?_; rintro e w6 ⟨l, rfl, hl, hrow, hr6, hf6⟩; have hf6' : Fr (fun j => j = w.heap.size + 1) W w6 := (by first | exact hf6 | exact ((Below.fr (below_drew _)).mono fun _ _ h => h.elim).trans hf6); have hd0 := hf6'.cell (by simp; omega) hc0; have hd1 := hf6'.cell (by simp; omega) hc1; have hA6 := box_kept hAW hf6' (by omega); have ha0 := box0 hA6; have ha1 := box1 hA6; have haz := boxz hA6 0; have haz1 := boxz hA6 1; have hlt6 := box_lt hrow; have hszW := hf6'.size)))
  all_goals
    have HL := Lib.hid hl
    have HROW := Lib.hid hrow
    have HF6 := Lib.hid hf6'
    clear hA6 hf6 hf6' hr6 hl hrow
    go_wp2
    have r := box_two (.slice a1 m1.length c1) (.slice a2 m2.length c2) ha0 ha1
    refine bodyPost_ret (v := .tuple #[.agg #[.slice a1 m1.length c1, .slice a2 m2.length c2], .slice (some ⟨W.heap.size, 0, none⟩) 8 8]) (by simp [results, Tryz.results6, go_sem, r.1, r.2]) rfl ?_
    have hO : OwnSt ((w6.setCell ⟨w.heap.size, 0, none⟩ (.slice a1 m1.length c1)).setCell ⟨w.heap.size, 1, none⟩ (.slice a2 m2.length c2)) w.heap.size (.slice a1 m1.length c1) (.slice a2 m2.length c2) m1 m2 :=
      (((((HST.out.keep hb3W).kept HF6.out (fun k h1 _ e => by omega)).kept (fr_set _ _ _) (fun k h1 _ e => by simp at e; omega)).kept (fr_set _ _ _) (fun k h1 _ e => by simp at e; omega))).mono (by omega)
    have hP : RInts ((w6.setCell ⟨w.heap.size, 0, none⟩ (.slice a1 m1.length c1)).setCell ⟨w.heap.size, 1, none⟩ (.slice a2 m2.length c2)) (.slice (some ⟨W.heap.size, 0, none⟩) 8 8) l := by
      have hq := (own_ints (l := l) (own_of_row (B := 0) (n := 8) (Nat.zero_le _) HL.out.symm (by unfold maxLen; omega) HROW.out)).1
      exact (RInts.kept hq (fr_set _ _ _) (fun k hk e => by simp [Value.ownBlock] at hk e; omega)).kept (fr_set _ _ _) (fun k hk e => by simp [Value.ownBlock] at hk e; omega)
    refine ⟨_, _, m1, m2, _, l, rfl, HM1.out, HM2.out, HL.out, ?_, ?_, ?_, ?_⟩
    · exact (own_ints hO.one).1
    · exact (own_ints hO.two).1
    · exact hP
    · exact ((((((HF1.out.trans HF2.out).trans HF3.out).thenB hb3W).trans HF6.out).then (fr_set _ _ _) (fun i hi e => by simp at e; omega)).then (fr_set _ _ _) (fun i hi e => by simp at e; omega)).below (Nat.le_refl _) (fun k hk e => by omega)
end Go.Proofs.YtgfnoinkajfndaaGreat
/- Walks: the arguments of runs are drawn (reference: DrawRunProgram). -/
set_option linter.unusedVariables false
set_option linter.unusedSimpArgs false
namespace Go.Proofs.YtgfnoinkajfndaaGreat
open Go.RowKit

set_option maxRecDepth 100000 in
set_option maxHeartbeats 6400000 in
theorem specDrawRun_any (v : Value) (n : Nat) (w : World) (h : RBytes w v n) :
    Calls Tryz.prog 5 #[v] w fun e w' => ∃ (u1 u2 : Value) (l1 l2 : List Int) (d : Nat) (vp : Value) (p : List (Cm d)) (f : Int), e = .returned (.tuple #[.agg #[u1, u2], vp, .int .i64 f]) ∧ (l1.length ≤ 9 ∧ l2.length ≤ 9) ∧ (RInts w' u1 l1 ∧ RInts w' u2 l2) ∧ (d ≤ 10 ∧ RL w' (fun k => w.heap.size ≤ k) vp p ∧ szC d p ≤ 1000000000000000000) ∧ (-1 ≤ f ∧ f ≤ 201) ∧ Below w.heap.size w w' := by
  go_enter Tryz.func5, Tryz.ntmps5
  go_wp2_with fail
  refine (l18Open_any v n _ (h.keep (below_alloc _ _))).mono ?_
  rintro e w1 ⟨rfl, hr1, hb1⟩
  simp only [World.size_alloc] at hr1
  have hA := box_keep (heap_alloc_new w (.cells #[.slice none 0 0, .slice none 0 0] 25)) hb1
  have HF1 := Lib.hid (((Below.fr (bt (below_alloc w _) hb1)).mono (S' := fun k => k = w.heap.size + 1) fun _ _ h => h.elim))
  have hg1 := hr1.lt
  clear hb1
  simp only [World.size_alloc]
  go_wp2_with fail
  refine (l9Lists_any _ _ _ hr1 (by omega)).mono ?_
  rintro e w2 ⟨v1, v2, l1, l2, rfl, hl1, hl2, hst2, hr2, hf2⟩
  have hz2 := hf2.size
  have hA2 := box_kept hA hf2 (by omega)
  clear hA hr1
  go_wp2_with fail
  refine (l2Mutate_any _ _ _ _ l1 l2 _ hr2 (by omega) (own_ints hst2.one).1 (own_ints hst2.two).1 hl1 hl2).mono ?_
  rintro e w3 ⟨u1, u2, m1, m2, rfl, hm1, hm2, hst3, hr3, hf3⟩
  have hz3 := hf3.size
  have hA3 := box_kept hA2 hf3 (by omega)
  clear hA2 hr2 hst2 hl1 hl2
  obtain ⟨a1, c1, rfl⟩ := (own_ints hst3.one).1.form
  obtain ⟨a2, c2, rfl⟩ := (own_ints hst3.two).1.form
  have HST := Lib.hid hst3
  have HF3 := Lib.hid ((HF1.out.trans hf2).trans hf3)
  have HM := Lib.hid (And.intro hm1 hm2)
  clear hst3 hf2 hf3 hm1 hm2
  have hbS := below_alloc w3 (.cells #[.slice a1 m1.length c1, .slice a2 m2.length c2] 25)
  have hS := heap_alloc_new w3 (.cells #[.slice a1 m1.length c1, .slice a2 m2.length c2] 25)
  have HBS := Lib.hid (And.intro (And.intro hbS hS) (And.intro (box_keep hA3 hbS) (hr3.keep hbS)))
  have hzS : (w3.alloc (.cells #[.slice a1 m1.length c1, .slice a2 m2.length c2] 25)).heap.size = w3.heap.size + 1 := by simp
  clear hbS hS hA3 hr3
  go_wp2_with fail
  refine (l9Code_any (w.heap.size + 1) _ _ HBS.out.2.2 (by omega)).mono ?_
  rintro e w4 ⟨d, vp, p, rfl, hd, hp, hfw, hr4, hf4⟩
  obtain ⟨pa, pc, rfl⟩ := hp.form
  have hz4 := hf4.size
  rw [hzS] at hz4 hp
  have hS4 := box_kept HBS.out.1.2 hf4 (by omega)
  have hA4 := box_kept HBS.out.2.1 hf4 (by omega)
  have HF4 := Lib.hid ((HF3.out.thenB HBS.out.1.1).trans hf4)
  have HST4 := Lib.hid ((HST.out.keep HBS.out.1.1).kept hf4 (fun k h1 _ e => by omega))
  have HP := Lib.hid (And.intro hp hfw)
  clear hf4 hp hfw
  go_wp2_with fail
  refine (l8Mutate_any (w.heap.size + 1) _ _ p _ hr4 (by omega) HP.out.1 HP.out.2).mono ?_
  rintro e w5 ⟨d', vm, pm, rfl, hd', hpm, hsz, hr5, hf5⟩
  obtain ⟨ma, mc, rfl⟩ := hpm.form
  have hz5 := hf5.size
  have hS5 := box_kept hS4 hf5 (by omega)
  have hA5 := box_kept hA4 hf5 (by omega)
  have HF5 := Lib.hid (HF4.out.trans hf5)
  have HST5 := Lib.hid (HST4.out.kept hf5 (fun k h1 _ e => by omega))
  have HPM := Lib.hid (And.intro (hpm.more (S' := fun k => w.heap.size + 2 ≤ k) fun k _ hk => by have h1 : w4.heap.size ≤ k := hk; omega) (show d' ≤ 10 ∧ szC d' pm ≤ 1000000000000000000 by have := few_size HP.out.2 hd; omega))
  clear hf5 hpm hsz hS4 hA4
  go_wp2
  have hc0 := cell_of_row _ _ 0 _ _ _ hS5
  have hc1 := cell_of_row _ _ 1 _ _ _ hS5
  have hzS5 := box_lt hS5
  go_region_held3 (fun w' => (w'.cell? ⟨w3.heap.size, 0, none⟩ = some (.slice a1 m1.length c1) ∧ w'.cell? ⟨w3.heap.size, 1, none⟩ = some (.slice a2 m2.length c2)))
    (first
      | exact ⟨hc0, hc1⟩
      | exact ⟨cell_keep (below_drew _) hc0, cell_keep (below_drew _) hc1⟩
      | exact ⟨hd0, hd1⟩
      | exact ⟨(fr_set _ _ _).cell (by simp; omega) ((fr_set _ _ _).cell (by simp; omega) hd0), (fr_set _ _ _).cell (by simp; omega) ((fr_set _ _ _).cell (by simp; omega) hd1)⟩
      | exact ⟨(fr_set _ _ _).cell (by simp; omega) ((fr_set _ _ _).cell (by simp; omega) hc0), (fr_set _ _ _).cell (by simp; omega) ((fr_set _ _ _).cell (by simp; omega) hc1)⟩)
    ((go_at_call 22; go_must (refine (l9Fuel_any (w.heap.size + 1) _ _ (by first | exact hr5 | exact hr5.keep (below_drew _)) (by omega)).mono ?_; rintro e w6 ⟨f, rfl, hfl, hr6, hf6⟩; have hf6' : Fr (fun j => j = w.heap.size + 1) w5 w6 := (by first | exact hf6 | exact ((Below.fr (below_drew _)).mono fun _ _ h => h.elim).trans hf6); have hd0 := hf6'.cell (by simp; omega) hc0; have hd1 := hf6'.cell (by simp; omega) hc1; have hA6 := box_kept hA5 hf6' (by omega); have ha0 := box0 hA6; have ha1 := box1 hA6; have haz := boxz hA6 0; have haz1 := boxz hA6 1; have hszW := hf6'.size)))
  all_goals
    have HL := Lib.hid hfl
    have HF6 := Lib.hid hf6'
    clear hA6 hf6 hf6' hr6 hfl
    go_wp2
    have r := box_two (.slice a1 m1.length c1) (.slice a2 m2.length c2) ha0 ha1
    refine bodyPost_ret (v := .tuple #[.agg #[.slice a1 m1.length c1, .slice a2 m2.length c2], .slice ma pm.length mc, .int .i64 f]) (by simp [results, Tryz.results5, go_sem, r.1, r.2]) rfl ?_
    have hFS : Fr (fun k => k = w.heap.size) w6 ((w6.setCell ⟨w.heap.size, 0, none⟩ (.slice a1 m1.length c1)).setCell ⟨w.heap.size, 1, none⟩ (.slice a2 m2.length c2)) := (fr_set w6 ⟨w.heap.size, 0, none⟩ (.slice a1 m1.length c1)).trans (fr_set _ ⟨w.heap.size, 1, none⟩ (.slice a2 m2.length c2))
    have hO := ((HST5.out.kept HF6.out (fun k h1 _ e => by omega)).kept hFS (fun k h1 _ e => by omega)).mono (B' := w.heap.size) (by omega)
    have hP := ((HPM.out.1.kept HF6.out (fun k _ h1 e => by omega)).kept hFS (fun k _ h1 e => by omega)).more (S' := fun k => w.heap.size ≤ k) (fun k _ h1 => by omega)
    exact ⟨_, _, m1, m2, d', _, pm, f, rfl, HM.out, ⟨(own_ints hO.one).1, (own_ints hO.two).1⟩, ⟨HPM.out.2.1, hP, HPM.out.2.2⟩, HL.out, ((HF5.out.trans HF6.out).then hFS (fun i hi e => by omega)).below (Nat.le_refl _) (fun k hk e => by omega)⟩
end Go.Proofs.YtgfnoinkajfndaaGreat
