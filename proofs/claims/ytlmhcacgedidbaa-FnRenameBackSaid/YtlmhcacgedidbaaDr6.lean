import Derived.Test.YtlmhcacgedidbaaDr5
namespace Go.Proofs.Ytlmhcacgedidbaa
open Go.RowKit

theorem RBytes.keep {w w' : World} {v : Value} {n : Nat} (h : RBytes w v n) (hb : Below w.heap.size w w') : RBytes w' v n := by
  obtain ⟨c, hr, hc⟩ := h
  exact ⟨c, hr.keep hb, hc⟩

theorem l2Place_any (g q : Nat) (w : World) (hr : Rdr w g q) (hq : q ≤ 1000000) :
    Calls Try.prog 86 #[.pointer (some ⟨g, 0, none⟩)] w fun e w' => ∃ x : Int, e = .returned (.int .i64 x) ∧ -1 ≤ x ∧ x ≤ 9 ∧ Rdr w' g (q + 1) ∧ Fr (fun j => j = g) w w' := by
  have hgl := hr.lt
  go_enter Try.func86, Try.ntmps86
  go_wp2_with fail
  refine (num_any g q _ [1, 2, 3, 4, 0, 5, 8, 9, -1] _ (hr.keep (below_alloc _ _)) (lit_ints _ [1, 2, 3, 4, 0, 5, 8, 9, -1] (by decide)) (by omega) (by decide) (by decide) (fun k hk e => by simp [Value.ownBlock] at hk; omega)).mono ?_
  rintro e w2 ⟨x, hx, rfl, hr2, hf2⟩
  go_wp2
  refine bodyPost_ret (v := .int .i64 x) (by simp [results, Try.results86, go_sem]) rfl ?_
  refine ⟨x, rfl, ?_, ?_, hr2, ((Below.fr (below_alloc _ _)).mono fun _ _ h => h.elim).trans hf2⟩
  · simp at hx; omega
  · simp at hx; omega
set_option maxHeartbeats 1600000 in
theorem specDrawReadCell_any (v : Value) (n : Nat) (w : World) (h : RBytes w v n) :
    Calls Try.prog 67 #[v] w fun e w' => ∃ u1 u2 l1 l2 t, e = .returned (.tuple #[.agg #[u1, u2], .int .i64 t]) ∧ l1.length ≤ 9 ∧ l2.length ≤ 9 ∧ -1 ≤ t ∧ t ≤ 9 ∧ OwnSt w' w.heap.size u1 u2 l1 l2 ∧ Below w.heap.size w w' := by
  go_enter Try.func67, Try.ntmps67
  go_wp2_with fail
  refine (l18Open_any v n _ (h.keep (below_alloc _ _))).mono ?_
  rintro e w1 ⟨rfl, hr1, hb1⟩
  simp only [World.size_alloc] at hr1
  have hA := box_keep (heap_alloc_new w (.cells #[.slice none 0 0, .slice none 0 0] 27)) hb1
  have HF1 := Lib.hid (((Below.fr (bt (below_alloc w _) hb1)).mono (S' := fun k => k = w.heap.size + 1) fun _ _ h => h.elim))
  have hg1 := hr1.lt
  clear hb1
  simp only [World.size_alloc]
  go_wp2_with fail
  refine (l2Draw_any _ _ _ hr1 (by omega)).mono ?_
  rintro e w2 ⟨v1, v2, l1, l2, rfl, hl1, hl2, hst2, hr2, hf2⟩
  have hz2 := hf2.size
  have hA2 := box_kept hA hf2 (by omega)
  clear hA hr1
  go_wp2_with fail
  refine (l2Mutate_any _ _ _ _ l1 l2 _ hr2 (by omega) (own_ints hst2.one).1 (own_ints hst2.two).1 hl1 hl2).mono ?_
  rintro e w3 ⟨u1, u2, m1, m2, rfl, hm1, hm2, hst3, hr3, hf3⟩
  have hz3 := hf3.size
  have hA3 := box_kept hA2 hf3 (by omega)
  clear hA2 hr2 hst2 hl1 hl2
  obtain ⟨a1, c1, rfl⟩ := (own_ints hst3.one).1.form
  obtain ⟨a2, c2, rfl⟩ := (own_ints hst3.two).1.form
  have HST := Lib.hid hst3
  have HA := Lib.hid hA3
  have HR := Lib.hid hr3
  have HF2 := Lib.hid hf2
  have HF3 := Lib.hid hf3
  have HM1 := Lib.hid hm1
  have HM2 := Lib.hid hm2
  clear hst3 hA3 hr3 hf2 hf3 hm1 hm2
  go_wp2
  have hc0 : (w3.alloc (.cells #[.slice a1 m1.length c1, .slice a2 m2.length c2] 27)).cell? ⟨w3.heap.size, 0, none⟩ = some (.slice a1 m1.length c1) := by simp
  have hc1 : (w3.alloc (.cells #[.slice a1 m1.length c1, .slice a2 m2.length c2] 27)).cell? ⟨w3.heap.size, 1, none⟩ = some (.slice a2 m2.length c2) := by simp
  go_region_held3 (fun w' => w'.cell? ⟨w3.heap.size, 0, none⟩ = some (.slice a1 m1.length c1) ∧ w'.cell? ⟨w3.heap.size, 1, none⟩ = some (.slice a2 m2.length c2))
    (first
      | exact ⟨hc0, hc1⟩
      | exact ⟨cell_keep (below_drew _) hc0, cell_keep (below_drew _) hc1⟩
      | exact ⟨hd0, hd1⟩
      | exact ⟨(fr_set _ _ _).cell (by simp; omega) ((fr_set _ _ _).cell (by simp; omega) hd0), (fr_set _ _ _).cell (by simp; omega) ((fr_set _ _ _).cell (by simp; omega) hd1)⟩)
    (first
      | (go_at_call 86; refine (l2Place_any (w.heap.size + 1) _ _ (HR.out.keep (bt (below_alloc _ _) (below_drew _))) (by omega)).mono ?_; rintro e w6 ⟨x, rfl, hx1, hx2, hr6, hf6⟩; have hd0 := hf6.cell (by simp; omega) (cell_keep (below_drew _) hc0); have hd1 := hf6.cell (by simp; omega) (cell_keep (below_drew _) hc1); have hA6 := box_kept (box_keep HA.out (bt (below_alloc _ _) (below_drew _))) hf6 (by omega); have ha0 := box0 hA6; have ha1 := box1 hA6; have haz := boxz hA6 0; have haz1 := boxz hA6 1; have HST6 := Lib.hid ((HST.out.keep (bt (below_alloc _ _) (below_drew _))).kept hf6 (fun k h1 _ e => by omega)); have HF6 := Lib.hid ((((HF1.out.trans HF2.out).trans HF3.out).thenB (bt (below_alloc _ _) (below_drew _))).trans hf6))
      | (go_at_call 86; refine (l2Place_any (w.heap.size + 1) _ _ (HR.out.keep (below_alloc _ _)) (by omega)).mono ?_; rintro e w6 ⟨x, rfl, hx1, hx2, hr6, hf6⟩; have hd0 := hf6.cell (by simp; omega) hc0; have hd1 := hf6.cell (by simp; omega) hc1; have hA6 := box_kept (box_keep HA.out (below_alloc _ _)) hf6 (by omega); have ha0 := box0 hA6; have ha1 := box1 hA6; have haz := boxz hA6 0; have haz1 := boxz hA6 1; have HST6 := Lib.hid ((HST.out.keep (below_alloc _ _)).kept hf6 (fun k h1 _ e => by omega)); have HF6 := Lib.hid ((((HF1.out.trans HF2.out).trans HF3.out).thenB (below_alloc _ _)).trans hf6)))
  all_goals
    clear hA6 hf6
    go_wp2
    refine bodyPost_ret (v := .tuple #[.agg #[.slice a1 m1.length c1, .slice a2 m2.length c2], .int .i64 x]) (by simp [results, Try.results67, go_sem, ha0, ha1]) rfl ?_
    refine ⟨_, _, m1, m2, x, rfl, HM1.out, HM2.out, hx1, hx2, ?_, ?_⟩
    · exact ((HST6.out.kept (fr_set _ _ _) (fun k h1 _ e => by simp at e; omega)).kept (fr_set _ _ _) (fun k h1 _ e => by simp at e; omega)).mono (by omega)
    · exact ((HF6.out.then (fr_set _ _ _) (fun i hi e => by simp at e; omega)).then (fr_set _ _ _) (fun i hi e => by simp at e; omega)).below (Nat.le_refl _) (fun k hk e => by omega)
set_option maxHeartbeats 1600000 in
theorem specDrawGarbageCells_any (v : Value) (n : Nat) (w : World) (h : RBytes w v n) :
    Calls Try.prog 40 #[v] w fun e w' => ∃ u1 u2 l1 l2, e = .returned (.agg #[u1, u2]) ∧ l1.length ≤ 9 ∧ l2.length ≤ 9 ∧ OwnSt w' w.heap.size u1 u2 l1 l2 ∧ Below w.heap.size w w' := by
  go_enter Try.func40, Try.ntmps40
  go_wp2_with fail
  refine (l18Open_any v n _ (h.keep (below_alloc _ _))).mono ?_
  rintro e w1 ⟨rfl, hr1, hb1⟩
  simp only [World.size_alloc] at hr1
  have hA := box_keep (heap_alloc_new w (.cells #[.slice none 0 0, .slice none 0 0] 27)) hb1
  have HF1 := Lib.hid (((Below.fr (bt (below_alloc w _) hb1)).mono (S' := fun k => k = w.heap.size + 1) fun _ _ h => h.elim))
  have hg1 := hr1.lt
  clear hb1
  simp only [World.size_alloc]
  go_wp2_with fail
  refine (l15State_any _ _ _ hr1 (by omega)).mono ?_
  rintro e w2 ⟨v1, v2, l1, l2, rfl, hl1, hl2, hst2, hr2, hf2⟩
  have hz2 := hf2.size
  have hA2 := box_kept hA hf2 (by omega)
  clear hA hr1
  go_wp2_with fail
  refine (l2Mutate_any _ _ _ _ l1 l2 _ hr2 (by omega) (own_ints hst2.one).1 (own_ints hst2.two).1 hl1 hl2).mono ?_
  rintro e w3 ⟨u1, u2, m1, m2, rfl, hm1, hm2, hst3, hr3, hf3⟩
  have hz3 := hf3.size
  have hA3 := box_kept hA2 hf3 (by omega)
  clear hA2 hr2 hst2 hl1 hl2
  obtain ⟨a1, c1, rfl⟩ := (own_ints hst3.one).1.form
  obtain ⟨a2, c2, rfl⟩ := (own_ints hst3.two).1.form
  have HST := Lib.hid hst3
  have HF2 := Lib.hid hf2
  have HF3 := Lib.hid hf3
  have HM1 := Lib.hid hm1
  have HM2 := Lib.hid hm2
  have ha0 := box0 hA3
  have ha1 := box1 hA3
  have haz := boxz hA3 0
  have haz1 := boxz hA3 1
  clear hst3 hA3 hr3 hf2 hf3 hm1 hm2
  go_wp2
  refine bodyPost_ret (v := .agg #[.slice a1 m1.length c1, .slice a2 m2.length c2]) (by simp [results, Try.results40, go_sem, ha0, ha1]) rfl ?_
  refine ⟨_, _, m1, m2, rfl, HM1.out, HM2.out, ?_, ?_⟩
  · exact ((HST.out.kept (fr_set _ _ _) (fun k h1 _ e => by simp at e; omega)).kept (fr_set _ _ _) (fun k h1 _ e => by simp at e; omega)).mono (by omega)
  · exact ((((HF1.out.trans HF2.out).trans HF3.out).then (fr_set _ _ _) (fun i hi e => by simp at e; omega)).then (fr_set _ _ _) (fun i hi e => by simp at e; omega)).below (Nat.le_refl _) (fun k hk e => by omega)
end Go.Proofs.Ytlmhcacgedidbaa
