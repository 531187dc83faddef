import Derived.Test.YtnhhfbhhglhocaaDr5
namespace Go.Proofs.Ytnhhfbhhglhocaa
open Go.RowKit

theorem RBytes.keep {w w' : World} {v : Value} {n : Nat} (h : RBytes w v n) (hb : Below w.heap.size w w') : RBytes w' v n := by
  obtain ⟨c, hr, hc⟩ := h
  exact ⟨c, hr.keep hb, hc⟩

set_option maxHeartbeats 1600000 in
theorem specDrawGarbageCells_any (v : Value) (n : Nat) (w : World) (h : RBytes w v n) :
    Calls Try.prog 65 #[v] w fun e w' => ∃ u1 u2 l1 l2, e = .returned (.agg #[u1, u2]) ∧ l1.length ≤ 9 ∧ l2.length ≤ 9 ∧ OwnSt w' w.heap.size u1 u2 l1 l2 ∧ Below w.heap.size w w' := by
  go_enter Try.func65, Try.ntmps65
  go_wp2_with fail
  refine (l18Open_any v n _ (h.keep (below_alloc _ _))).mono ?_
  rintro e w1 ⟨rfl, hr1, hb1⟩
  simp only [World.size_alloc] at hr1
  have hA := box_keep (heap_alloc_new w (.cells #[.slice none 0 0, .slice none 0 0] 34)) hb1
  have HF1 := Lib.hid (((Below.fr (bt (below_alloc w _) hb1)).mono (S' := fun k => k = w.heap.size + 1) fun _ _ h => h.elim))
  have hg1 := hr1.lt
  clear hb1
  simp only [World.size_alloc]
  go_wp2_with fail
  refine (l15State_any _ _ _ hr1 (by omega)).mono ?_
  rintro e w2 ⟨v1, v2, l1, l2, rfl, hl1, hl2, hst2, hr2, hf2⟩
  have hz2 := hf2.size
  have hA2 := box_kept hA hf2 (by omega)
  clear hA hr1
  go_wp2_with fail
  refine (l2Mutate_any _ _ _ _ l1 l2 _ hr2 (by omega) (own_ints hst2.one).1 (own_ints hst2.two).1 hl1 hl2).mono ?_
  rintro e w3 ⟨u1, u2, m1, m2, rfl, hm1, hm2, hst3, hr3, hf3⟩
  have hz3 := hf3.size
  have hA3 := box_kept hA2 hf3 (by omega)
  clear hA2 hr2 hst2 hl1 hl2
  obtain ⟨a1, c1, rfl⟩ := (own_ints hst3.one).1.form
  obtain ⟨a2, c2, rfl⟩ := (own_ints hst3.two).1.form
  have HST := Lib.hid hst3
  have HF2 := Lib.hid hf2
  have HF3 := Lib.hid hf3
  have HM1 := Lib.hid hm1
  have HM2 := Lib.hid hm2
  have ha0 := box0 hA3
  have ha1 := box1 hA3
  have haz := boxz hA3 0
  have haz1 := boxz hA3 1
  clear hst3 hA3 hr3 hf2 hf3 hm1 hm2
  go_wp2
  refine bodyPost_ret (v := .agg #[.slice a1 m1.length c1, .slice a2 m2.length c2]) (by simp [results, Try.results65, go_sem, ha0, ha1]) rfl ?_
  refine ⟨_, _, m1, m2, rfl, HM1.out, HM2.out, ?_, ?_⟩
  · exact ((HST.out.kept (fr_set _ _ _) (fun k h1 _ e => by simp at e; omega)).kept (fr_set _ _ _) (fun k h1 _ e => by simp at e; omega)).mono (by omega)
  · exact ((((HF1.out.trans HF2.out).trans HF3.out).then (fr_set _ _ _) (fun i hi e => by simp at e; omega)).then (fr_set _ _ _) (fun i hi e => by simp at e; omega)).below (Nat.le_refl _) (fun k hk e => by omega)
end Go.Proofs.Ytnhhfbhhglhocaa
