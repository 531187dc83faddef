/- Walks: draws that pass others on. -/
import Derived.Test.YtnhhfbhhglhocaaDr6
namespace Go.Proofs.Ytnhhfbhhglhocaa
open Go.RowKit

set_option maxHeartbeats 800000 in
theorem specDrawCanonState_any (v : Value) (n : Nat) (w : World) (h : RBytes w v n) :
    Calls Try.prog 23 #[v] w fun e w' => ∃ u1 u2 l1 l2, e = .returned (.agg #[u1, u2]) ∧ l1.length ≤ 9 ∧ l2.length ≤ 9 ∧ OwnSt w' w.heap.size u1 u2 l1 l2 ∧ Below w.heap.size w w' := by
  go_enter Try.func23, Try.ntmps23
  go_wp2_with fail
  refine (specDrawGarbageCells_any v n _ (h.keep (below_alloc _ _))).mono ?_
  rintro e w1 ⟨u1, u2, m1, m2, rfl, hm1, hm2, hst, hb⟩
  have hA := box_keep (heap_alloc_new w (.cells #[.slice none 0 0, .slice none 0 0] 34)) hb
  obtain ⟨a1, c1, rfl⟩ := (own_ints hst.one).1.form
  obtain ⟨a2, c2, rfl⟩ := (own_ints hst.two).1.form
  have ha0 := box0 hA
  have ha1 := box1 hA
  have haz := boxz hA 0
  have haz1 := boxz hA 1
  have HM := Lib.hid (And.intro hm1 hm2)
  have HST := Lib.hid hst
  clear hA hst hm1 hm2
  go_wp2
  refine bodyPost_ret (v := .agg #[.slice a1 m1.length c1, .slice a2 m2.length c2]) (by simp [results, Try.results23, go_sem, ha0, ha1]) rfl ?_
  refine ⟨_, _, m1, m2, rfl, HM.out.1, HM.out.2, ?_, ?_⟩
  · exact ((HST.out.kept (fr_set _ _ _) (fun k h1 _ e => by simp at e h1; omega)).kept (fr_set _ _ _) (fun k h1 _ e => by simp at e h1; omega)).mono (by simp)
  · exact ((((Below.fr (bt (below_alloc w _) hb)).mono (S' := fun k => w.heap.size ≤ k) fun _ _ h => h.elim).then (fr_set _ _ _) (fun i hi e => by simp at e; omega)).then (fr_set _ _ _) (fun i hi e => by simp at e; omega)).below (Nat.le_refl _) (fun k hk e => by omega)
end Go.Proofs.Ytnhhfbhhglhocaa
