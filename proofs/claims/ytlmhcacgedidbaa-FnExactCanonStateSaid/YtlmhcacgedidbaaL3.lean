/- Walks: marks of states. -/
import Derived.Test.YtlmhcacgedidbaaL2
namespace Go.Proofs.Ytlmhcacgedidbaa
open Go.RowKit

set_option maxHeartbeats 800000 in
theorem markState_any (B : Nat) (v1 v2 : Value) (l1 l2 : List Int) (k0 : Int) (w : World) (h1 : w.ownsRow B 3 1 v1 l1.length (ints l1)) (h2 : w.ownsRow B 3 1 v2 l2.length (ints l2))
    (hs : ∀ k, some k = v1.ownBlock → ¬ some k = v2.ownBlock) (h0 : 0 ≤ k0) (h8 : k0 ≤ 1048576) (hl1 : l1.length ≤ 1048576) (hl2 : l2.length ≤ 1048576) :
    Calls Try.prog 21 #[.agg #[v1, v2], .int .i64 k0] w fun e w' => e = .returned (.int .i64 (k0 + l1.length + l2.length)) ∧ w'.ownsRow B 3 1 v1 l1.length (ints (mks k0 l1.length)) ∧ w'.ownsRow B 3 1 v2 l2.length (ints (mks (k0 + l1.length) l2.length)) ∧ Fr (fun k => some k = v1.ownBlock ∨ some k = v2.ownBlock) w w' := by
  obtain ⟨a1, c1, rfl, _⟩ := own_form h1
  obtain ⟨a2, c2, rfl, _⟩ := own_form h2
  have hlt1 : ∀ k, some k = (Value.slice a1 l1.length c1).ownBlock → k < w.heap.size := fun k hk => (own_lt h1 hk).2
  have hlt2 : ∀ k, some k = (Value.slice a2 l2.length c2).ownBlock → k < w.heap.size := fun k hk => (own_lt h2 hk).2
  go_enter Try.func21, Try.ntmps21
  go_wp2_with fail
  refine (markIntS_any B _ l1 _ _ (h1.alloc _) h0 (by omega) (by omega)).mono ?_
  rintro e w1 ⟨rfl, hown1, hf1⟩
  have hc1 : w1.cell? ⟨w.heap.size, 1, none⟩ = some (.slice a2 l2.length c2) := hf1.cell (fun h => by have := hlt1 _ h; simp at this) (by simp)
  have own2 := own_kept (h2.alloc (.cells #[.slice a1 l1.length c1, .slice a2 l2.length c2] 27)) hf1 (fun k hk hk1 => hs k hk1 hk)
  go_wp2_with fail
  refine (markIntS_any B _ l2 _ _ own2 (by omega) (by omega) (by omega)).mono ?_
  rintro e w2 ⟨rfl, hown2, hf2⟩
  have own1 := own_kept hown1 hf2 (fun k hk hk2 => hs k hk hk2)
  go_wp2
  go_ret
  refine ⟨rfl, own1, hown2, ?_⟩
  exact (((Below.fr (below_alloc _ _)).mono fun _ _ h => h.elim).trans (hf1.mono fun k _ h => .inl h)).trans (hf2.mono fun k _ h => .inr h)
set_option maxHeartbeats 800000 in
theorem heldState_any (v1 v2 : Value) (n1 n2 : Nat) (k0 : Int) (w : World) (h1 : RInts w v1 (mks k0 n1)) (h2 : RInts w v2 (mks (k0 + n1) n2)) (h0 : 0 ≤ k0) (h8 : k0 ≤ 1048576) (hl1 : n1 ≤ 1048576) (hl2 : n2 ≤ 1048576) :
    Calls Try.prog 39 #[.agg #[v1, v2], .int .i64 k0] w fun e w' => e = .returned (.int .i64 (k0 + n1 + n2)) ∧ Below w.heap.size w w' := by
  go_enter Try.func39, Try.ntmps39
  go_wp2_with fail
  refine (heldIntS_any _ n1 _ _ (h1.alloc _) h0 (by omega) (by omega)).mono ?_
  rintro e w' ⟨rfl, rfl⟩
  go_wp2_with fail
  refine (heldIntS_any _ n2 _ _ (h2.alloc _) (by omega) (by omega) (by omega)).mono ?_
  rintro e w' ⟨rfl, rfl⟩
  go_wp2
  go_ret
  exact ⟨rfl, below_alloc _ _⟩
end Go.Proofs.Ytlmhcacgedidbaa
