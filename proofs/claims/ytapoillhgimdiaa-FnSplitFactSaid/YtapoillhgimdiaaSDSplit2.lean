/- The walk of the law FnSplitTwice. -/
import Derived.Test.YtapoillhgimdiaaSDImp
import Derived.Test.YtapoillhgimdiaaSImpA
import Derived.Test.YtapoillhgimdiaaSSam
import Derived.Test.YtapoillhgimdiaaSSplit3
import Derived.Test.YtapoillhgimdiaaSItrB
namespace Go.Proofs.Ytapoillhgimdiaa
open Go.RowKit

set_option maxRecDepth 100000 in
set_option maxHeartbeats 3200000 in
theorem specDrawSplitFact_any (v : Value) (n : Nat) (w : World) (h : RBytes w v n) :
    Calls Try.prog 64 #[v] w fun e w' => ∃ (u1 u2 : Value) (a : Asn) (f : Fact), e = .returned (.tuple #[.agg #[u1, u2], .agg #[.bool f.1, .int .i64 f.2.1, .int .i64 f.2.2]]) ∧ (a.1.length ≤ 26 ∧ a.2.length ≤ 13) ∧ RL w' (fun _ => True) u1 a.1 ∧ RL w' (fun _ => True) u2 a.2 ∧ Below w.heap.size w w' := by
  go_enter Try.func64, Try.ntmps64
  go_wp2_with fail
  refine (specDrawImplies_any v n _ ((h.keep (below_alloc _ _)).keep (below_alloc _ _))).mono ?_
  rintro e w1 ⟨u1, u2, a, f, rfl, hl, r1, r2, hb⟩
  have hA := box_keep (box_keep (heap_alloc_new w (.cells #[.slice none 0 0, .slice none 0 0] 33)) (below_alloc _ (.cells #[.bool false, .int .i64 0, .int .i64 0] 83))) hb
  have hB := box_keep (heap_alloc_new (w.alloc (.cells #[.slice none 0 0, .slice none 0 0] 33)) (.cells #[.bool false, .int .i64 0, .int .i64 0] 83)) hb
  simp only [World.size_alloc] at hB
  obtain ⟨a1, c1, rfl⟩ := r1.form
  obtain ⟨a2, c2, rfl⟩ := r2.form
  have hW := bt (ba (below_alloc w (.cells #[.slice none 0 0, .slice none 0 0] 33)) (.cells #[.bool false, .int .i64 0, .int .i64 0] 83)) hb
  have HQ := Lib.hid (And.intro hl (And.intro r1 (And.intro r2 hW)))
  have A0 := box0 hA
  have A1 := box1 hA
  have Az := boxz hA
  have Al := box_lt hA
  have B0 := c30 hB
  have B1 := c31 hB
  have B2 := c32 hB
  have Bz := c3z hB
  have Bl := box_lt hB
  clear hA hB hl r1 r2 hb hW
  go_wp2
  refine bodyPost_ret (v := .tuple #[.agg #[.slice a1 a.1.length c1, .slice a2 a.2.length c2], .agg #[.bool f.1, .int .i64 f.2.1, .int .i64 f.2.2]]) (by simp [results, Try.results64, go_sem, A0, A1, B0, B1, B2]) rfl ?_
  refine ⟨_, _, a, f, rfl, HQ.out.1, (HQ.out.2.1.kept (T := fun k => k = w.heap.size ∨ k = w.heap.size + 1) ?_ fun k _ h e => by simp only [World.size_alloc] at h; omega).any, (HQ.out.2.2.1.kept (T := fun k => k = w.heap.size ∨ k = w.heap.size + 1) ?_ fun k _ h e => by simp only [World.size_alloc] at h; omega).any, ?_⟩
  · exact fr_res5n _ _ _ _ _ _ _
  · exact fr_res5n _ _ _ _ _ _ _
  · exact HQ.out.2.2.2.trans ((fr_res5n _ w.heap.size _ _ _ _ _).below HQ.out.2.2.2.size fun k hk e => by omega)
end Go.Proofs.Ytapoillhgimdiaa
