/- Walks: draws of an assertion, and of an assertion and a fact. -/
import Derived.Test.YtapoillhgimdiaaSDHolds3
import Derived.Test.YtapoillhgimdiaaSMut2
import Derived.Test.YtapoillhgimdiaaSFam3
namespace Go.Proofs.Ytapoillhgimdiaa
open Go.RowKit

theorem fr_in {S : Nat → Prop} {a b : World} {p : Addr} {v : Value} (h : Fr S a b) (hp : S p.block) : Fr S a (b.setCell p v) := h.then (fr_set b p v) fun i _ e => by
  have e' : i = p.block := e
  rw [e']; exact hp
theorem fr_res5n (W : World) (A : Nat) (x y p q r : Value) : Fr (fun k => k = A ∨ k = A + 1) W (((((W.setCell ⟨A, 0, none⟩ x).setCell ⟨A, 1, none⟩ y).setCell ⟨A + 1, 0, none⟩ p).setCell ⟨A + 1, 1, none⟩ q).setCell ⟨A + 1, 2, none⟩ r) :=
  fr_in (fr_in (fr_in (fr_in (fr_in (Fr.refl _ _) (.inl rfl)) (.inl rfl)) (.inr rfl)) (.inr rfl)) (.inr rfl)
theorem fr_res5 (W : World) (A : Nat) (x y p q r : Value) : Fr (fun k => k = A ∨ k = A + 1) W (((((W.setCell ⟨A, 0, none⟩ x).setCell ⟨A, 1, none⟩ y).setCell ⟨A + 1, 0, none⟩ p).setCell ⟨A + 1, 1, none⟩ q).setCell ⟨A + 1, 2, none⟩ r).drew :=
  (fr_in (fr_in (fr_in (fr_in (fr_in (Fr.refl _ _) (.inl rfl)) (.inl rfl)) (.inr rfl)) (.inr rfl)) (.inr rfl)).thenB (below_drew _)
set_option maxRecDepth 100000 in
set_option maxHeartbeats 3200000 in
theorem specDrawImplies_any (v : Value) (n : Nat) (w : World) (h : RBytes w v n) :
    Calls Try.prog 147 #[v] w fun e w' => ∃ (u1 u2 : Value) (a : Asn) (f : Fact), e = .returned (.tuple #[.agg #[u1, u2], .agg #[.bool f.1, .int .i64 f.2.1, .int .i64 f.2.2]]) ∧ (a.1.length ≤ 26 ∧ a.2.length ≤ 13) ∧ RL w' (fun k => w.heap.size + 2 ≤ k) u1 a.1 ∧ RL w' (fun k => w.heap.size + 2 ≤ k) u2 a.2 ∧ Below w.heap.size w w' := by
  go_enter Try.func147, Try.ntmps147
  go_wp2_with fail
  refine (l18Open_any v n _ ((h.keep (below_alloc _ _)).keep (below_alloc _ _))).mono ?_
  rintro e w1 ⟨rfl, hr1, hb1⟩
  have hA := box_keep (box_keep (heap_alloc_new w (.cells #[.slice none 0 0, .slice none 0 0] 33)) (below_alloc _ (.cells #[.bool false, .int .i64 0, .int .i64 0] 83))) hb1
  have hB := box_keep (heap_alloc_new (w.alloc (.cells #[.slice none 0 0, .slice none 0 0] 33)) (.cells #[.bool false, .int .i64 0, .int .i64 0] 83)) hb1
  simp only [World.size_alloc] at hr1 hB ⊢
  obtain ⟨g, hg⟩ : ∃ g, g = w.heap.size + 1 + 1 := ⟨_, rfl⟩
  have hF1 : Fr (fun k => k = g) w w1 := (Below.fr (bt (ba (below_alloc w _) _) hb1)).mono fun _ _ h => h.elim
  rw [← hg] at hr1 ⊢
  have hgA : ¬ w.heap.size = g := by omega
  have hgB : ¬ w.heap.size + 1 = g := by omega
  have hgw : w.heap.size + 2 ≤ g := by omega
  clear hb1 hg h
  go_wp2_with fail
  refine (l3Draw_any g 0 _ hr1 (by omega)).mono ?_
  rintro e w2 ⟨v1, v2, a, rfl, hva, o1, o2, hr2, hf2⟩
  obtain ⟨a1, c1, rfl⟩ := o1.form
  obtain ⟨a2, c2, rfl⟩ := o2.form
  have hsa := asn_sz hva
  have hla : a.1.length ≤ 12 ∧ a.2.length ≤ 6 := by simp only [asnB, factsB, Bool.and_eq_true, decide_eq_true_eq] at hva; exact ⟨hva.1.1, hva.2.1⟩
  have HO := Lib.hid (And.intro o1 (And.intro o2 (And.intro hsa hla)))
  replace hA := box_kept hA hf2 hgA
  replace hB := box_kept hB hf2 hgB
  replace hF1 := hF1.trans hf2
  have hgl := hr2.lt
  clear hva o1 o2 hsa hla hr1 hf2
  go_wp2_with fail
  refine (l3Mutate_any g _ _ _ a _ hr2 (by omega) HO.out.1.rl HO.out.2.1.rl HO.out.2.2.1).mono ?_
  rintro e w3 ⟨x1, x2, b, rfl, hbl, p1, p2, hr3, hf3⟩
  obtain ⟨a3, c3, rfl⟩ := p1.form
  obtain ⟨a4, c4, rfl⟩ := p2.form
  replace hA := box_kept hA hf3 hgA
  replace hB := box_kept hB hf3 hgB
  replace hF1 := hF1.trans hf3
  have hz3 := hf3.size
  have hC := heap_alloc_new w3 (.cells #[.slice a3 b.1.length c3, .slice a4 b.2.length c4] 33)
  have hbA : Below w3.heap.size w3 (w3.alloc (.cells #[.slice a3 b.1.length c3, .slice a4 b.2.length c4] 33)) := below_alloc _ _
  have q1 := (p1.rl.more (S' := fun k => w.heap.size + 2 ≤ k ∧ ¬ k = g) fun k _ hk => by have : w2.heap.size ≤ k := hk; omega).keep hbA
  have q2 := (p2.rl.more (S' := fun k => w.heap.size + 2 ≤ k ∧ ¬ k = g) fun k _ hk => by have : w2.heap.size ≤ k := hk; omega).keep hbA
  have hbn : b.1.length ≤ 26 ∧ b.2.length ≤ 13 := by have := HO.out.2.2.2; omega
  have HBN := Lib.hid hbn
  replace hA := box_keep hA hbA
  replace hB := box_keep hB hbA
  replace hr3 := hr3.keep hbA
  replace hF1 := hF1.thenB hbA
  clear HO hbl p1 p2 hr2 hf3 hbA hbn
  go_wp2_with fail
  refine (pick_any g _ _ _ hr3 (by omega) (by decide) (by decide)).mono ?_
  rintro e w4 ⟨k, rfl, hk, hr4, hf4⟩
  replace hA := box_kept hA hf4 hgA
  replace hB := box_kept hB hf4 hgB
  replace hC := box_kept hC hf4 (by omega)
  replace hF1 := hF1.trans hf4
  replace q1 := q1.kept hf4 fun _ _ h e => h.2 e
  replace q2 := q2.kept hf4 fun _ _ h e => h.2 e
  have hz4 := box_lt hC
  have hlit := lit_ints w4 [1, 2, 3, 5, 7, 9] (by decide)
  have hbA : Below w4.heap.size w4 (w4.alloc (.cells #[.int .i64 1, .int .i64 2, .int .i64 3, .int .i64 5, .int .i64 7, .int .i64 9] 3)) := below_alloc _ _
  have HL := Lib.hid hlit
  obtain ⟨bb, hbb⟩ : ∃ b, ((k : Int) == 0) = b := ⟨_, rfl⟩
  replace hA := box_keep hA hbA
  replace hB := box_keep hB hbA
  replace hC := box_keep hC hbA
  replace hF1 := hF1.thenB hbA
  replace q1 := q1.keep hbA
  replace q2 := q2.keep hbA
  replace hr4 := hr4.keep hbA
  have hg4 : g < w4.heap.size := by omega
  clear hr3 hf4 hlit hbA
  go_wp2_with fail
  refine (num_any g _ _ [1, 2, 3, 5, 7, 9] _ hr4 HL.out (by omega) (by decide) (by decide) (fun k hk e => by simp [Value.ownBlock] at hk; omega)).mono ?_
  rintro e w5 ⟨x, _, rfl, hr5, hf5⟩
  replace hA := box_kept hA hf5 hgA
  replace hB := box_kept hB hf5 hgB
  replace hC := box_kept hC hf5 (by omega)
  replace hF1 := hF1.trans hf5
  replace q1 := q1.kept hf5 fun _ _ h e => h.2 e
  replace q2 := q2.kept hf5 fun _ _ h e => h.2 e
  have hz5 : w4.heap.size < w5.heap.size := by have := hf5.size; simp at this; omega
  have hg5 : g < w5.heap.size := by omega
  have hlit := lit_ints w5 [0, 2, 1, 6, 3] (by decide)
  have hbA : Below w5.heap.size w5 (w5.alloc (.cells #[.int .i64 0, .int .i64 2, .int .i64 1, .int .i64 6, .int .i64 3] 3)) := below_alloc _ _
  have HL5 := Lib.hid hlit
  replace hA := box_keep hA hbA
  replace hB := box_keep hB hbA
  replace hC := box_keep hC hbA
  replace hF1 := hF1.thenB hbA
  replace q1 := q1.keep hbA
  replace q2 := q2.keep hbA
  replace hr5 := hr5.keep hbA
  clear hr4 hf5 hlit hbA HL
  go_wp2_with fail
  refine (num_any g _ _ [0, 2, 1, 6, 3] _ hr5 HL5.out (by omega) (by decide) (by decide) (fun k hk e => by simp [Value.ownBlock] at hk; omega)).mono ?_
  rintro e w6 ⟨y, _, rfl, hr6, hf6⟩
  replace hA := box_kept hA hf6 hgA
  replace hB := box_kept hB hf6 hgB
  replace hC := box_kept hC hf6 (by omega)
  replace hF1 := hF1.trans hf6
  replace q1 := q1.kept hf6 fun _ _ h e => h.2 e
  replace q2 := q2.kept hf6 fun _ _ h e => h.2 e
  have hbA : Below w6.heap.size w6 (w6.alloc (.cells #[.bool bb, .int .i64 x, .int .i64 y] 83)) := below_alloc _ _
  have hD := heap_alloc_new w6 (.cells #[.bool bb, .int .i64 x, .int .i64 y] 83)
  replace hA := box_keep hA hbA
  replace hB := box_keep hB hbA
  replace hC := box_keep hC hbA
  replace hF1 := hF1.thenB hbA
  replace q1 := q1.keep hbA
  replace q2 := q2.keep hbA
  have hz6 : w5.heap.size < w6.heap.size := by have := hf6.size; simp at this; omega
  clear hr5 hf6 hbA HL5 hr6
  have A0 := box0 hA
  have A1 := box1 hA
  have Az := boxz hA
  have B0 := c30 hB
  have B1 := c31 hB
  have B2 := c32 hB
  have Bz := c3z hB
  have C0 := box0 hC
  have C1 := box1 hC
  have D0 := c30 hD
  have D1 := c31 hD
  have D2 := c32 hD
  have HQ := Lib.hid (And.intro q1 (And.intro q2 hF1))
  clear hA hB hC hD q1 q2 hF1
  obtain ⟨W, hWe⟩ : ∃ W, W = w6.alloc (.cells #[.bool bb, .int .i64 x, .int .i64 y] 83) := ⟨_, rfl⟩
  rw [← hWe] at *
  clear hWe
  go_wp2
  go_region
  all_goals
    go_wp2
    refine bodyPost_ret (v := .tuple #[.agg #[.slice a3 b.1.length c3, .slice a4 b.2.length c4], .agg #[.bool bb, .int .i64 x, .int .i64 y]]) (by simp [results, Try.results147, go_sem, A0, A1, B0, B1, B2]) rfl ?_
    refine ⟨_, _, b, (bb, x, y), rfl, HBN.out, (HQ.out.1.kept (T := fun k => k = w.heap.size ∨ k = w.heap.size + 1) ?_ fun k _ h e => by omega).more (fun k _ h => h.1), (HQ.out.2.1.kept (T := fun k => k = w.heap.size ∨ k = w.heap.size + 1) ?_ fun k _ h e => by omega).more (fun k _ h => h.1), (HQ.out.2.2.then (S' := fun k => k = w.heap.size ∨ k = w.heap.size + 1) ?_ ?_).below (Nat.le_refl _) ?_⟩
    · exact fr_res5 _ _ _ _ _ _ _
    · exact fr_res5 _ _ _ _ _ _ _
    · exact fr_res5 _ _ _ _ _ _ _
    · intro i _ e; omega
    · intro i _ e; omega
end Go.Proofs.Ytapoillhgimdiaa
