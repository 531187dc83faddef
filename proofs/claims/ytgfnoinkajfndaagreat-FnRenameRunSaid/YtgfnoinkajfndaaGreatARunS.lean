/- Walks: cells are allocated, commands without blocks are executed (reference: AllocCell, l9Basic). -/
import Derived.Test.YtgfnoinkajfndaaGreatARunP
import Derived.Test.YtgfnoinkajfndaaGreatASpl8
import Derived.Test.YtgfnoinkajfndaaGreatADraw2
import Derived.Handy
import Derived.Deep.DeepMust
import Derived.Deep.Cut
import Derived.Deep.CutBlock
import Derived.Deep.CutRange
set_option linter.unusedVariables false
set_option linter.unusedSimpArgs false
namespace Go.Proofs.YtgfnoinkajfndaaGreat
open Go.RowKit

theorem freeA_hit {hl : List Int} {k : Nat} (hk : k < 8) (hn : ∀ j : Nat, j < k → alB hl ((j : Int) + 1) = true) (h : alB hl ((k : Int) + 1) = false) : freeA hl = some ((k : Int) + 1) := by
  rw [freeA, find_range hk (fun j hj => by rw [hn j hj]; rfl) (by rw [h]; rfl)]; rfl
theorem freeA_none {hl : List Int} (hn : ∀ j : Nat, j < 8 → alB hl ((j : Int) + 1) = true) : freeA hl = none := by
  rw [freeA, List.find?_eq_none.2 fun j hj => by rw [hn j (List.mem_range.1 hj)]; simp]; rfl
theorem below_st {w w' : World} {B : Nat} (h : Below B w w') (p : Addr) (v : Value) (hp : B ≤ p.block) : Below B w (w'.setCell p v) := Below.setCell h hp v
/-- A state with a cell more. -/
def alV (s : St) : List Int := if (freeA s.2).isSome = true then s.1 else []
def alH (s : St) : List Int := match freeA s.2 with
  | some n => s.2.set (n - 1).toNat 0
  | none => []
/-- Two owned slices as slices. -/
theorem OwnSt.forms {w : World} {B : Nat} {v1 v2 : Value} {l1 l2 : List Int} (h : OwnSt w B v1 v2 l1 l2) (h1 : 0 < l1.length) (h2 : 0 < l2.length) :
    ∃ g1 c1 g2 c2, v1 = .slice (some ⟨g1, 0, none⟩) l1.length c1 ∧ v2 = .slice (some ⟨g2, 0, none⟩) l2.length c2 ∧ (B ≤ g1 ∧ g1 < w.heap.size) ∧ (B ≤ g2 ∧ g2 < w.heap.size) ∧ ¬ g1 = g2 ∧
      (∀ i, i < l1.length → w.cell? ⟨g1, i, none⟩ = some (.int .i64 (gi l1 i))) ∧ (∀ i, i < l2.length → w.cell? ⟨g2, i, none⟩ = some (.int .i64 (gi l2 i))) ∧ (∀ i, w.frozen? ⟨g1, i, none⟩ = false) ∧ (∀ i, w.frozen? ⟨g2, i, none⟩ = false) ∧
      (∀ i x, OwnSt (w.setCell ⟨g1, i, none⟩ (.int .i64 x)) B v1 v2 (l1.set i x) l2) ∧ (∀ i x, OwnSt (w.setCell ⟨g2, i, none⟩ (.int .i64 x)) B v1 v2 l1 (l2.set i x)) := by
  obtain ⟨g1, c1, e1, a1, b1⟩ := h.one.form h1
  obtain ⟨g2, c2, e2, a2, b2⟩ := h.two.form h2
  subst e1 e2
  have hne : ¬ g1 = g2 := fun e => h.apart g1 rfl (by rw [e]; rfl)
  have hat : ∀ {l : List Int} {i : Nat}, i < l.length → (ints l)[i]? = some (.int .i64 (gi l i)) := fun {l i} hi => by
    rw [List.getElem?_map, List.getElem?_eq_getElem hi, gi_of hi]; rfl
  refine ⟨g1, c1, g2, c2, rfl, rfl, ⟨a1, b1⟩, ⟨a2, b2⟩, hne, fun i hi => ?_, fun i hi => ?_, fun i => h.one.frozenAt i, fun i => h.two.frozenAt i, fun i x => ⟨?_, ?_, ?_⟩, fun i x => ⟨?_, ?_, ?_⟩⟩
  · rw [h.one.cellAt _ (by omega), hat hi]
  · rw [h.two.cellAt _ (by omega), hat hi]
  · have := own_set h.one i x
    rwa [List.length_set] at this ⊢
  · exact own_kept h.two (fr_set _ _ _) (fun k hk e => by have e2 : k = g1 := e; have e3 : k = g2 := Option.some.inj hk; omega)
  · intro k hk hk2
    exact h.apart k hk hk2
  · exact own_kept h.one (fr_set _ _ _) (fun k hk e => by have e2 : k = g2 := e; have e3 : k = g1 := Option.some.inj hk; omega)
  · have := own_set h.two i x
    rwa [List.length_set] at this ⊢
  · intro k hk hk2
    exact h.apart k hk hk2
set_option maxRecDepth 100000 in
set_option maxHeartbeats 6400000 in
theorem allocS_any (v1 v2 : Value) (s : St) (w : World) (h1 : RInts w v1 s.1) (h2 : RInts w v2 s.2) (hv : okSt s) :
    Calls Tryz.prog 112 #[.agg #[v1, v2]] w fun e w' => ∃ u1 u2, e = .returned (.tuple #[.agg #[u1, u2], .int .i64 ((freeA s.2).getD 0), .bool (freeA s.2).isSome]) ∧ OwnSt w' w.heap.size u1 u2 (alV s) (alH s) ∧ Below w.heap.size w w' := by
  obtain ⟨a1, c1, rfl⟩ := h1.form
  obtain ⟨a2, c2, rfl⟩ := h2.form
  have hn := valid_len hv
  have hn1 := hn.1
  have hn2 := hn.2
  have HR := Lib.hid (And.intro (And.intro h1 h2) (And.intro hv hn))
  have hP := box_keep (heap_alloc_new w (.cells #[.slice a1 s.1.length c1, .slice a2 s.2.length c2] 25)) (below_alloc _ (.cells #[.slice none 0 0, .slice none 0 0] 25))
  have hR := heap_alloc_new (w.alloc (.cells #[.slice a1 s.1.length c1, .slice a2 s.2.length c2] 25)) (.cells #[.slice none 0 0, .slice none 0 0] 25)
  have hb0 := bt (below_alloc w (.cells #[.slice a1 s.1.length c1, .slice a2 s.2.length c2] 25)) (below_alloc _ (.cells #[.slice none 0 0, .slice none 0 0] 25))
  simp only [World.size_alloc] at hR
  have HB0 := Lib.hid (And.intro hb0 (And.intro hP hR))
  clear h1 h2 hn hv hP hR hb0 hn1 hn2
  go_enter Tryz.func112, Tryz.ntmps112
  go_wp2
  go_loopg [5] 8 (fun q i wr => ∃ k : Nat, k + q = 8 ∧ i = .int .i64 ((k : Int) + 1) ∧ (∀ j : Nat, j < k → alB s.2 ((j : Int) + 1) = true) ∧ (wr.heap[w.heap.size]? = some (.cells #[.slice a1 s.1.length c1, .slice a2 s.2.length c2] 25 (0, 0)) ∧ wr.heap[w.heap.size + 1]? = some (.cells #[.slice none 0 0, .slice none 0 0] 25 (0, 0))) ∧ Below w.heap.size w wr)
  case atStart => exact ⟨0, by omega, rfl, fun j hj => absurd hj (Nat.not_lt_zero j), HB0.out.2, HB0.out.1⟩
  case round =>
    obtain ⟨k, hk, rfl, hal, ⟨hP, hR⟩, hb⟩ := hrel
    have HK := Lib.hid hk
    have HAL := Lib.hid hal
    have HPR := Lib.hid (And.intro hP hR)
    have p0 := box0 hP
    have p1 := box1 hP
    have r0 := box0 hR
    have r1 := box1 hR
    have z0 := boxz hR 0
    have z1 := boxz hR 1
    have hzR := box_lt hR
    have hs := hb.size
    clear hk hal hP hR
    by_cases hk8 : k < 8
    · have i1 : (k : Int) + 1 ≤ 8 := by omega
      go_wp2_with fail
      refine (cb (specStateValid_any _ _ s.1 s.2 _ (HR.out.1.1.keep hb) (HR.out.1.2.keep hb)) HR.out.2.1).mono ?_
      rintro e w2 ⟨rfl, hb2⟩
      replace p0 := cell_keep hb2 p0
      replace p1 := cell_keep hb2 p1
      have hs2 := hb2.size
      clear r0 r1 z0 z1
      go_wp2_with fail
      refine (l2Has_any _ _ s.2 ((k : Int) + 1) _ ((HR.out.1.2.keep hb).keep hb2) (by rw [HR.out.2.2.2]; decide)).mono ?_
      rintro e w3 ⟨rfl, hb3⟩
      replace p0 := cell_keep hb3 p0
      replace p1 := cell_keep hb3 p1
      have hs3 := hb3.size
      have HB3 := Lib.hid (bt hb (bt hb2 hb3))
      have HPR3 := Lib.hid (And.intro (box_keep (box_keep HPR.out.1 hb2) hb3) (box_keep (box_keep HPR.out.2 hb2) hb3))
      clear hb2 hb3
      cases ha : alB s.2 ((k : Int) + 1) with
      | true =>
        have HA := Lib.hid ha
        clear ha
        go_wp2
        go_roundg (gk - 1)
        case rel => exact ⟨k + 1, by have := HK.out; omega, by go_num, fun j hj => by
          by_cases e : j = k
          · rw [e]; exact HA.out
          · exact HAL.out j (by omega), HPR3.out, HB3.out⟩
        case measure => have := HK.out; omega
      | false =>
        have HF := Lib.hid (freeA_hit hk8 HAL.out ha)
        clear ha
        go_wp2_with fail
        refine (l2Copy_any _ _ s.1 s.2 _ (HR.out.1.1.keep HB3.out) (HR.out.1.2.keep HB3.out) (by rw [HR.out.2.2.1]; decide) (by rw [HR.out.2.2.2]; decide) (by rw [HR.out.2.2.1]; decide) (by rw [HR.out.2.2.2]; decide)).mono ?_
        rintro e w4 ⟨u1, u2, rfl, hst, hb4⟩
        have hbO := below_alloc w4 (.cells #[u1, u2] 25)
        have hgw : ∀ g, some g = u2.ownBlock → g < w4.heap.size := fun g hg => (own_lt hst.two hg).2
        obtain ⟨g1, k1, g2, k2, rfl, rfl, ⟨hg1, hg1b⟩, ⟨hg2, hg2b⟩, hne, hc1, hc2, hz1, hz2, hset1, hset2⟩ := (hst.keep hbO).forms (by rw [HR.out.2.2.1]; decide) (by rw [HR.out.2.2.2]; decide)
        have hO := heap_alloc_new w4 (.cells #[.slice (some ⟨g1, 0, none⟩) s.1.length k1, .slice (some ⟨g2, 0, none⟩) s.2.length k2] 25)
        have hR4 := box_keep (box_keep HPR3.out.2 hb4) hbO
        have hs4 := hb4.size
        have HB4 := Lib.hid ((HB3.out.trans (hb4.mono HB3.out.size)).trans (hbO.mono (by omega)))
        go_upto_region 6 with fail
        obtain ⟨W, hW⟩ : ∃ W, w4.alloc (.cells #[.slice (some ⟨g1, 0, none⟩) s.1.length k1, .slice (some ⟨g2, 0, none⟩) s.2.length k2] 25) = W := ⟨_, rfl⟩
        have hWz : W.heap.size = w4.heap.size + 1 := by rw [← hW]; simp
        rw [hW] at hg1b hg2b hc1 hc2 hz1 hz2 hset1 hset2 hO hR4 HB4 ⊢
        have hk2 : k < s.2.length := by rw [HR.out.2.2.2]; exact hk8
        have hcc := hc2 k hk2
        have hzz := hz2 k
        have o0 := box0 hO
        have o1 := box1 hO
        have r0 := box0 hR4
        have r1 := box1 hR4
        have z0 := boxz hR4 0
        have z1 := boxz hR4 1
        have i2 : (k : Int) < (s.2.length : Int) := by omega
        have HS := Lib.hid (hset2 k 0)
        have hlo := HB3.out.size
        have hne2 : ¬ g2 = w.heap.size + 1 := by omega
        have hne3 : ¬ g2 = w4.heap.size := fun e => by have := hgw g2 rfl; omega
        clear hW hgw hc1 hc2 hz1 hz2 hset1 hset2 hst hb4 hbO hO hR4
        go_wp2
        have r0' := (fr_set W ⟨g2, k, none⟩ (.int .i64 0)).cell (p := ⟨w.heap.size + 1, 0, none⟩) (fun e => hne2 (by have e2 : w.heap.size + 1 = g2 := e; exact e2.symm)) r0
        have r1' := (fr_set W ⟨g2, k, none⟩ (.int .i64 0)).cell (p := ⟨w.heap.size + 1, 1, none⟩) (fun e => hne2 (by have e2 : w.heap.size + 1 = g2 := e; exact e2.symm)) r1
        have r := box_two (.slice (some ⟨g1, 0, none⟩) s.1.length k1) (.slice (some ⟨g2, 0, none⟩) s.2.length k2) r0' r1'
        refine bodyPost_ret (v := .tuple #[.agg #[.slice (some ⟨g1, 0, none⟩) s.1.length k1, .slice (some ⟨g2, 0, none⟩) s.2.length k2], .int .i64 ((k : Int) + 1), .bool true]) (by simp [results, Tryz.results112, go_sem, r.1, r.2]) rfl ?_
        have hFS := (fr_set (W.setCell ⟨g2, k, none⟩ (.int .i64 0)) ⟨w.heap.size + 1, 0, none⟩ (.slice (some ⟨g1, 0, none⟩) s.1.length k1)).trans (fr_set _ ⟨w.heap.size + 1, 1, none⟩ (.slice (some ⟨g2, 0, none⟩) s.2.length k2))
        have hB5 : Below w.heap.size w (W.setCell ⟨g2, k, none⟩ (.int .i64 0)) := below_st HB4.out _ _ (by show w.heap.size ≤ g2; omega)
        refine ⟨_, _, by rw [HF.out]; rfl, ?_, below_st (below_st hB5 _ _ (by show w.heap.size ≤ w.heap.size + 1; omega)) _ _ (by show w.heap.size ≤ w.heap.size + 1; omega)⟩
        have e1 : alV s = s.1 := by rw [alV, HF.out]; rfl
        have e2 : alH s = s.2.set k 0 := by
          rw [alH, HF.out]
          show s.2.set ((k : Int) + 1 - 1).toNat 0 = _
          rw [show ((k : Int) + 1 - 1).toNat = k by omega]
        rw [e1, e2]
        exact (HS.out.kept hFS (fun i h1 _ e => by have e2 : i = w.heap.size + 1 := e; omega)).mono (by omega)
    · have i1 : ¬ (k : Int) + 1 ≤ 8 := by omega
      have HN := Lib.hid (freeA_none (hl := s.2) fun j hj => HAL.out j (by omega))
      go_wp2
      have r := box_two (.slice none 0 0) (.slice none 0 0) r0 r1
      refine bodyPost_ret (v := .tuple #[.agg #[.slice none 0 0, .slice none 0 0], .int .i64 0, .bool false]) (by simp [results, Tryz.results112, go_sem, r.1, r.2]) rfl ?_
      exact ⟨_, _, by rw [HN.out]; rfl, by rw [alV, alH, HN.out]; exact ownSt_nil _ _, (((Below.chg hb).then (fr_set _ _ _) (fun i hi e => by simp at e; omega)).then (fr_set _ _ _) (fun i hi e => by simp at e; omega)).below (Nat.le_refl _) (fun k hk e => by omega)⟩
/-- What is shown of a state behind a code. -/
def oS (r : Int × St) : St := if r.1 = 0 then r.2 else ([], [])
def StRes (r : Int × St) (w : World) (e : Ending) (w' : World) : Prop :=
  ∃ u1 u2, e = .returned (.tuple #[.agg #[u1, u2], .int .i64 r.1]) ∧ (RInts w' u1 (oS r).1 ∧ RInts w' u2 (oS r).2) ∧ Below w.heap.size w w'
theorem rints_nil (w : World) : RInts w (.slice none 0 0) [] := (own_ints (World.ownsRow_nil w 0 3 1)).1
theorem fail_res {c : Int} {s : St} {r : Int × St} (h : r = (c, s)) (hc : c ≠ 0) : oS r = ([], []) := by subst h; exact if_neg hc
set_option maxRecDepth 100000 in
set_option maxHeartbeats 12800000 in
theorem l9BasicG (K A B : Int) (t : Fact) (f1 f2 x y v1 v2 : Value) (s : St) (w : World) (h1 : RInts w v1 s.1) (h2 : RInts w v2 s.2) (hs : okSt s) (hf : (∃ a n k, f1 = .slice a n k) ∧ (∃ a n k, f2 = .slice a n k) ∧ (∃ a n k, x = .slice a n k) ∧ (∃ a n k, y = .slice a n k))
    (hA : 0 ≤ A ∧ A ≤ 8) (hB : 0 ≤ B ∧ B ≤ 8) (hK : (K = 1 ∧ 1 ≤ A) ∨ (K = 2 ∧ 1 ≤ A) ∨ K = 3 ∨ (K = 4 ∧ 1 ≤ A) ∨ K = 5) :
    Calls Tryz.prog 74 #[.agg #[v1, v2], .agg #[.int .i64 K, .int .i64 A, .int .i64 B, .bool t.1, .int .i64 t.2.1, .int .i64 t.2.2, f1, f2, x, y]] w (StRes (basicR K A B s) w) := by
  obtain ⟨⟨a3, n3, c3, rfl⟩, ⟨a4, n4, c4, rfl⟩, ⟨a5, n5, c5, rfl⟩, a6, n6, c6, rfl⟩ := hf
  have hn := valid_len hs
  obtain ⟨a1, c1, rfl⟩ := h1.form
  obtain ⟨b2, o2, c2, rfl, _, hbz, hcell⟩ := h2.ne (by rw [hn.2]; decide)
  have HR := Lib.hid (And.intro (And.intro h1 h2) (And.intro hs hn))
  have hsz1 : (w.alloc (.cells #[.slice a1 s.1.length c1, .slice (some ⟨b2, o2, none⟩) s.2.length c2] 25)).heap.size = w.heap.size + 1 := by simp
  have hsz2 : ((w.alloc (.cells #[.slice a1 s.1.length c1, .slice (some ⟨b2, o2, none⟩) s.2.length c2] 25)).alloc (.cells #[.int .i64 K, .int .i64 A, .int .i64 B, .bool t.1, .int .i64 t.2.1, .int .i64 t.2.2, .slice a3 n3 c3, .slice a4 n4 c4, .slice a5 n5 c5, .slice a6 n6 c6] 77)).heap.size = w.heap.size + 1 + 1 := by simp
  have hsz3 : (((w.alloc (.cells #[.slice a1 s.1.length c1, .slice (some ⟨b2, o2, none⟩) s.2.length c2] 25)).alloc (.cells #[.int .i64 K, .int .i64 A, .int .i64 B, .bool t.1, .int .i64 t.2.1, .int .i64 t.2.2, .slice a3 n3 c3, .slice a4 n4 c4, .slice a5 n5 c5, .slice a6 n6 c6] 77)).alloc (.cells #[.slice none 0 0, .slice none 0 0] 25)).heap.size = w.heap.size + 1 + 1 + 1 := by simp
  have hb12 := below_alloc (w.alloc (.cells #[.slice a1 s.1.length c1, .slice (some ⟨b2, o2, none⟩) s.2.length c2] 25)) (.cells #[.int .i64 K, .int .i64 A, .int .i64 B, .bool t.1, .int .i64 t.2.1, .int .i64 t.2.2, .slice a3 n3 c3, .slice a4 n4 c4, .slice a5 n5 c5, .slice a6 n6 c6] 77)
  have hb23 := below_alloc ((w.alloc (.cells #[.slice a1 s.1.length c1, .slice (some ⟨b2, o2, none⟩) s.2.length c2] 25)).alloc (.cells #[.int .i64 K, .int .i64 A, .int .i64 B, .bool t.1, .int .i64 t.2.1, .int .i64 t.2.2, .slice a3 n3 c3, .slice a4 n4 c4, .slice a5 n5 c5, .slice a6 n6 c6] 77)) (.cells #[.slice none 0 0, .slice none 0 0] 25)
  have hb3 := bt (below_alloc w (.cells #[.slice a1 s.1.length c1, .slice (some ⟨b2, o2, none⟩) s.2.length c2] 25)) (bt hb12 hb23)
  have hP := box_keep (box_keep (heap_alloc_new w (.cells #[.slice a1 s.1.length c1, .slice (some ⟨b2, o2, none⟩) s.2.length c2] 25)) hb12) hb23
  have hQ := box_keep (heap_alloc_new (w.alloc (.cells #[.slice a1 s.1.length c1, .slice (some ⟨b2, o2, none⟩) s.2.length c2] 25)) (.cells #[.int .i64 K, .int .i64 A, .int .i64 B, .bool t.1, .int .i64 t.2.1, .int .i64 t.2.2, .slice a3 n3 c3, .slice a4 n4 c4, .slice a5 n5 c5, .slice a6 n6 c6] 77)) hb23
  have hR := heap_alloc_new ((w.alloc (.cells #[.slice a1 s.1.length c1, .slice (some ⟨b2, o2, none⟩) s.2.length c2] 25)).alloc (.cells #[.int .i64 K, .int .i64 A, .int .i64 B, .bool t.1, .int .i64 t.2.1, .int .i64 t.2.2, .slice a3 n3 c3, .slice a4 n4 c4, .slice a5 n5 c5, .slice a6 n6 c6] 77)) (.cells #[.slice none 0 0, .slice none 0 0] 25)
  rw [hsz1] at hQ
  rw [hsz2] at hR
  have HB3 := Lib.hid (And.intro hb3 (And.intro hP (And.intro hQ hR)))
  have HC := Lib.hid hcell
  have hA1 := hA.1
  have hA2 := hA.2
  have hB1 := hB.1
  have hB2 := hB.2
  have HK := Lib.hid hK
  clear h1 h2 hn hs hb12 hb23 hb3 hP hQ hR hcell hA hB hK hsz1 hsz2
  go_enter Tryz.func74, Tryz.ntmps74
  go_wp2_with fail
  refine (l2Copy_any _ _ s.1 s.2 _ (HR.out.1.1.keep HB3.out.1) (HR.out.1.2.keep HB3.out.1) (by rw [HR.out.2.2.1]; decide) (by rw [HR.out.2.2.2]; decide) (by rw [HR.out.2.2.1]; decide) (by rw [HR.out.2.2.2]; decide)).mono ?_
  rintro e w4 ⟨u1, u2, rfl, hst, hb4⟩
  have hbO := below_alloc w4 (.cells #[u1, u2] 25)
  have hgw1 : ∀ g, some g = u1.ownBlock → g < w4.heap.size := fun g hg => (own_lt hst.one hg).2
  have hgw2 : ∀ g, some g = u2.ownBlock → g < w4.heap.size := fun g hg => (own_lt hst.two hg).2
  obtain ⟨g1, k1, g2, k2, rfl, rfl, ⟨hg1, hg1b⟩, ⟨hg2, hg2b⟩, hne, hc1, hc2, hz1, hz2, hset1, hset2⟩ := (hst.keep hbO).forms (by rw [HR.out.2.2.1]; decide) (by rw [HR.out.2.2.2]; decide)
  have hst4 := hst.keep hbO
  have hO := heap_alloc_new w4 (.cells #[.slice (some ⟨g1, 0, none⟩) s.1.length k1, .slice (some ⟨g2, 0, none⟩) s.2.length k2] 25)
  have hP := box_keep (box_keep HB3.out.2.1 hb4) hbO
  have hQ := box_keep (box_keep HB3.out.2.2.1 hb4) hbO
  have hR := box_keep (box_keep HB3.out.2.2.2 hb4) hbO
  have hs4 := hb4.size
  have hg1w := hgw1 g1 rfl
  have hg2w := hgw2 g2 rfl
  rw [hsz3] at hs4 hg1 hg2 hst4 hset1 hset2
  have HB4 := Lib.hid ((bt HB3.out.1 hb4).trans (hbO.mono (by omega)))
  go_upto_region 2 with fail
  obtain ⟨W, hW⟩ : ∃ W, w4.alloc (.cells #[.slice (some ⟨g1, 0, none⟩) s.1.length k1, .slice (some ⟨g2, 0, none⟩) s.2.length k2] 25) = W := ⟨_, rfl⟩
  have hWz : W.heap.size = w4.heap.size + 1 := by rw [← hW]; simp
  rw [hW] at hg1b hg2b hc1 hc2 hz1 hz2 hset1 hset2 hst4 hO hP hQ hR HB4 ⊢
  have p0 := box0 hP
  have p1 := box1 hP
  have q0 := cell_of_row _ _ 0 _ _ _ hQ
  have q1 := cell_of_row _ _ 1 _ _ _ hQ
  have q2 := cell_of_row _ _ 2 _ _ _ hQ
  have o0 := box0 hO
  have o1 := box1 hO
  have r0 := box0 hR
  have r1 := box1 hR
  have z0 := boxz hR 0
  have z1 := boxz hR 1
  have n1 : ¬ g1 = w4.heap.size := by omega
  have n2 : ¬ g2 = w4.heap.size := by omega
  have n3 : ¬ g1 = w.heap.size + 1 + 1 := by omega
  have n4 : ¬ g2 = w.heap.size + 1 + 1 := by omega
  have HST := Lib.hid (And.intro (And.intro hset1 hset2) (And.intro (And.intro hc1 hc2) (And.intro hz1 hz2)))
  have HBX := Lib.hid (And.intro hP (And.intro hQ (And.intro hR hst4)))
  clear hW hgw1 hgw2 hc1 hc2 hz1 hz2 hset1 hset2 hst hst4 hb4 hbO hO hP hQ hR hsz3
  go_wp2_with fail
  refine (l1Value_any _ s.1 A _ (HR.out.1.1.keep HB4.out) hA1 (by rw [HR.out.2.2.1]; exact hA2)).mono ?_
  rintro e w5 ⟨rfl, rfl⟩
  go_wp2_with fail
  refine (l1Value_any _ s.1 B _ (HR.out.1.1.keep HB4.out) hB1 (by rw [HR.out.2.2.1]; exact hB2)).mono ?_
  rintro e w5 ⟨rfl, rfl⟩
  obtain ⟨TA, hTA⟩ : ∃ T, tv s.1 A = T := ⟨_, rfl⟩
  obtain ⟨TB, hTB⟩ : ∃ T, tv s.1 B = T := ⟨_, rfl⟩
  have hta := tvT_le HR.out.2.1 hA1 hA2
  have htb := tvT_le HR.out.2.1 hB1 hB2
  rw [hTA] at hta ⊢
  rw [hTB] at htb ⊢
  have HT := Lib.hid (And.intro hTA hTB)
  have ta1 := hta.1
  have ta2 := hta.2
  have tb1 := htb.1
  have tb2 := htb.2
  clear hTA hTB hta htb
  rcases HK.out with ⟨rfl, ha1⟩ | ⟨rfl, ha1⟩ | rfl | ⟨rfl, ha1⟩ | rfl
  · obtain ⟨k, rfl⟩ : ∃ k : Nat, A = (k : Int) + 1 := ⟨(A - 1).toNat, by omega⟩
    have hk : k < s.1.length := by rw [HR.out.2.2.1]; omega
    have i1 : (k : Int) < (s.1.length : Int) := by omega
    have hcc := HST.out.2.1.1 k hk
    have hzz := HST.out.2.2.1 k
    have HE := Lib.hid (show basicR 1 ((k : Int) + 1) B s = (0, (s.1.set k TB, s.2)) by
      rw [basicR, if_pos rfl, HT.out.2, show ((k : Int) + 1 - 1).toNat = k by omega])
    go_wp2
    have hFx := fr_set W ⟨g1, k, none⟩ (.int .i64 TB)
    have r0' := hFx.cell (p := ⟨w.heap.size + 1 + 1, 0, none⟩) (fun e => n3 (by have e2 : w.heap.size + 1 + 1 = g1 := e; exact e2.symm)) r0
    have r1' := hFx.cell (p := ⟨w.heap.size + 1 + 1, 1, none⟩) (fun e => n3 (by have e2 : w.heap.size + 1 + 1 = g1 := e; exact e2.symm)) r1
    have r := box_two (.slice (some ⟨g1, 0, none⟩) s.1.length k1) (.slice (some ⟨g2, 0, none⟩) s.2.length k2) r0' r1'
    have r2 := r
    refine bodyPost_ret (v := .tuple #[.agg #[.slice (some ⟨g1, 0, none⟩) s.1.length k1, .slice (some ⟨g2, 0, none⟩) s.2.length k2], .int .i64 0]) (by simp [results, Tryz.results74, go_sem, r2.1, r2.2]) rfl ?_
    have hFS := (fr_set ((W.setCell ⟨g1, k, none⟩ (.int .i64 TB))) ⟨w.heap.size + 1 + 1, 0, none⟩ (.slice (some ⟨g1, 0, none⟩) s.1.length k1)).trans (fr_set _ ⟨w.heap.size + 1 + 1, 1, none⟩ (.slice (some ⟨g2, 0, none⟩) s.2.length k2))
    have hB5 : Below w.heap.size w ((W.setCell ⟨g1, k, none⟩ (.int .i64 TB))) := below_st HB4.out _ _ (by show w.heap.size ≤ g1; omega)
    have hO := ((HST.out.1.1 k TB).kept hFS (fun i h1 _ e => by have e2 : i = w.heap.size + 1 + 1 := e; omega))
    refine ⟨_, _, by rw [HE.out], ?_, below_st (below_st hB5 _ _ (by show w.heap.size ≤ w.heap.size + 1 + 1; omega)) _ _ (by show w.heap.size ≤ w.heap.size + 1 + 1; omega)⟩
    rw [HE.out]
    exact ⟨(own_ints hO.one).1, (own_ints hO.two).1⟩
  · go_wp2_with fail
    refine (l2Has_any _ _ s.2 TB _ (HR.out.1.2.keep HB4.out) (by rw [HR.out.2.2.2]; decide)).mono ?_
    rintro e w6 ⟨rfl, hb6⟩
    have hzz6 := hb6.size
    have HB6 := Lib.hid (HB4.out.trans (hb6.mono HB4.out.size))
    have HST6 := Lib.hid (HBX.out.2.2.2.keep hb6)
    have HBX6 := Lib.hid (And.intro (box_keep HBX.out.1 hb6) (And.intro (box_keep HBX.out.2.1 hb6) (box_keep HBX.out.2.2.1 hb6)))
    replace o0 := cell_keep hb6 o0
    replace o1 := cell_keep hb6 o1
    replace p0 := box0 HBX6.out.1
    replace p1 := box1 HBX6.out.1
    replace q1 := cell_of_row _ _ 1 _ _ _ HBX6.out.2.1
    replace r0 := box0 HBX6.out.2.2
    replace r1 := box1 HBX6.out.2.2
    replace z0 := boxz HBX6.out.2.2 0
    replace z1 := boxz HBX6.out.2.2 1
    clear hb6
    cases hal : alB s.2 TB with
    | false =>
      have HE := Lib.hid (show basicR 2 A B s = (1, s) by simp [basicR, HT.out.1, HT.out.2, hal])
      have HE2 := Lib.hid (fail_res HE.out (by decide))
      clear hal
      go_wp2
      have r := box_two (.slice none 0 0) (.slice none 0 0) r0 r1
      refine bodyPost_ret (v := .tuple #[.agg #[.slice none 0 0, .slice none 0 0], .int .i64 1]) (by simp [results, Tryz.results74, go_sem, r.1, r.2]) rfl ?_
      exact ⟨_, _, by rw [HE.out], by rw [HE2.out]; exact ⟨rints_nil _, rints_nil _⟩, below_st (below_st HB6.out _ _ (by show w.heap.size ≤ w.heap.size + 1 + 1; omega)) _ _ (by show w.heap.size ≤ w.heap.size + 1 + 1; omega)⟩
    | true =>
      have had := al_addr hal
      obtain ⟨m, rfl⟩ : ∃ m : Nat, TB = (m : Int) + 1 := ⟨(TB - 1).toNat, by omega⟩
      have hm : m < s.2.length := by rw [HR.out.2.2.2]; omega
      have i2 : (m : Int) < (s.2.length : Int) := by omega
      obtain ⟨g1', k1', g2', k2', e1, e2, _, _, _, hc1, hc2, hz1, hz2, hset1, hset2⟩ := HST6.out.forms (by rw [HR.out.2.2.1]; decide) (by rw [HR.out.2.2.2]; decide)
      obtain ⟨rfl, rfl⟩ : g1 = g1' ∧ k1 = k1' := by
        injection e1 with e1 _ e3
        injection e1 with e1
        injection e1 with e1
        exact ⟨e1, e3⟩
      obtain ⟨rfl, rfl⟩ : g2 = g2' ∧ k2 = k2' := by
        injection e2 with e2 _ e3
        injection e2 with e2
        injection e2 with e2
        exact ⟨e2, e3⟩
      clear e1 e2
      obtain ⟨k, rfl⟩ : ∃ k : Nat, A = (k : Int) + 1 := ⟨(A - 1).toNat, by omega⟩
      have hk : k < s.1.length := by rw [HR.out.2.2.1]; omega
      have i1 : (k : Int) < (s.1.length : Int) := by omega
      have hcc := hc1 k hk
      have hzz := hz1 k
      have hsrc := cell_keep HB6.out (HC.out m hm)
      have hb2z : b2 < w6.heap.size := World.block_lt_of_cell? _ _ hsrc
      obtain ⟨V, hV⟩ : ∃ V, gi s.2 m = V := ⟨_, rfl⟩
      have HE := Lib.hid (show basicR 2 ((k : Int) + 1) B s = (0, (s.1.set k V, s.2)) by
        have e1 : ct s.2 ((m : Int) + 1) = V := by rw [ct, if_pos (isAddrB_iff.2 had), show ((m : Int) + 1 - 1).toNat = m by omega, hV]
        simp [basicR, HT.out.2, hal, e1])
      rw [hV] at hsrc
      have HS := Lib.hid (hset1 k V)
      clear hal had hc1 hc2 hz1 hz2 hset1 hset2 hV
      go_upto_region 10 with fail
      go_region
      go_wp2
      have hFx := fr_set w6 ⟨g1, k, none⟩ (.int .i64 V)
      have r0' := hFx.cell (p := ⟨w.heap.size + 1 + 1, 0, none⟩) (fun e => n3 (by have e2 : w.heap.size + 1 + 1 = g1 := e; exact e2.symm)) r0
      have r1' := hFx.cell (p := ⟨w.heap.size + 1 + 1, 1, none⟩) (fun e => n3 (by have e2 : w.heap.size + 1 + 1 = g1 := e; exact e2.symm)) r1
      have r := box_two (.slice (some ⟨g1, 0, none⟩) s.1.length k1) (.slice (some ⟨g2, 0, none⟩) s.2.length k2) r0' r1'
      have r2 := And.intro (cell_keep (below_drew _) r.1) (cell_keep (below_drew _) r.2)
      refine bodyPost_ret (v := .tuple #[.agg #[.slice (some ⟨g1, 0, none⟩) s.1.length k1, .slice (some ⟨g2, 0, none⟩) s.2.length k2], .int .i64 0]) (by simp [results, Tryz.results74, go_sem, r2.1, r2.2]) rfl ?_
      have hFS := (fr_set ((w6.setCell ⟨g1, k, none⟩ (.int .i64 V))) ⟨w.heap.size + 1 + 1, 0, none⟩ (.slice (some ⟨g1, 0, none⟩) s.1.length k1)).trans (fr_set _ ⟨w.heap.size + 1 + 1, 1, none⟩ (.slice (some ⟨g2, 0, none⟩) s.2.length k2))
      have hB5 : Below w.heap.size w ((w6.setCell ⟨g1, k, none⟩ (.int .i64 V))) := below_st HB6.out _ _ (by show w.heap.size ≤ g1; omega)
      have hO := (HS.out.kept hFS (fun i h1 _ e => by have e2 : i = w.heap.size + 1 + 1 := e; omega)).keep (below_drew _)
      refine ⟨_, _, by rw [HE.out], ?_, (bt (below_st (below_st hB5 _ _ (by show w.heap.size ≤ w.heap.size + 1 + 1; omega)) _ _ (by show w.heap.size ≤ w.heap.size + 1 + 1; omega)) (below_drew _))⟩
      rw [HE.out]
      exact ⟨(own_ints hO.one).1, (own_ints hO.two).1⟩
  · go_wp2_with fail
    refine (l2Has_any _ _ s.2 TA _ (HR.out.1.2.keep HB4.out) (by rw [HR.out.2.2.2]; decide)).mono ?_
    rintro e w6 ⟨rfl, hb6⟩
    have hzz6 := hb6.size
    have HB6 := Lib.hid (HB4.out.trans (hb6.mono HB4.out.size))
    have HST6 := Lib.hid (HBX.out.2.2.2.keep hb6)
    have HBX6 := Lib.hid (And.intro (box_keep HBX.out.1 hb6) (And.intro (box_keep HBX.out.2.1 hb6) (box_keep HBX.out.2.2.1 hb6)))
    replace o0 := cell_keep hb6 o0
    replace o1 := cell_keep hb6 o1
    replace p0 := box0 HBX6.out.1
    replace p1 := box1 HBX6.out.1
    replace q1 := cell_of_row _ _ 1 _ _ _ HBX6.out.2.1
    replace r0 := box0 HBX6.out.2.2
    replace r1 := box1 HBX6.out.2.2
    replace z0 := boxz HBX6.out.2.2 0
    replace z1 := boxz HBX6.out.2.2 1
    clear hb6
    cases hal : alB s.2 TA with
    | false =>
      have HE := Lib.hid (show basicR 3 A B s = (1, s) by simp [basicR, HT.out.1, HT.out.2, hal])
      have HE2 := Lib.hid (fail_res HE.out (by decide))
      clear hal
      go_wp2
      have r := box_two (.slice none 0 0) (.slice none 0 0) r0 r1
      refine bodyPost_ret (v := .tuple #[.agg #[.slice none 0 0, .slice none 0 0], .int .i64 1]) (by simp [results, Tryz.results74, go_sem, r.1, r.2]) rfl ?_
      exact ⟨_, _, by rw [HE.out], by rw [HE2.out]; exact ⟨rints_nil _, rints_nil _⟩, below_st (below_st HB6.out _ _ (by show w.heap.size ≤ w.heap.size + 1 + 1; omega)) _ _ (by show w.heap.size ≤ w.heap.size + 1 + 1; omega)⟩
    | true =>
      have had := al_addr hal
      obtain ⟨m, rfl⟩ : ∃ m : Nat, TA = (m : Int) + 1 := ⟨(TA - 1).toNat, by omega⟩
      have hm : m < s.2.length := by rw [HR.out.2.2.2]; omega
      have i2 : (m : Int) < (s.2.length : Int) := by omega
      obtain ⟨g1', k1', g2', k2', e1, e2, _, _, _, hc1, hc2, hz1, hz2, hset1, hset2⟩ := HST6.out.forms (by rw [HR.out.2.2.1]; decide) (by rw [HR.out.2.2.2]; decide)
      obtain ⟨rfl, rfl⟩ : g1 = g1' ∧ k1 = k1' := by
        injection e1 with e1 _ e3
        injection e1 with e1
        injection e1 with e1
        exact ⟨e1, e3⟩
      obtain ⟨rfl, rfl⟩ : g2 = g2' ∧ k2 = k2' := by
        injection e2 with e2 _ e3
        injection e2 with e2
        injection e2 with e2
        exact ⟨e2, e3⟩
      clear e1 e2
      have hcc := hc2 m hm
      have hzz := hz2 m
      have HE := Lib.hid (show basicR 3 A B s = (0, (s.1, s.2.set m TB)) by
        simp [basicR, HT.out.1, HT.out.2, hal])
      have HS := Lib.hid (hset2 m TB)
      clear hal had hc1 hc2 hz1 hz2 hset1 hset2
      go_wp2
      have hFx := fr_set w6 ⟨g2, m, none⟩ (.int .i64 TB)
      have r0' := hFx.cell (p := ⟨w.heap.size + 1 + 1, 0, none⟩) (fun e => n4 (by have e2 : w.heap.size + 1 + 1 = g2 := e; exact e2.symm)) r0
      have r1' := hFx.cell (p := ⟨w.heap.size + 1 + 1, 1, none⟩) (fun e => n4 (by have e2 : w.heap.size + 1 + 1 = g2 := e; exact e2.symm)) r1
      have r := box_two (.slice (some ⟨g1, 0, none⟩) s.1.length k1) (.slice (some ⟨g2, 0, none⟩) s.2.length k2) r0' r1'
      have r2 := r
      refine bodyPost_ret (v := .tuple #[.agg #[.slice (some ⟨g1, 0, none⟩) s.1.length k1, .slice (some ⟨g2, 0, none⟩) s.2.length k2], .int .i64 0]) (by simp [results, Tryz.results74, go_sem, r2.1, r2.2]) rfl ?_
      have hFS := (fr_set ((w6.setCell ⟨g2, m, none⟩ (.int .i64 TB))) ⟨w.heap.size + 1 + 1, 0, none⟩ (.slice (some ⟨g1, 0, none⟩) s.1.length k1)).trans (fr_set _ ⟨w.heap.size + 1 + 1, 1, none⟩ (.slice (some ⟨g2, 0, none⟩) s.2.length k2))
      have hB5 : Below w.heap.size w ((w6.setCell ⟨g2, m, none⟩ (.int .i64 TB))) := below_st HB6.out _ _ (by show w.heap.size ≤ g2; omega)
      have hO := (HS.out.kept hFS (fun i h1 _ e => by have e2 : i = w.heap.size + 1 + 1 := e; omega))
      refine ⟨_, _, by rw [HE.out], ?_, below_st (below_st hB5 _ _ (by show w.heap.size ≤ w.heap.size + 1 + 1; omega)) _ _ (by show w.heap.size ≤ w.heap.size + 1 + 1; omega)⟩
      rw [HE.out]
      exact ⟨(own_ints hO.one).1, (own_ints hO.two).1⟩
  · go_wp2_with fail
    refine (allocS_any _ _ s _ (HR.out.1.1.keep HB4.out) (HR.out.1.2.keep HB4.out) HR.out.2.1).mono ?_
    rintro e w6 ⟨y1, y2, rfl, hst6, hb6⟩
    have hzz6 := hb6.size
    have HB6 := Lib.hid (HB4.out.trans (hb6.mono HB4.out.size))
    have HBX6 := Lib.hid (And.intro (box_keep HBX.out.1 hb6) (And.intro (box_keep HBX.out.2.1 hb6) (box_keep HBX.out.2.2.1 hb6)))
    replace q1 := cell_of_row _ _ 1 _ _ _ HBX6.out.2.1
    replace r0 := box0 HBX6.out.2.2
    replace r1 := box1 HBX6.out.2.2
    replace z0 := boxz HBX6.out.2.2 0
    replace z1 := boxz HBX6.out.2.2 1
    clear o0 o1 p0 p1 q0 q2
    have hRz : w.heap.size + 1 + 1 < w6.heap.size := by omega
    have hQz : w.heap.size + 1 < w6.heap.size := by omega
    obtain ⟨fo, hfo⟩ : ∃ o, freeA s.2 = o := ⟨_, rfl⟩
    rw [hfo]
    cases fo with
    | none =>
      have HE := Lib.hid (show basicR 4 A B s = (2, s) by simp [basicR, hfo])
      have HE2 := Lib.hid (fail_res HE.out (by decide))
      have e0 : alV s = [] := by rw [alV, hfo]; rfl
      have e1 : alH s = [] := by rw [alH, hfo]
      rw [e0, e1] at hst6
      obtain ⟨ya1, yc1, rfl⟩ := (own_ints hst6.one).1.form
      obtain ⟨ya2, yc2, rfl⟩ := (own_ints hst6.two).1.form
      clear hst6 hb6 hfo e0 e1
      have hbN := below_alloc ((w6.setCell ⟨w.heap.size + 1 + 1, 0, none⟩ (.slice none 0 0)).setCell ⟨w.heap.size + 1 + 1, 1, none⟩ (.slice none 0 0)) (.cells #[.slice ya1 0 yc1, .slice ya2 0 yc2] 25)
      have r := box_two (.slice none 0 0) (.slice none 0 0) r0 r1
      have r2 := And.intro (cell_keep hbN r.1) (cell_keep hbN r.2)
      go_wp2
      refine bodyPost_ret (v := .tuple #[.agg #[.slice none 0 0, .slice none 0 0], .int .i64 2]) (by simp [results, Tryz.results74, go_sem, r2.1, r2.2]) rfl ?_
      exact ⟨_, _, by rw [HE.out], by rw [HE2.out]; exact ⟨rints_nil _, rints_nil _⟩, bt (below_st (below_st HB6.out _ _ (by show w.heap.size ≤ w.heap.size + 1 + 1; omega)) _ _ (by show w.heap.size ≤ w.heap.size + 1 + 1; omega)) hbN⟩
    | some n =>
      have hfr := freeA_le hfo
      have e0 : alV s = s.1 := by rw [alV, hfo]; rfl
      have e1 : alH s = s.2.set (n - 1).toNat 0 := by rw [alH, hfo]
      rw [e0, e1] at hst6
      obtain ⟨k, rfl⟩ : ∃ k : Nat, A = (k : Int) + 1 := ⟨(A - 1).toNat, by omega⟩
      have HE := Lib.hid (show basicR 4 ((k : Int) + 1) B s = (0, (s.1.set k n, s.2.set (n - 1).toNat 0)) by
        simp [basicR, hfo])
      have hbN := below_alloc w6 (.cells #[y1, y2] 25)
      have hk : k < s.1.length := by rw [HR.out.2.2.1]; omega
      have hl2 : 0 < (s.2.set (n - 1).toNat 0).length := by rw [List.length_set, HR.out.2.2.2]; decide
      have hgv1 : ∀ g, some g = y1.ownBlock → g < w6.heap.size := fun g hg => (own_lt hst6.one hg).2
      have hgv2 : ∀ g, some g = y2.ownBlock → g < w6.heap.size := fun g hg => (own_lt hst6.two hg).2
      obtain ⟨g3, k3, g4, k4, rfl, rfl, ⟨hg3, hg3b⟩, ⟨hg4, hg4b⟩, hne6, hc3, hc4, hz3, hz4, hset3, hset4⟩ := (hst6.keep hbN).forms (by omega) hl2
      have hO6 := heap_alloc_new w6 (.cells #[.slice (some ⟨g3, 0, none⟩) s.1.length k3, .slice (some ⟨g4, 0, none⟩) s.2.length k4] 25)
      rw [List.length_set] at hg3b hg4b hc3 hc4 hz3 hz4 hset3 hset4 hbN
      have hR6 := box_keep HBX6.out.2.2 hbN
      have hQ6 := box_keep HBX6.out.2.1 hbN
      have HB7 := Lib.hid (HB6.out.trans (hbN.mono (show w.heap.size ≤ w6.heap.size by omega)))
      have hg3w := hgv1 g3 rfl
      have hg4w := hgv2 g4 rfl
      have HSN := Lib.hid (hset3 k n)
      have i1 : (k : Int) < (s.1.length : Int) := by omega
      have hcc := hc3 k hk
      have hzz := hz3 k
      clear hfo hfr e0 e1 hgv1 hgv2 hc3 hc4 hz3 hz4 hset3 hset4 hst6 hb6 r0 r1 z0 z1 q1
      go_upto_region 23 with fail
      obtain ⟨W7, hW7⟩ : ∃ W, w6.alloc (.cells #[.slice (some ⟨g3, 0, none⟩) s.1.length k3, .slice (some ⟨g4, 0, none⟩) s.2.length k4] 25) = W := ⟨_, rfl⟩
      have hWz7 : W7.heap.size = w6.heap.size + 1 := by rw [← hW7]; simp
      rw [hW7] at hg3b hg4b hcc hzz hO6 hR6 hQ6 HB7 HSN ⊢
      have q1 := cell_of_row _ _ 1 _ _ _ hQ6
      have o0 := box0 hO6
      have o1 := box1 hO6
      have r0 := box0 hR6
      have r1 := box1 hR6
      have z0 := boxz hR6 0
      have z1 := boxz hR6 1
      have m1 : ¬ g3 = w6.heap.size := by omega
      have m3 : ¬ g3 = w.heap.size + 1 + 1 := by omega
      clear hW7 hbN hO6 hR6 hQ6
      go_wp2
      have hFx := fr_set W7 ⟨g3, k, none⟩ (.int .i64 n)
      have r0' := hFx.cell (p := ⟨w.heap.size + 1 + 1, 0, none⟩) (fun e => m3 (by have e2 : w.heap.size + 1 + 1 = g3 := e; exact e2.symm)) r0
      have r1' := hFx.cell (p := ⟨w.heap.size + 1 + 1, 1, none⟩) (fun e => m3 (by have e2 : w.heap.size + 1 + 1 = g3 := e; exact e2.symm)) r1
      have r := box_two (.slice (some ⟨g3, 0, none⟩) s.1.length k3) (.slice (some ⟨g4, 0, none⟩) s.2.length k4) r0' r1'
      have r2 := r
      refine bodyPost_ret (v := .tuple #[.agg #[.slice (some ⟨g3, 0, none⟩) s.1.length k3, .slice (some ⟨g4, 0, none⟩) s.2.length k4], .int .i64 0]) (by simp [results, Tryz.results74, go_sem, r2.1, r2.2]) rfl ?_
      have hFS := (fr_set ((W7.setCell ⟨g3, k, none⟩ (.int .i64 n))) ⟨w.heap.size + 1 + 1, 0, none⟩ (.slice (some ⟨g3, 0, none⟩) s.1.length k3)).trans (fr_set _ ⟨w.heap.size + 1 + 1, 1, none⟩ (.slice (some ⟨g4, 0, none⟩) s.2.length k4))
      have hB5 : Below w.heap.size w ((W7.setCell ⟨g3, k, none⟩ (.int .i64 n))) := below_st HB7.out _ _ (by show w.heap.size ≤ g3; omega)
      have hO := (HSN.out.kept hFS (fun i h1 _ e => by have e2 : i = w.heap.size + 1 + 1 := e; omega))
      refine ⟨_, _, by rw [HE.out], ?_, below_st (below_st hB5 _ _ (by show w.heap.size ≤ w.heap.size + 1 + 1; omega)) _ _ (by show w.heap.size ≤ w.heap.size + 1 + 1; omega)⟩
      rw [HE.out]
      exact ⟨(own_ints hO.one).1, (own_ints hO.two).1⟩
  · go_wp2_with fail
    refine (l2Has_any _ _ s.2 TA _ (HR.out.1.2.keep HB4.out) (by rw [HR.out.2.2.2]; decide)).mono ?_
    rintro e w6 ⟨rfl, hb6⟩
    have hzz6 := hb6.size
    have HB6 := Lib.hid (HB4.out.trans (hb6.mono HB4.out.size))
    have HST6 := Lib.hid (HBX.out.2.2.2.keep hb6)
    have HBX6 := Lib.hid (And.intro (box_keep HBX.out.1 hb6) (And.intro (box_keep HBX.out.2.1 hb6) (box_keep HBX.out.2.2.1 hb6)))
    replace o0 := cell_keep hb6 o0
    replace o1 := cell_keep hb6 o1
    replace p0 := box0 HBX6.out.1
    replace p1 := box1 HBX6.out.1
    replace q1 := cell_of_row _ _ 1 _ _ _ HBX6.out.2.1
    replace r0 := box0 HBX6.out.2.2
    replace r1 := box1 HBX6.out.2.2
    replace z0 := boxz HBX6.out.2.2 0
    replace z1 := boxz HBX6.out.2.2 1
    clear hb6
    cases hal : alB s.2 TA with
    | false =>
      have HE := Lib.hid (show basicR 5 A B s = (1, s) by simp [basicR, HT.out.1, HT.out.2, hal])
      have HE2 := Lib.hid (fail_res HE.out (by decide))
      clear hal
      go_wp2
      have r := box_two (.slice none 0 0) (.slice none 0 0) r0 r1
      refine bodyPost_ret (v := .tuple #[.agg #[.slice none 0 0, .slice none 0 0], .int .i64 1]) (by simp [results, Tryz.results74, go_sem, r.1, r.2]) rfl ?_
      exact ⟨_, _, by rw [HE.out], by rw [HE2.out]; exact ⟨rints_nil _, rints_nil _⟩, below_st (below_st HB6.out _ _ (by show w.heap.size ≤ w.heap.size + 1 + 1; omega)) _ _ (by show w.heap.size ≤ w.heap.size + 1 + 1; omega)⟩
    | true =>
      have had := al_addr hal
      obtain ⟨m, rfl⟩ : ∃ m : Nat, TA = (m : Int) + 1 := ⟨(TA - 1).toNat, by omega⟩
      have hm : m < s.2.length := by rw [HR.out.2.2.2]; omega
      have i2 : (m : Int) < (s.2.length : Int) := by omega
      obtain ⟨g1', k1', g2', k2', e1, e2, _, _, _, hc1, hc2, hz1, hz2, hset1, hset2⟩ := HST6.out.forms (by rw [HR.out.2.2.1]; decide) (by rw [HR.out.2.2.2]; decide)
      obtain ⟨rfl, rfl⟩ : g1 = g1' ∧ k1 = k1' := by
        injection e1 with e1 _ e3
        injection e1 with e1
        injection e1 with e1
        exact ⟨e1, e3⟩
      obtain ⟨rfl, rfl⟩ : g2 = g2' ∧ k2 = k2' := by
        injection e2 with e2 _ e3
        injection e2 with e2
        injection e2 with e2
        exact ⟨e2, e3⟩
      clear e1 e2
      have hcc := hc2 m hm
      have hzz := hz2 m
      have HE := Lib.hid (show basicR 5 A B s = (0, (s.1, s.2.set m (-1))) by
        simp [basicR, HT.out.1, hal])
      have HS := Lib.hid (hset2 m (-1))
      clear hal had hc1 hc2 hz1 hz2 hset1 hset2
      go_wp2
      have hFx := fr_set w6 ⟨g2, m, none⟩ (.int .i64 (-1))
      have r0' := hFx.cell (p := ⟨w.heap.size + 1 + 1, 0, none⟩) (fun e => n4 (by have e2 : w.heap.size + 1 + 1 = g2 := e; exact e2.symm)) r0
      have r1' := hFx.cell (p := ⟨w.heap.size + 1 + 1, 1, none⟩) (fun e => n4 (by have e2 : w.heap.size + 1 + 1 = g2 := e; exact e2.symm)) r1
      have r := box_two (.slice (some ⟨g1, 0, none⟩) s.1.length k1) (.slice (some ⟨g2, 0, none⟩) s.2.length k2) r0' r1'
      have r2 := r
      refine bodyPost_ret (v := .tuple #[.agg #[.slice (some ⟨g1, 0, none⟩) s.1.length k1, .slice (some ⟨g2, 0, none⟩) s.2.length k2], .int .i64 0]) (by simp [results, Tryz.results74, go_sem, r2.1, r2.2]) rfl ?_
      have hFS := (fr_set ((w6.setCell ⟨g2, m, none⟩ (.int .i64 (-1)))) ⟨w.heap.size + 1 + 1, 0, none⟩ (.slice (some ⟨g1, 0, none⟩) s.1.length k1)).trans (fr_set _ ⟨w.heap.size + 1 + 1, 1, none⟩ (.slice (some ⟨g2, 0, none⟩) s.2.length k2))
      have hB5 : Below w.heap.size w ((w6.setCell ⟨g2, m, none⟩ (.int .i64 (-1)))) := below_st HB6.out _ _ (by show w.heap.size ≤ g2; omega)
      have hO := (HS.out.kept hFS (fun i h1 _ e => by have e2 : i = w.heap.size + 1 + 1 := e; omega))
      refine ⟨_, _, by rw [HE.out], ?_, below_st (below_st hB5 _ _ (by show w.heap.size ≤ w.heap.size + 1 + 1; omega)) _ _ (by show w.heap.size ≤ w.heap.size + 1 + 1; omega)⟩
      rw [HE.out]
      exact ⟨(own_ints hO.one).1, (own_ints hO.two).1⟩
end Go.Proofs.YtgfnoinkajfndaaGreat
