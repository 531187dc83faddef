/- Walks: the machine that executes commands (the program's AllocCell, pay, basic). -/
import Derived.Test.YtgfnoinkajfndaaGreatARunS
import Derived.Test.YtgfnoinkajfndaaGreatARunT
import Derived.Test.YtgfnoinkajfndaaGreatACpy
import Derived.Deep.RegionLaw
import Derived.Handy
import Derived.Deep.DeepMust
import Derived.Deep.Cut
import Derived.Deep.CutBlock
import Derived.Deep.CutRange
set_option linter.unusedVariables false
set_option linter.unusedSimpArgs false
namespace Go.Proofs.YtgfnoinkajfndaaGreat
open Go.RowKit

set_option maxRecDepth 100000 in
set_option maxHeartbeats 6400000 in
theorem allocI_any (v1 v2 : Value) (s : St) (w : World) (h1 : RInts w v1 s.1) (h2 : RInts w v2 s.2) (hv : okSt s) :
    Calls Tryz.prog 163 #[.agg #[v1, v2]] w fun e w' => ∃ u1 u2, e = .returned (.tuple #[.agg #[u1, u2], .int .i64 ((freeA s.2).getD 0), .bool (freeA s.2).isSome]) ∧ OwnSt w' w.heap.size u1 u2 (alV s) (alH s) ∧ Below w.heap.size w w' := by
  obtain ⟨a1, c1, rfl⟩ := h1.form
  obtain ⟨a2, c2, rfl⟩ := h2.form
  have hn := valid_len hv
  have hn1 := hn.1
  have hn2 := hn.2
  have HR := Lib.hid (And.intro (And.intro h1 h2) (And.intro hv hn))
  have hP := box_keep (heap_alloc_new w (.cells #[.slice a1 s.1.length c1, .slice a2 s.2.length c2] 25)) (below_alloc _ (.cells #[.slice none 0 0, .slice none 0 0] 25))
  have hR := heap_alloc_new (w.alloc (.cells #[.slice a1 s.1.length c1, .slice a2 s.2.length c2] 25)) (.cells #[.slice none 0 0, .slice none 0 0] 25)
  have hb0 := bt (below_alloc w (.cells #[.slice a1 s.1.length c1, .slice a2 s.2.length c2] 25)) (below_alloc _ (.cells #[.slice none 0 0, .slice none 0 0] 25))
  simp only [World.size_alloc] at hR
  have HB0 := Lib.hid (And.intro hb0 (And.intro hP hR))
  clear h1 h2 hn hv hP hR hb0 hn1 hn2
  go_enter Tryz.func163, Tryz.ntmps163
  go_wp2_with fail
  refine (cb (stateValid_any _ _ s.1 s.2 _ (HR.out.1.1.keep HB0.out.1) (HR.out.1.2.keep HB0.out.1)) HR.out.2.1).mono ?_
  rintro e w1 ⟨rfl, hb1⟩
  have HB1 := Lib.hid (And.intro (bt HB0.out.1 hb1) (And.intro (box_keep HB0.out.2.1 hb1) (box_keep HB0.out.2.2 hb1)))
  clear hb1
  go_wp2
  go_loopg [5] 8 (fun q i wr => ∃ k : Nat, k + q = 8 ∧ i = .int .i64 ((k : Int) + 1) ∧ (∀ j : Nat, j < k → alB s.2 ((j : Int) + 1) = true) ∧ (wr.heap[w.heap.size]? = some (.cells #[.slice a1 s.1.length c1, .slice a2 s.2.length c2] 25 (0, 0)) ∧ wr.heap[w.heap.size + 1]? = some (.cells #[.slice none 0 0, .slice none 0 0] 25 (0, 0))) ∧ Below w.heap.size w wr)
  case atStart => exact ⟨0, by omega, rfl, fun j hj => absurd hj (Nat.not_lt_zero j), HB1.out.2, HB1.out.1⟩
  case round =>
    obtain ⟨k, hk, rfl, hal, ⟨hP, hR⟩, hb⟩ := hrel
    have HK := Lib.hid hk
    have HAL := Lib.hid hal
    have HPR := Lib.hid (And.intro hP hR)
    have p0 := box0 hP
    have p1 := box1 hP
    have r0 := box0 hR
    have r1 := box1 hR
    have z0 := boxz hR 0
    have z1 := boxz hR 1
    have hzR := box_lt hR
    have hs := hb.size
    clear hk hal hP hR
    by_cases hk8 : k < 8
    · have i1 : (k : Int) + 1 ≤ 8 := by omega
      go_wp2_with fail
      refine (allocated_any _ _ s.2 ((k : Int) + 1) _ (HR.out.1.2.keep hb) (by rw [HR.out.2.2.2]; decide)).mono ?_
      rintro e w3 ⟨rfl, hb3⟩
      replace p0 := cell_keep hb3 p0
      replace p1 := cell_keep hb3 p1
      have hs3 := hb3.size
      have HB3 := Lib.hid (bt hb hb3)
      have HPR3 := Lib.hid (And.intro (box_keep HPR.out.1 hb3) (box_keep HPR.out.2 hb3))
      clear hb3 r0 r1 z0 z1
      cases ha : alB s.2 ((k : Int) + 1) with
      | true =>
        have HA := Lib.hid ha
        clear ha
        go_wp2
        go_roundg (gk - 1)
        case rel => exact ⟨k + 1, by have := HK.out; omega, by go_num, fun j hj => by
          by_cases e : j = k
          · rw [e]; exact HA.out
          · exact HAL.out j (by omega), HPR3.out, HB3.out⟩
        case measure => have := HK.out; omega
      | false =>
        have HF := Lib.hid (freeA_hit hk8 HAL.out ha)
        clear ha
        go_wp2_with fail
        refine (copyState_any _ _ s.1 s.2 _ (HR.out.1.1.keep HB3.out) (HR.out.1.2.keep HB3.out) (by rw [HR.out.2.2.1]; decide) (by rw [HR.out.2.2.2]; decide)).mono ?_
        rintro e w4 ⟨u1, u2, rfl, hst, hb4⟩
        have hbO := below_alloc w4 (.cells #[u1, u2] 25)
        have hgw : ∀ g, some g = u2.ownBlock → g < w4.heap.size := fun g hg => (own_lt hst.two hg).2
        obtain ⟨g1, k1, g2, k2, rfl, rfl, ⟨hg1, hg1b⟩, ⟨hg2, hg2b⟩, hne, hc1, hc2, hz1, hz2, hset1, hset2⟩ := (hst.keep hbO).forms (by rw [HR.out.2.2.1]; decide) (by rw [HR.out.2.2.2]; decide)
        have hO := heap_alloc_new w4 (.cells #[.slice (some ⟨g1, 0, none⟩) s.1.length k1, .slice (some ⟨g2, 0, none⟩) s.2.length k2] 25)
        have hR4 := box_keep (box_keep HPR3.out.2 hb4) hbO
        have hs4 := hb4.size
        have HB4 := Lib.hid ((HB3.out.trans (hb4.mono HB3.out.size)).trans (hbO.mono (by omega)))
        go_upto_region 8 with fail
        obtain ⟨W, hW⟩ : ∃ W, w4.alloc (.cells #[.slice (some ⟨g1, 0, none⟩) s.1.length k1, .slice (some ⟨g2, 0, none⟩) s.2.length k2] 25) = W := ⟨_, rfl⟩
        have hWz : W.heap.size = w4.heap.size + 1 := by rw [← hW]; simp
        rw [hW] at hg1b hg2b hc1 hc2 hz1 hz2 hset1 hset2 hO hR4 HB4 ⊢
        have hk2 : k < s.2.length := by rw [HR.out.2.2.2]; exact hk8
        have hcc := hc2 k hk2
        have hzz := hz2 k
        have o0 := box0 hO
        have o1 := box1 hO
        have r0 := box0 hR4
        have r1 := box1 hR4
        have z0 := boxz hR4 0
        have z1 := boxz hR4 1
        have i2 : (k : Int) < (s.2.length : Int) := by omega
        have HS := Lib.hid (hset2 k 0)
        have hlo := HB3.out.size
        have hne2 : ¬ g2 = w.heap.size + 1 := by omega
        have hne3 : ¬ g2 = w4.heap.size := fun e => by have := hgw g2 rfl; omega
        clear hW hgw hc1 hc2 hz1 hz2 hset1 hset2 hst hb4 hbO hO hR4
        go_wp2
        have r0' := (fr_set W ⟨g2, k, none⟩ (.int .i64 0)).cell (p := ⟨w.heap.size + 1, 0, none⟩) (fun e => hne2 (by have e2 : w.heap.size + 1 = g2 := e; exact e2.symm)) r0
        have r1' := (fr_set W ⟨g2, k, none⟩ (.int .i64 0)).cell (p := ⟨w.heap.size + 1, 1, none⟩) (fun e => hne2 (by have e2 : w.heap.size + 1 = g2 := e; exact e2.symm)) r1
        have r := box_two (.slice (some ⟨g1, 0, none⟩) s.1.length k1) (.slice (some ⟨g2, 0, none⟩) s.2.length k2) r0' r1'
        refine bodyPost_ret (v := .tuple #[.agg #[.slice (some ⟨g1, 0, none⟩) s.1.length k1, .slice (some ⟨g2, 0, none⟩) s.2.length k2], .int .i64 ((k : Int) + 1), .bool true]) (by simp [results, Tryz.results163, go_sem, r.1, r.2]) rfl ?_
        have hFS := (fr_set (W.setCell ⟨g2, k, none⟩ (.int .i64 0)) ⟨w.heap.size + 1, 0, none⟩ (.slice (some ⟨g1, 0, none⟩) s.1.length k1)).trans (fr_set _ ⟨w.heap.size + 1, 1, none⟩ (.slice (some ⟨g2, 0, none⟩) s.2.length k2))
        have hB5 : Below w.heap.size w (W.setCell ⟨g2, k, none⟩ (.int .i64 0)) := below_st HB4.out _ _ (by show w.heap.size ≤ g2; omega)
        refine ⟨_, _, by rw [HF.out]; rfl, ?_, below_st (below_st hB5 _ _ (by show w.heap.size ≤ w.heap.size + 1; omega)) _ _ (by show w.heap.size ≤ w.heap.size + 1; omega)⟩
        have e1 : alV s = s.1 := by rw [alV, HF.out]; rfl
        have e2 : alH s = s.2.set k 0 := by
          rw [alH, HF.out]
          show s.2.set ((k : Int) + 1 - 1).toNat 0 = _
          rw [show ((k : Int) + 1 - 1).toNat = k by omega]
        rw [e1, e2]
        exact (HS.out.kept hFS (fun i h1 _ e => by have e2 : i = w.heap.size + 1 := e; omega)).mono (by omega)
    · have i1 : ¬ (k : Int) + 1 ≤ 8 := by omega
      have HN := Lib.hid (freeA_none (hl := s.2) fun j hj => HAL.out j (by omega))
      go_wp2
      have r := box_two (.slice none 0 0) (.slice none 0 0) r0 r1
      refine bodyPost_ret (v := .tuple #[.agg #[.slice none 0 0, .slice none 0 0], .int .i64 0, .bool false]) (by simp [results, Tryz.results163, go_sem, r.1, r.2]) rfl ?_
      exact ⟨_, _, by rw [HN.out]; rfl, by rw [alV, alH, HN.out]; exact ownSt_nil _ _, (((Below.chg hb).then (fr_set _ _ _) (fun i hi e => by simp at e; omega)).then (fr_set _ _ _) (fun i hi e => by simp at e; omega)).below (Nat.le_refl _) (fun k hk e => by omega)⟩
/-- The machine: its state, its fuel; F: the blocks that it may change. -/
def MSt (w : World) (F : Nat → Prop) (m : Nat) (s : St) (f : Nat) : Prop :=
  ∃ g1 c1 g2 c2, w.heap[m]? = some (.cells #[.slice (some ⟨g1, 0, none⟩) s.1.length c1, .slice (some ⟨g2, 0, none⟩) s.2.length c2, .int .i64 (f : Int)] 60 (0, 0)) ∧ OwnSt w 0 (.slice (some ⟨g1, 0, none⟩) s.1.length c1) (.slice (some ⟨g2, 0, none⟩) s.2.length c2) s.1 s.2 ∧ (¬ g1 = m ∧ ¬ g2 = m) ∧ (F m ∧ F g1 ∧ F g2) ∧ okSt s
theorem MSt.keep {w w' : World} {F : Nat → Prop} {m : Nat} {s : St} {f : Nat} (h : MSt w F m s f) (hb : Below w.heap.size w w') : MSt w' F m s f := by
  obtain ⟨g1, c1, g2, c2, h1, h2, h3, h4, h5⟩ := h
  exact ⟨g1, c1, g2, c2, box_keep h1 hb, h2.keep hb, h3, h4, h5⟩
theorem MSt.more {w : World} {F F' : Nat → Prop} {m : Nat} {s : St} {f : Nat} (h : MSt w F m s f) (hF : ∀ j, F j → F' j) : MSt w F' m s f := by
  obtain ⟨g1, c1, g2, c2, h1, h2, h3, h4, h5⟩ := h
  exact ⟨g1, c1, g2, c2, h1, h2, h3, ⟨hF _ h4.1, hF _ h4.2.1, hF _ h4.2.2⟩, h5⟩
theorem MSt.lt {w : World} {F : Nat → Prop} {m : Nat} {s : St} {f : Nat} (h : MSt w F m s f) : F m ∧ m < w.heap.size := by
  obtain ⟨g1, c1, g2, c2, h1, _, _, h4, _⟩ := h
  exact ⟨h4.1, box_lt h1⟩
theorem MSt.ok {w : World} {F : Nat → Prop} {m : Nat} {s : St} {f : Nat} (h : MSt w F m s f) : okSt s := by
  obtain ⟨g1, c1, g2, c2, _, _, _, _, h5⟩ := h
  exact h5
theorem box_set2 {w : World} {b : Nat} {x y z : Value} {T : TypeId} (h : w.heap[b]? = some (.cells #[x, y, z] T (0, 0))) (u : Value) : (w.setCell ⟨b, 2, none⟩ u).heap[b]? = some (.cells #[x, y, u] T (0, 0)) := by
  rw [heap_setCell_same w b 2 _ T u h]; rfl
/-- The fuel is written. -/
theorem MSt.pay {w : World} {F : Nat → Prop} {m : Nat} {s : St} {f f' : Nat} (h : MSt w F m s f) : MSt (w.setCell ⟨m, 2, none⟩ (.int .i64 (f' : Int))) F m s f' := by
  obtain ⟨g1, c1, g2, c2, h1, h2, h3, h4, h5⟩ := h
  have hn := valid_len h5
  have hF := fr_set w ⟨m, 2, none⟩ (.int .i64 (f' : Int))
  refine ⟨g1, c1, g2, c2, box_set2 h1 _, ⟨own_kept h2.one hF (fun k hk e => h3.1 ?_), own_kept h2.two hF (fun k hk e => h3.2 ?_), h2.apart⟩, h3, h4, h5⟩
  · have e2 : k = m := e
    have e3 : k = g1 := Option.some.inj hk
    omega
  · have e2 : k = m := e
    have e3 : k = g2 := Option.some.inj hk
    omega
theorem fr_st {w w' : World} {F : Nat → Prop} (h : Fr F w w') (p : Addr) (v : Value) (hp : F p.block) : Fr F w (w'.setCell p v) := h.then (fr_set w' p v) fun i _ e => by
  have e2 : i = p.block := e
  rw [e2]; exact hp
/-- What the machine gives. -/
def MRes (r : RRes) (F : Nat → Prop) (m : Nat) (w : World) (e : Ending) (w' : World) : Prop := e = .returned (.int .i64 r.1) ∧ MSt w' (fun j => F j ∨ w.heap.size ≤ j) m r.2.1 r.2.2 ∧ Fr F w w'
set_option maxRecDepth 100000 in
set_option maxHeartbeats 1600000 in
theorem pay_any (F : Nat → Prop) (m : Nat) (s : St) (f : Nat) (w : World) (h : MSt w F m s f) (hf : f ≤ 1000) :
    Calls Tryz.prog 133 #[.pointer (some ⟨m, 0, none⟩)] w fun e w' => e = .returned (.bool (decide (0 < f))) ∧ MSt w' F m s (f - 1) ∧ Fr F w w' := by
  have HM := Lib.hid h
  have hlt := h.lt
  obtain ⟨g1, c1, g2, c2, h1, h2, h3, h4, h5⟩ := h
  have p2 := cell_of_row _ _ 2 _ _ _ h1
  have z2 := frozen_of_row _ _ 2 _ _ h1
  have hm := hlt.2
  have HLT := Lib.hid hlt.1
  clear h1 h2 h3 h4 h5 hlt
  by_cases hf0 : f = 0
  · subst hf0
    go_enter Tryz.func133, Tryz.ntmps133
    go_wp2
    go_ret
    exact ⟨rfl, HM.out, Fr.refl _ _⟩
  · obtain ⟨k, rfl⟩ : ∃ k, f = k + 1 := ⟨f - 1, by omega⟩
    have i0 : (((k + 1 : Nat) : Int) == 0) = false := beq_eq_false_iff_ne.2 (by omega)
    have i1 : ((k + 1 : Nat) : Int) - 1 = (k : Int) := by omega
    have HP := Lib.hid (HM.out.pay (f' := k))
    go_enter Tryz.func133, Tryz.ntmps133
    go_wp2
    go_ret
    exact ⟨rfl, HP.out, fr_st (Fr.refl _ _) _ _ HLT.out⟩
end Go.Proofs.YtgfnoinkajfndaaGreat
