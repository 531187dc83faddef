/- Walks: the machine executes commands without blocks (the program's basic). (Printed by gen_mac.py.) -/
import Derived.Test.YtgfnoinkajfndaaGreatAMacI
import Derived.Deep.RegionLaw
import Derived.Handy
import Derived.Deep.DeepMust
import Derived.Deep.Cut
import Derived.Deep.CutBlock
import Derived.Deep.CutRange
set_option linter.unusedVariables false
set_option linter.unusedSimpArgs false
namespace Go.Proofs.YtgfnoinkajfndaaGreat
open Go.RowKit

/-- What the machine's blocks are. -/
structure MForm (w : World) (F : Nat → Prop) (m : Nat) (s : St) (f g1 c1 g2 c2 : Nat) : Prop where
  box : w.heap[m]? = some (.cells #[.slice (some ⟨g1, 0, none⟩) s.1.length c1, .slice (some ⟨g2, 0, none⟩) s.2.length c2, .int .i64 (f : Int)] 60 (0, 0))
  own : OwnSt w 0 (.slice (some ⟨g1, 0, none⟩) s.1.length c1) (.slice (some ⟨g2, 0, none⟩) s.2.length c2) s.1 s.2
  n1 : ¬ g1 = m
  n2 : ¬ g2 = m
  fm : F m
  f1 : F g1
  f2 : F g2
  ok : okSt s
theorem MForm.mst {w : World} {F : Nat → Prop} {m : Nat} {s : St} {f g1 c1 g2 c2 : Nat} (h : MForm w F m s f g1 c1 g2 c2) : MSt w F m s f := ⟨g1, c1, g2, c2, h.box, h.own, ⟨h.n1, h.n2⟩, ⟨h.fm, h.f1, h.f2⟩, h.ok⟩
theorem MSt.form {w : World} {F : Nat → Prop} {m : Nat} {s : St} {f : Nat} (h : MSt w F m s f) : ∃ g1 c1 g2 c2, MForm w F m s f g1 c1 g2 c2 := by
  obtain ⟨g1, c1, g2, c2, h1, h2, h3, h4, h5⟩ := h
  exact ⟨g1, c1, g2, c2, h1, h2, h3.1, h3.2, h4.1, h4.2.1, h4.2.2, h5⟩
section
variable {w w' : World} {F : Nat → Prop} {m : Nat} {s : St} {f g1 c1 g2 c2 : Nat}
theorem MForm.keep (h : MForm w F m s f g1 c1 g2 c2) (hb : Below w.heap.size w w') : MForm w' F m s f g1 c1 g2 c2 := ⟨box_keep h.box hb, h.own.keep hb, h.n1, h.n2, h.fm, h.f1, h.f2, h.ok⟩
theorem MForm.more {F' : Nat → Prop} (h : MForm w F m s f g1 c1 g2 c2) (hF : ∀ j, F j → F' j) : MForm w F' m s f g1 c1 g2 c2 := ⟨h.box, h.own, h.n1, h.n2, hF _ h.fm, hF _ h.f1, hF _ h.f2, h.ok⟩
theorem MForm.cells (h : MForm w F m s f g1 c1 g2 c2) : g1 < w.heap.size ∧ g2 < w.heap.size ∧ ¬ g1 = g2 ∧
    (∀ i, i < s.1.length → w.cell? ⟨g1, i, none⟩ = some (.int .i64 (gi s.1 i))) ∧ (∀ i, i < s.2.length → w.cell? ⟨g2, i, none⟩ = some (.int .i64 (gi s.2 i))) ∧ (∀ i, w.frozen? ⟨g1, i, none⟩ = false) ∧ (∀ i, w.frozen? ⟨g2, i, none⟩ = false) := by
  have hl := okSt_len h.ok
  obtain ⟨g1', c1', g2', c2', e1, e2, a1, a2, a3, a4, a5, a6, a7, _, _⟩ := h.own.forms hl.1 hl.2
  injection e1 with e1 _ _
  injection e1 with e1
  injection e1 with e1
  injection e2 with e2 _ _
  injection e2 with e2
  injection e2 with e2
  subst e1 e2
  exact ⟨a1.2, a2.2, a3, a4, a5, a6, a7⟩
theorem MForm.setV (h : MForm w F m s f g1 c1 g2 c2) (i : Nat) (x : Int) (hok : okSt (s.1.set i x, s.2)) : MForm (w.setCell ⟨g1, i, none⟩ (.int .i64 x)) F m (s.1.set i x, s.2) f g1 c1 g2 c2 := by
  have hl := okSt_len h.ok
  have hF := fr_set w ⟨g1, i, none⟩ (.int .i64 x)
  refine ⟨?_, ⟨?_, own_kept h.own.two hF (fun k hk e => h.own.apart k ?_ hk), h.own.apart⟩, h.n1, h.n2, h.fm, h.f1, h.f2, hok⟩
  · have := box_kept h.box hF (fun e => h.n1 (by have e2 : m = g1 := e; exact e2.symm))
    rw [List.length_set]; exact this
  · have := own_set h.own.one i x
    rw [List.length_set] at this ⊢; exact this
  · have e2 : k = g1 := e
    rw [e2]; rfl
theorem MForm.setH (h : MForm w F m s f g1 c1 g2 c2) (i : Nat) (x : Int) (hok : okSt (s.1, s.2.set i x)) : MForm (w.setCell ⟨g2, i, none⟩ (.int .i64 x)) F m (s.1, s.2.set i x) f g1 c1 g2 c2 := by
  have hF := fr_set w ⟨g2, i, none⟩ (.int .i64 x)
  refine ⟨?_, ⟨own_kept h.own.one hF (fun k hk e => h.own.apart k hk ?_), ?_, h.own.apart⟩, h.n1, h.n2, h.fm, h.f1, h.f2, hok⟩
  · have := box_kept h.box hF (fun e => h.n2 (by have e2 : m = g2 := e; exact e2.symm))
    rw [List.length_set]; exact this
  · have e2 : k = g2 := e
    rw [e2]; rfl
  · have := own_set h.own.two i x
    rw [List.length_set] at this ⊢; exact this
end
theorem box3_set {w : World} {b : Nat} {x y z : Value} {T : TypeId} (h : w.heap[b]? = some (.cells #[x, y, z] T (0, 0))) (u v : Value) : ((w.setCell ⟨b, 0, none⟩ u).setCell ⟨b, 1, none⟩ v).heap[b]? = some (.cells #[u, v, z] T (0, 0)) := by
  have h1 : (w.setCell ⟨b, 0, none⟩ u).heap[b]? = some (.cells #[u, y, z] T (0, 0)) := by rw [heap_setCell_same w b 0 _ T u h]; rfl
  rw [heap_setCell_same _ b 1 _ T v h1]; rfl
/-- A term. -/
def TermP (t : Int) : Prop := 0 ≤ t ∧ t ≤ 8
/-- What a command without blocks makes of the machine. -/
def BRes (r : Int × St) (F : Nat → Prop) (m f : Nat) (w : World) (e : Ending) (w' : World) : Prop := e = .returned (.int .i64 r.1) ∧ MSt w' (fun j => F j ∨ w.heap.size ≤ j) m r.2 f ∧ Fr F w w'
set_option maxRecDepth 100000 in
set_option maxHeartbeats 12800000 in
theorem basicI_any (F : Nat → Prop) (m f : Nat) (K A B : Int) (t : Fact) (f1 f2 x y : Value) (s : St) (w : World) (h : MSt w F m s f) (hf : (∃ a n k, f1 = .slice a n k) ∧ (∃ a n k, f2 = .slice a n k) ∧ (∃ a n k, x = .slice a n k) ∧ (∃ a n k, y = .slice a n k))
    (hA : 0 ≤ A ∧ A ≤ 8) (hB : 0 ≤ B ∧ B ≤ 8) (hK : (K = 1 ∧ 1 ≤ A) ∨ (K = 2 ∧ 1 ≤ A) ∨ K = 3 ∨ (K = 4 ∧ 1 ≤ A) ∨ K = 5) :
    Calls Tryz.prog 135 #[.pointer (some ⟨m, 0, none⟩), .agg #[.int .i64 K, .int .i64 A, .int .i64 B, .bool t.1, .int .i64 t.2.1, .int .i64 t.2.2, f1, f2, x, y]] w (BRes (basicR K A B s) F m f w) := by
  obtain ⟨⟨a3, n3, c3, rfl⟩, ⟨a4, n4, c4, rfl⟩, ⟨a5, n5, c5, rfl⟩, a6, n6, c6, rfl⟩ := hf
  obtain ⟨g1, c1, g2, c2, hm⟩ := h.form
  have hml := h.lt
  have hmw := hml.2
  have hn := valid_len hm.ok
  have hbA := below_alloc w (.cells #[.int .i64 K, .int .i64 A, .int .i64 B, .bool t.1, .int .i64 t.2.1, .int .i64 t.2.2, .slice a3 n3 c3, .slice a4 n4 c4, .slice a5 n5 c5, .slice a6 n6 c6] 77)
  have hQ := heap_alloc_new w (.cells #[.int .i64 K, .int .i64 A, .int .i64 B, .bool t.1, .int .i64 t.2.1, .int .i64 t.2.2, .slice a3 n3 c3, .slice a4 n4 c4, .slice a5 n5 c5, .slice a6 n6 c6] 77)
  have hzA : (w.alloc (.cells #[.int .i64 K, .int .i64 A, .int .i64 B, .bool t.1, .int .i64 t.2.1, .int .i64 t.2.2, .slice a3 n3 c3, .slice a4 n4 c4, .slice a5 n5 c5, .slice a6 n6 c6] 77)).heap.size = w.heap.size + 1 := by simp
  have HM := Lib.hid (And.intro hm (And.intro hbA hQ))
  have HN := Lib.hid hn
  have tA : TermP A := hA
  have tB : TermP B := hB
  have hA1 := hA.1
  have hA2 := hA.2
  have hB1 := hB.1
  have hB2 := hB.2
  have HK := Lib.hid hK
  have TV := Lib.hid (fun (t : Int) (W : World) (hb : Below w.heap.size w W) (ht : TermP t) => termValue_any (.slice (some ⟨g1, 0, none⟩) s.1.length c1) s.1 t W (own_ints (hm.own.keep hb).one).1 ht.1 (by rw [hn.1]; exact ht.2))
  have q0 := cell_of_row _ _ 0 _ _ _ hm.box
  have q1 := cell_of_row _ _ 1 _ _ _ hm.box
  clear h hm hml hn hbA hQ hA hB hK
  go_enter Tryz.func135, Tryz.ntmps135
  go_upto_region 1 with fail
  refine wp_region_ext (by kernel_rfl) (by kernel_rfl) ?_
  repeat (go_big_quiet_step ((go_at_call 160; exact ext_same (TV.out _ _ (HM.out.2.1.trans ((ext_below _ _).mono (by rw [hzA]; omega))) (by assumption)))))
  refine wpQuiet_nil ?_
  intro w5 hb5
  have HM5 := Lib.hid (And.intro ((HM.out.1.keep HM.out.2.1).keep hb5) (And.intro (bt HM.out.2.1 hb5) (box_keep HM.out.2.2 hb5)))
  have hz5 := hb5.size
  rw [hzA] at hz5
  obtain ⟨hg1b, hg2b, hne, hc1, hc2, hz1, hz2⟩ := HM5.out.1.cells
  have HC := Lib.hid (And.intro (And.intro hc1 hc2) (And.intro hz1 hz2))
  have m0 := cell_of_row _ _ 0 _ _ _ HM5.out.1.box
  have m1 := cell_of_row _ _ 1 _ _ _ HM5.out.1.box
  have mz0 := frozen_of_row _ _ 0 _ _ HM5.out.1.box
  have mz1 := frozen_of_row _ _ 1 _ _ HM5.out.1.box
  have k0 := cell_of_row _ _ 0 _ _ _ HM5.out.2.2
  have k1 := cell_of_row _ _ 1 _ _ _ HM5.out.2.2
  have hmz := box_lt HM5.out.1.box
  have hkz := box_lt HM5.out.2.2
  have hgm1 := HM5.out.1.n1
  have hgm2 := HM5.out.1.n2
  have HBB := Lib.hid ((Below.fr HM5.out.2.1).mono (S' := F) fun _ _ h => h.elim)
  have HF := Lib.hid (show ∀ j, F j → (F j ∨ w.heap.size ≤ j) from fun _ h => .inl h)
  have HBOK := Lib.hid (fun (k : Int) => basic_ok (k := k) HM5.out.1.ok tA tB)
  clear hb5 q0 q1 hc1 hc2 hz1 hz2 hzA
  obtain ⟨TA, hTA⟩ : ∃ T, tv s.1 A = T := ⟨_, rfl⟩
  obtain ⟨TB, hTB⟩ : ∃ T, tv s.1 B = T := ⟨_, rfl⟩
  have hta := tvT_le HM5.out.1.ok hA1 hA2
  have htb := tvT_le HM5.out.1.ok hB1 hB2
  rw [hTA] at hta ⊢
  rw [hTB] at htb ⊢
  have HT := Lib.hid (And.intro hTA hTB)
  have ta1 := hta.1
  have ta2 := hta.2
  have tb1 := htb.1
  have tb2 := htb.2
  clear hTA hTB hta htb tA tB
  rcases HK.out with ⟨rfl, ha1⟩ | ⟨rfl, ha1⟩ | rfl | ⟨rfl, ha1⟩ | rfl
  · obtain ⟨k, rfl⟩ : ∃ k : Nat, A = (k : Int) + 1 := ⟨(A - 1).toNat, by omega⟩
    have hk : k < s.1.length := by rw [HN.out.1]; omega
    have i1 : (k : Int) < (s.1.length : Int) := by omega
    have hcc := HC.out.1.1 k hk
    have hzz := HC.out.2.1 k
    have HE := Lib.hid (show basicR 1 ((k : Int) + 1) B s = (0, (s.1.set k TB, s.2)) by
      rw [basicR, if_pos rfl, HT.out.2, show ((k : Int) + 1 - 1).toNat = k by omega])
    have HS := Lib.hid (HM5.out.1.setV k TB (by have h := HBOK.out 1; rwa [HE.out] at h))
    go_upto_region 4 with fail
    go_region
    go_wp2
    go_ret
    exact ⟨by rw [HE.out]; rfl, by rw [HE.out]; exact ((HS.out.keep (below_drew _)).more HF.out).mst, (fr_st HBB.out _ _ HM5.out.1.f1).thenB (below_drew _)⟩
  · go_wp2_with fail
    refine (allocated_any _ _ s.2 TB _ (own_ints HM5.out.1.own.two).1 (by rw [HN.out.2]; decide)).mono ?_
    rintro e w6 ⟨rfl, hb6⟩
    have hz6 := hb6.size
    have HM6 := Lib.hid (And.intro (HM5.out.1.keep hb6) (And.intro (HBB.out.thenB hb6) (box_keep HM5.out.2.2 hb6)))
    obtain ⟨_, _, _, hc1, hc2, hz1, hz2⟩ := HM6.out.1.cells
    replace m0 := cell_of_row _ _ 0 _ _ _ HM6.out.1.box
    replace m1 := cell_of_row _ _ 1 _ _ _ HM6.out.1.box
    replace k1 := cell_of_row _ _ 1 _ _ _ HM6.out.2.2
    have hmz6 := box_lt HM6.out.1.box
    have hkz6 := box_lt HM6.out.2.2
    have hg1z : g1 < w6.heap.size := by omega
    have hg2z : g2 < w6.heap.size := by omega
    clear hb6 k0 mz0 mz1
    cases hal : alB s.2 TB with
    | false =>
      have HE := Lib.hid (show basicR 2 A B s = (1, s) by simp [basicR, HT.out.1, HT.out.2, hal])
      clear hal hc1 hc2 hz1 hz2
      go_wp2
      go_ret
      exact ⟨by rw [HE.out]; rfl, by rw [HE.out]; exact (HM6.out.1.more HF.out).mst, HM6.out.2.1⟩
    | true =>
      have had := al_addr hal
      obtain ⟨m2, rfl⟩ : ∃ m2 : Nat, TB = (m2 : Int) + 1 := ⟨(TB - 1).toNat, by omega⟩
      have hm2 : m2 < s.2.length := by rw [HN.out.2]; omega
      have i2 : (m2 : Int) < (s.2.length : Int) := by omega
      obtain ⟨k, rfl⟩ : ∃ k : Nat, A = (k : Int) + 1 := ⟨(A - 1).toNat, by omega⟩
      have hk : k < s.1.length := by rw [HN.out.1]; omega
      have i1 : (k : Int) < (s.1.length : Int) := by omega
      have hcc := hc1 k hk
      have hzz := hz1 k
      have HE := Lib.hid (show basicR 2 ((k : Int) + 1) B s = (0, (s.1.set k (ct s.2 ((m2 : Int) + 1)), s.2)) by
        simp [basicR, HT.out.2, hal])
      obtain ⟨V, hV⟩ : ∃ V, ct s.2 ((m2 : Int) + 1) = V := ⟨_, rfl⟩
      rw [hV] at HE
      have HV := Lib.hid hV
      have HOKS := Lib.hid (show okSt (s.1.set k V, s.2) by have h := HBOK.out 2; rwa [HE.out] at h)
      clear hal had hc1 hc2 hz1 hz2 hV
      have hkw : IntKind.i64.wrap (k : Int) = (k : Int) := IntWalk.i64_in _ (by omega)
      have hkn : ((k : Int)).toNat = k := Int.toNat_natCast k
      go_upto_region 8 with fail
      go_region_law (go_simp; go_at_call 162; go_must (refine (cbI (content_any _ _ s.2 ((m2 : Int) + 1) _ ((own_ints HM6.out.1.own.two).1.keep Bl) (by rw [HN.out.2]; decide)) HV.out).mono ?_; rintro e w7 ⟨rfl, hb7⟩; have hb7' := bt (show Below w6.heap.size w6 _ from Bl) hb7; replace hcc := cell_keep hb7' hcc; replace hzz : w7.frozen? ⟨g1, k, none⟩ = false := (HM6.out.1.keep hb7').cells.2.2.2.2.2.1 k; have m0b := cell_keep hb7' m0; have k1b := cell_keep hb7' k1; have hz7 := hb7'.size; have H7 := Lib.hid hb7'; clear hb7 hb7'))
      all_goals
        have HS := Lib.hid ((HM6.out.1.keep H7.out).setV k V HOKS.out)
        have HB7 := Lib.hid (fr_st (HM6.out.2.1.thenB H7.out) ⟨g1, k, none⟩ (.int .i64 V) HM6.out.1.f1)
        clear hcc hzz m0 m1 k1 m0b k1b hkw hkn
        go_wp2
        go_ret
        exact ⟨by rw [HE.out]; rfl, by rw [HE.out]; exact (HS.out.more HF.out).mst, HB7.out⟩
  · go_wp2_with fail
    refine (allocated_any _ _ s.2 TA _ (own_ints HM5.out.1.own.two).1 (by rw [HN.out.2]; decide)).mono ?_
    rintro e w6 ⟨rfl, hb6⟩
    have hz6 := hb6.size
    have HM6 := Lib.hid (And.intro (HM5.out.1.keep hb6) (And.intro (HBB.out.thenB hb6) (box_keep HM5.out.2.2 hb6)))
    obtain ⟨_, _, _, hc1, hc2, hz1, hz2⟩ := HM6.out.1.cells
    replace m0 := cell_of_row _ _ 0 _ _ _ HM6.out.1.box
    replace m1 := cell_of_row _ _ 1 _ _ _ HM6.out.1.box
    replace k1 := cell_of_row _ _ 1 _ _ _ HM6.out.2.2
    have hmz6 := box_lt HM6.out.1.box
    have hkz6 := box_lt HM6.out.2.2
    have hg1z : g1 < w6.heap.size := by omega
    have hg2z : g2 < w6.heap.size := by omega
    clear hb6 k0 mz0 mz1
    cases hal : alB s.2 TA with
    | false =>
      have HE := Lib.hid (show basicR 3 A B s = (1, s) by simp [basicR, HT.out.1, HT.out.2, hal])
      clear hal hc1 hc2 hz1 hz2
      go_wp2
      go_ret
      exact ⟨by rw [HE.out]; rfl, by rw [HE.out]; exact (HM6.out.1.more HF.out).mst, HM6.out.2.1⟩
    | true =>
      have had := al_addr hal
      obtain ⟨m2, rfl⟩ : ∃ m2 : Nat, TA = (m2 : Int) + 1 := ⟨(TA - 1).toNat, by omega⟩
      have hm2 : m2 < s.2.length := by rw [HN.out.2]; omega
      have i2 : (m2 : Int) < (s.2.length : Int) := by omega
      have hcc := hc2 m2 hm2
      have hzz := hz2 m2
      have HE := Lib.hid (show basicR 3 A B s = (0, (s.1, s.2.set m2 TB)) by
        simp [basicR, HT.out.1, HT.out.2, hal])
      have HS := Lib.hid (HM6.out.1.setH m2 TB (by have h := HBOK.out 3; rwa [HE.out] at h))
      clear hal had hc1 hc2 hz1 hz2
      go_wp2
      go_ret
      exact ⟨by rw [HE.out]; rfl, by rw [HE.out]; exact (HS.out.more HF.out).mst, fr_st HM6.out.2.1 _ _ HM6.out.1.f2⟩
  · go_wp2_with fail
    refine (allocI_any _ _ s _ (own_ints HM5.out.1.own.one).1 (own_ints HM5.out.1.own.two).1 HM5.out.1.ok).mono ?_
    rintro e w6 ⟨y1, y2, rfl, hst6, hb6⟩
    have hz6 := hb6.size
    have HM6 := Lib.hid (And.intro (HM5.out.1.keep hb6) (And.intro (HBB.out.thenB hb6) (box_keep HM5.out.2.2 hb6)))
    replace m0 := cell_of_row _ _ 0 _ _ _ HM6.out.1.box
    replace m1 := cell_of_row _ _ 1 _ _ _ HM6.out.1.box
    replace mz0 := frozen_of_row _ _ 0 _ _ HM6.out.1.box
    replace mz1 := frozen_of_row _ _ 1 _ _ HM6.out.1.box
    replace k1 := cell_of_row _ _ 1 _ _ _ HM6.out.2.2
    have hmz6 := box_lt HM6.out.1.box
    have hkz6 := box_lt HM6.out.2.2
    clear hb6 k0
    obtain ⟨fo, hfo⟩ : ∃ o, freeA s.2 = o := ⟨_, rfl⟩
    rw [hfo]
    cases fo with
    | none =>
      have HE := Lib.hid (show basicR 4 A B s = (2, s) by simp [basicR, hfo])
      have e0 : alV s = [] := by rw [alV, hfo]; rfl
      have e1 : alH s = [] := by rw [alH, hfo]
      rw [e0, e1] at hst6
      obtain ⟨ya1, yc1, rfl⟩ := (own_ints hst6.one).1.form
      obtain ⟨ya2, yc2, rfl⟩ := (own_ints hst6.two).1.form
      have hbN := below_alloc w6 (.cells #[.slice ya1 0 yc1, .slice ya2 0 yc2] 25)
      have HN6 := Lib.hid (And.intro ((HM6.out.1.keep hbN).more HF.out).mst (HM6.out.2.1.thenB hbN))
      clear hst6 hfo e0 e1 hbN
      go_wp2
      go_ret
      exact ⟨by rw [HE.out]; rfl, by rw [HE.out]; exact HN6.out.1, HN6.out.2⟩
    | some n =>
      have hfr := freeA_le hfo
      have e0 : alV s = s.1 := by rw [alV, hfo]; rfl
      have e1 : alH s = s.2.set (n - 1).toNat 0 := by rw [alH, hfo]
      rw [e0, e1] at hst6
      obtain ⟨k, rfl⟩ : ∃ k : Nat, A = (k : Int) + 1 := ⟨(A - 1).toNat, by omega⟩
      have HE := Lib.hid (show basicR 4 ((k : Int) + 1) B s = (0, (s.1.set k n, s.2.set (n - 1).toNat 0)) by
        simp [basicR, hfo])
      have hk : k < s.1.length := by rw [HN.out.1]; omega
      have i1 : (k : Int) < (s.1.length : Int) := by omega
      have hl2 : 0 < (s.2.set (n - 1).toNat 0).length := by rw [List.length_set, HN.out.2]; decide
      obtain ⟨g3, k3, g4, k4, rfl, rfl, ⟨hg3, hg3b⟩, ⟨hg4, hg4b⟩, hne6, hc3, hc4, hz3, hz4, _, _⟩ := hst6.forms (by omega) hl2
      rw [List.length_set] at hst6
      have hFm : Fr (fun j => j = m) w6 ((w6.setCell ⟨m, 0, none⟩ (.slice (some ⟨g3, 0, none⟩) s.1.length k3)).setCell ⟨m, 1, none⟩ (.slice (some ⟨g4, 0, none⟩) s.2.length k4)) := (fr_set w6 ⟨m, 0, none⟩ _).trans (fr_set _ ⟨m, 1, none⟩ _)
      have hbN := below_alloc ((w6.setCell ⟨m, 0, none⟩ (.slice (some ⟨g3, 0, none⟩) s.1.length k3)).setCell ⟨m, 1, none⟩ (.slice (some ⟨g4, 0, none⟩) s.2.length k4)) (.cells #[.slice (some ⟨g3, 0, none⟩) s.1.length k3, .slice (some ⟨g4, 0, none⟩) s.2.length k4] 25)
      have hbx : ((w6.setCell ⟨m, 0, none⟩ (.slice (some ⟨g3, 0, none⟩) s.1.length k3)).setCell ⟨m, 1, none⟩ (.slice (some ⟨g4, 0, none⟩) s.2.length k4)).heap[m]? = some (.cells #[.slice (some ⟨g3, 0, none⟩) s.1.length k3, .slice (some ⟨g4, 0, none⟩) (s.2.set (n - 1).toNat 0).length k4, .int .i64 (f : Int)] 60 (0, 0)) := by
        rw [List.length_set]; exact box3_set HM6.out.1.box _ _
      have hokA : okSt (s.1, s.2.set (n - 1).toNat 0) := valid_set_h HM6.out.1.ok _ (by omega)
      have hM7 : MForm ((w6.setCell ⟨m, 0, none⟩ (.slice (some ⟨g3, 0, none⟩) s.1.length k3)).setCell ⟨m, 1, none⟩ (.slice (some ⟨g4, 0, none⟩) s.2.length k4)) (fun j => F j ∨ w.heap.size ≤ j) m (s.1, s.2.set (n - 1).toNat 0) f g3 k3 g4 k4 :=
        ⟨hbx, by rw [List.length_set]; exact (hst6.kept hFm (fun j h1 _ e => by have e2 : j = m := e; omega)).mono (Nat.zero_le _), by omega, by omega, .inl HM5.out.1.fm, .inr (by omega), .inr (by omega), hokA⟩
      have HM7 := Lib.hid (hM7.keep hbN)
      have HK7 := Lib.hid (box_keep (box_kept HM6.out.2.2 hFm (fun e => by have e2 : w.heap.size = m := e; omega)) hbN)
      have HB7 := Lib.hid ((fr_st (fr_st HM6.out.2.1 ⟨m, 0, none⟩ (.slice (some ⟨g3, 0, none⟩) s.1.length k3) HM5.out.1.fm) ⟨m, 1, none⟩ (.slice (some ⟨g4, 0, none⟩) s.2.length k4) HM5.out.1.fm).thenB hbN)
      have HOKS := Lib.hid (show okSt (s.1.set k n, s.2.set (n - 1).toNat 0) by have h := HBOK.out 4; rwa [HE.out] at h)
      have hg3m : ¬ g3 = m := by omega
      have hg3z : g3 < w6.heap.size := hg3b
      clear hfo hfr e0 e1 hc3 hc4 hz3 hz4 hst6 hFm hbN hbx hokA hM7
      go_upto_region 18 with fail
      obtain ⟨W7, hW7⟩ : ∃ W, ((w6.setCell ⟨m, 0, none⟩ (.slice (some ⟨g3, 0, none⟩) s.1.length k3)).setCell ⟨m, 1, none⟩ (.slice (some ⟨g4, 0, none⟩) s.2.length k4)).alloc (.cells #[.slice (some ⟨g3, 0, none⟩) s.1.length k3, .slice (some ⟨g4, 0, none⟩) s.2.length k4] 25) = W := ⟨_, rfl⟩
      rw [hW7] at HM7 HK7 HB7 ⊢
      obtain ⟨hq1, _, _, hc1, _, hz1, _⟩ := HM7.out.cells
      have hcc := hc1 k hk
      have hzz := hz1 k
      replace m0 := cell_of_row _ _ 0 _ _ _ HM7.out.box
      replace k1 := cell_of_row _ _ 1 _ _ _ HK7.out
      clear hW7 hc1 hz1 m1 mz0 mz1
      have HS := Lib.hid (HM7.out.setV k n HOKS.out)
      have hwz7 := HB7.out.size
      go_region
      go_wp2
      go_ret
      exact ⟨by rw [HE.out]; rfl, by rw [HE.out]; exact (HS.out.keep (below_drew _)).mst, (HB7.out.then (fr_set W7 ⟨g3, k, none⟩ (.int .i64 n)) (fun i hi e => by have e2 : i = g3 := e; omega)).thenB (below_drew _)⟩
  · go_wp2_with fail
    refine (allocated_any _ _ s.2 TA _ (own_ints HM5.out.1.own.two).1 (by rw [HN.out.2]; decide)).mono ?_
    rintro e w6 ⟨rfl, hb6⟩
    have hz6 := hb6.size
    have HM6 := Lib.hid (And.intro (HM5.out.1.keep hb6) (And.intro (HBB.out.thenB hb6) (box_keep HM5.out.2.2 hb6)))
    obtain ⟨_, _, _, hc1, hc2, hz1, hz2⟩ := HM6.out.1.cells
    replace m0 := cell_of_row _ _ 0 _ _ _ HM6.out.1.box
    replace m1 := cell_of_row _ _ 1 _ _ _ HM6.out.1.box
    replace k1 := cell_of_row _ _ 1 _ _ _ HM6.out.2.2
    have hmz6 := box_lt HM6.out.1.box
    have hkz6 := box_lt HM6.out.2.2
    have hg1z : g1 < w6.heap.size := by omega
    have hg2z : g2 < w6.heap.size := by omega
    clear hb6 k0 mz0 mz1
    cases hal : alB s.2 TA with
    | false =>
      have HE := Lib.hid (show basicR 5 A B s = (1, s) by simp [basicR, HT.out.1, HT.out.2, hal])
      clear hal hc1 hc2 hz1 hz2
      go_wp2
      go_ret
      exact ⟨by rw [HE.out]; rfl, by rw [HE.out]; exact (HM6.out.1.more HF.out).mst, HM6.out.2.1⟩
    | true =>
      have had := al_addr hal
      obtain ⟨m2, rfl⟩ : ∃ m2 : Nat, TA = (m2 : Int) + 1 := ⟨(TA - 1).toNat, by omega⟩
      have hm2 : m2 < s.2.length := by rw [HN.out.2]; omega
      have i2 : (m2 : Int) < (s.2.length : Int) := by omega
      have hcc := hc2 m2 hm2
      have hzz := hz2 m2
      have HE := Lib.hid (show basicR 5 A B s = (0, (s.1, s.2.set m2 (-1))) by
        simp [basicR, HT.out.1, hal])
      have HS := Lib.hid (HM6.out.1.setH m2 (-1) (by have h := HBOK.out 5; rwa [HE.out] at h))
      clear hal had hc1 hc2 hz1 hz2
      go_wp2
      go_ret
      exact ⟨by rw [HE.out]; rfl, by rw [HE.out]; exact (HS.out.more HF.out).mst, fr_st HM6.out.2.1 _ _ HM6.out.1.f2⟩
end Go.Proofs.YtgfnoinkajfndaaGreat
