/- Walks: programs are run (the program's RunProgram). -/
import Derived.Test.YtgfnoinkajfndaaGreatAMacR
import Derived.Handy
import Derived.Deep.DeepMust
set_option linter.unusedVariables false
set_option linter.unusedSimpArgs false
namespace Go.Proofs.YtgfnoinkajfndaaGreat
open Go.RowKit

/-- What running gives: the machine and the code. -/
def MPRes (r : Int × St) (w : World) (e : Ending) (w' : World) : Prop :=
  ∃ (a1 a2 : Option Addr) (n1 n2 c1 c2 : Nat) (z : Int), e = .returned (.tuple #[.agg #[.slice a1 n1 c1, .slice a2 n2 c2, .int .i64 z], .int .i64 r.1]) ∧ (r.1 = 0 → RInts w' (.slice a1 n1 c1) r.2.1 ∧ RInts w' (.slice a2 n2 c2) r.2.2 ∧ okSt r.2) ∧ Below w.heap.size w w'
theorem box_three {w : World} {b : Nat} {x y z : Value} {T : TypeId} (h : w.heap[b]? = some (.cells #[x, y, z] T (0, 0))) (u v t : Value) : (((w.setCell ⟨b, 0, none⟩ u).setCell ⟨b, 1, none⟩ v).setCell ⟨b, 2, none⟩ t).heap[b]? = some (.cells #[u, v, t] T (0, 0)) := box_set2 (box3_set h u v) t
set_option maxRecDepth 100000 in
set_option maxHeartbeats 6400000 in
theorem runI0_any (d : Nat) {S : Nat → Prop} (v v1 v2 : Value) (l : List (Cm d)) (s : St) (f : Int) (w : World) (h : RL w S v l) (h1 : RInts w v1 s.1) (h2 : RInts w v2 s.2) (hd : d ≤ 100) :
    Calls Tryz.prog 25 #[.agg #[v1, v2], v, .int .i64 f] w (MPRes (runP s l f) w) := by
  obtain ⟨a, cap, rfl⟩ := h.form
  obtain ⟨a1, c1, rfl⟩ := h1.form
  obtain ⟨a2, c2, rfl⟩ := h2.form
  have HR := Lib.hid (And.intro h.lt (And.intro h1 h2))
  have hb01 := below_alloc w (.cells #[.slice a1 s.1.length c1, .slice a2 s.2.length c2] 25)
  have hb12 := below_alloc (w.alloc (.cells #[.slice a1 s.1.length c1, .slice a2 s.2.length c2] 25)) (.cells #[.slice none 0 0, .slice none 0 0, .int .i64 0] 60)
  have hP := box_keep (heap_alloc_new w (.cells #[.slice a1 s.1.length c1, .slice a2 s.2.length c2] 25)) hb12
  have hR := heap_alloc_new (w.alloc (.cells #[.slice a1 s.1.length c1, .slice a2 s.2.length c2] 25)) (.cells #[.slice none 0 0, .slice none 0 0, .int .i64 0] 60)
  have hz12 : ((w.alloc (.cells #[.slice a1 s.1.length c1, .slice a2 s.2.length c2] 25)).alloc (.cells #[.slice none 0 0, .slice none 0 0, .int .i64 0] 60)).heap.size = w.heap.size + 2 := by simp
  simp only [World.size_alloc] at hR
  have HH := Lib.hid (And.intro (And.intro hP hR) (bt hb01 hb12))
  -- what is given where the program cannot be run
  have BAD : ∀ W : World, Below w.heap.size w W → w.heap.size + 1 < W.heap.size → W.heap[w.heap.size + 1]? = some (.cells #[.slice none 0 0, .slice none 0 0, .int .i64 0] 60 (0, 0)) → fitsB s l f = false →
      MPRes (runP s l f) w (.returned (.tuple #[.agg #[.slice none 0 0, .slice none 0 0, .int .i64 0], .int .i64 4])) (((W.setCell ⟨w.heap.size + 1, 0, none⟩ (.slice none 0 0)).setCell ⟨w.heap.size + 1, 1, none⟩ (.slice none 0 0)).setCell ⟨w.heap.size + 1, 2, none⟩ (.int .i64 0)) := by
    intro W hb _ _ hf
    have e1 : runP s l f = (4, s) := by rw [runP, if_neg (by rw [hf]; decide)]
    rw [e1]
    exact ⟨_, _, _, _, _, _, _, rfl, fun h => absurd h (show ¬ (4 : Int) = 0 by decide), below_st (below_st (below_st hb _ _ (Nat.le_succ _)) _ _ (Nat.le_succ _)) _ _ (Nat.le_succ _)⟩
  have HBAD := Lib.hid BAD
  clear h h1 h2 hP hR hb01 hb12 BAD
  go_enter Tryz.func25, Tryz.ntmps25
  go_wp2_with fail
  refine (stateValid_any _ _ s.1 s.2 _ (HR.out.2.1.keep HH.out.2) (HR.out.2.2.keep HH.out.2)).mono ?_
  rintro e w2 ⟨rfl, hb2⟩
  have HP2 := Lib.hid (And.intro (And.intro (box_keep HH.out.1.1 hb2) (box_keep HH.out.1.2 hb2)) (bt HH.out.2 hb2))
  have hz2 := hb2.size
  rw [hz12] at hz2
  have p0 := box0 HP2.out.1.1
  have p1 := box1 HP2.out.1.1
  have r0 := cell_of_row _ _ 0 _ _ _ HP2.out.1.2
  have r1 := cell_of_row _ _ 1 _ _ _ HP2.out.1.2
  have r2 := cell_of_row _ _ 2 _ _ _ HP2.out.1.2
  have z0 := frozen_of_row _ _ 0 _ _ HP2.out.1.2
  have z1 := frozen_of_row _ _ 1 _ _ HP2.out.1.2
  have z2 := frozen_of_row _ _ 2 _ _ HP2.out.1.2
  have hRz := box_lt HP2.out.1.2
  clear hb2
  cases e1 : validB s.1 s.2
  · have HE := Lib.hid (show fitsB s l f = false by rw [fitsB, e1]; rfl)
    have hbx := box_three HP2.out.1.2 (.slice none 0 0) (.slice none 0 0) (.int .i64 0)
    have t0 := cell_of_row _ _ 0 _ _ _ hbx
    have t1 := cell_of_row _ _ 1 _ _ _ hbx
    have t2 := cell_of_row _ _ 2 _ _ _ hbx
    go_wp2
    refine bodyPost_ret (v := .tuple #[.agg #[.slice none 0 0, .slice none 0 0, .int .i64 0], .int .i64 4]) (by simp [results, Tryz.results25, go_sem, t0, t1, t2]) rfl ?_
    exact HBAD.out _ HP2.out.2 hRz HP2.out.1.2 HE.out
  · have HV := Lib.hid e1
    clear e1
    go_wp2_with fail
    refine (progValidI_any d _ l _ (HR.out.1.keep HP2.out.2) hd).mono ?_
    rintro e w3 ⟨rfl, hb3⟩
    have HP3 := Lib.hid (And.intro (And.intro (box_keep HP2.out.1.1 hb3) (box_keep HP2.out.1.2 hb3)) (bt HP2.out.2 hb3))
    have hz3 := hb3.size
    replace p0 := box0 HP3.out.1.1
    replace p1 := box1 HP3.out.1.1
    replace r0 := cell_of_row _ _ 0 _ _ _ HP3.out.1.2
    replace r1 := cell_of_row _ _ 1 _ _ _ HP3.out.1.2
    replace r2 := cell_of_row _ _ 2 _ _ _ HP3.out.1.2
    replace z0 := frozen_of_row _ _ 0 _ _ HP3.out.1.2
    replace z1 := frozen_of_row _ _ 1 _ _ HP3.out.1.2
    replace z2 := frozen_of_row _ _ 2 _ _ HP3.out.1.2
    have hRz3 := box_lt HP3.out.1.2
    have hbx := box_three HP3.out.1.2 (.slice none 0 0) (.slice none 0 0) (.int .i64 0)
    clear hb3
    cases e2 : progOkB l
    · have HE := Lib.hid (show fitsB s l f = false by rw [fitsB, e2, HV.out]; rfl)
      have t0 := cell_of_row _ _ 0 _ _ _ hbx
      have t1 := cell_of_row _ _ 1 _ _ _ hbx
      have t2 := cell_of_row _ _ 2 _ _ _ hbx
      go_wp2
      refine bodyPost_ret (v := .tuple #[.agg #[.slice none 0 0, .slice none 0 0, .int .i64 0], .int .i64 4]) (by simp [results, Tryz.results25, go_sem, t0, t1, t2]) rfl ?_
      exact HBAD.out _ HP3.out.2 hRz3 HP3.out.1.2 HE.out
    · have HPO := Lib.hid e2
      clear e2
      by_cases f0 : 0 ≤ f
      · by_cases f2 : f ≤ 200
        · obtain ⟨k, rfl⟩ : ∃ k : Nat, f = (k : Int) := ⟨f.toNat, by omega⟩
          have i0 : ¬ (k : Int) < 0 := by omega
          have i1 : ¬ (200 : Int) < (k : Int) := by omega
          have hk : k ≤ 200 := by omega
          have HE := Lib.hid (show runP s l (k : Int) = ((runL d l s k).1, (runL d l s k).2.1) by
            rw [runP, if_pos (by rw [fitsB, HV.out, HPO.out, decide_eq_true f0, decide_eq_true f2]; rfl), Int.toNat_natCast])
          have hln := valid_len HV.out
          have HLN := Lib.hid hln
          clear hbx f0 f2 r0 r1 r2 z0 z1 z2 hln
          go_wp2_with fail
          refine (copyState_any _ _ s.1 s.2 _ (HR.out.2.1.keep HP3.out.2) (HR.out.2.2.keep HP3.out.2) (by rw [HLN.out.1]; decide) (by rw [HLN.out.2]; decide)).mono ?_
          rintro e w4 ⟨u1, u2, rfl, hst, hb4⟩
          have hz4 := hb4.size
          obtain ⟨g1, k1, g2, k2, rfl, rfl, ⟨hg1, hg1b⟩, ⟨hg2, hg2b⟩, hne, _, _, _, _, _, _⟩ := hst.forms (by rw [HLN.out.1]; decide) (by rw [HLN.out.2]; decide)
          have hbN := below_alloc w4 (.cells #[.slice (some ⟨g1, 0, none⟩) s.1.length k1, .slice (some ⟨g2, 0, none⟩) s.2.length k2, .int .i64 (k : Int)] 60)
          have hzN : (w4.alloc (.cells #[.slice (some ⟨g1, 0, none⟩) s.1.length k1, .slice (some ⟨g2, 0, none⟩) s.2.length k2, .int .i64 (k : Int)] 60)).heap.size = w4.heap.size + 1 := by simp
          have hms : MSt (w4.alloc (.cells #[.slice (some ⟨g1, 0, none⟩) s.1.length k1, .slice (some ⟨g2, 0, none⟩) s.2.length k2, .int .i64 (k : Int)] 60)) (fun j => w.heap.size + 2 ≤ j) w4.heap.size s k :=
            ⟨g1, k1, g2, k2, heap_alloc_new w4 _, (hst.keep hbN).mono (Nat.zero_le _), ⟨by omega, by omega⟩, ⟨by omega, by omega, by omega⟩, HV.out⟩
          have HMS := Lib.hid (And.intro hms (And.intro (box_keep (box_keep HP3.out.1.2 hb4) hbN) ((bt HP3.out.2 hb4).trans (hbN.mono (by omega)))))
          clear hst hb4 hbN hms p0 p1
          go_wp2_with fail
          refine (list_any d 4 (fun j => j < w.heap.size) (fun j => w.heap.size + 2 ≤ j) w4.heap.size _ l s k _ (HR.out.1.keep HMS.out.2.2) (fun j _ h1 h2 => by omega) (progOk_iff HPO.out).1 HMS.out.1 (by omega)).mono ?_
          rintro e w5 ⟨rfl, hm5, hF5⟩
          have hz5 := hF5.size
          rw [hzN] at hz5
          have hR5 := box_kept HMS.out.2.1 hF5 (fun h => by omega)
          obtain ⟨g3, k3, g4, k4, hform⟩ := hm5.form
          have r0 := cell_of_row _ _ 0 _ _ _ hR5
          have r1 := cell_of_row _ _ 1 _ _ _ hR5
          have r2 := cell_of_row _ _ 2 _ _ _ hR5
          have z0 := frozen_of_row _ _ 0 _ _ hR5
          have z1 := frozen_of_row _ _ 1 _ _ hR5
          have z2 := frozen_of_row _ _ 2 _ _ hR5
          have q0 := cell_of_row _ _ 0 _ _ _ hform.box
          have q1 := cell_of_row _ _ 1 _ _ _ hform.box
          have q2 := cell_of_row _ _ 2 _ _ _ hform.box
          have hmz := box_lt hform.box
          have HB5 := Lib.hid (HMS.out.2.2.trans (hF5.below (B := w.heap.size) (by omega) (fun j hj h => by omega)))
          have HFM := Lib.hid (And.intro hform hR5)
          have hnm : ¬ w4.heap.size = w.heap.size + 1 := by omega
          clear hm5 hF5 hform hR5 hzN
          obtain ⟨rr, hrr⟩ : ∃ rr, runL d l s k = rr := ⟨_, rfl⟩
          have hE2 := HE.out
          rw [hrr] at hE2 HFM q0 q1 q2 ⊢
          obtain ⟨code, s2, rest⟩ := rr
          simp only at hE2 q0 q1 q2
          have HE2 := Lib.hid hE2
          clear hrr hE2
          dsimp only at HFM ⊢
          have hbx := box_three HFM.out.2 (.slice (some ⟨g3, 0, none⟩) s2.1.length k3) (.slice (some ⟨g4, 0, none⟩) s2.2.length k4) (.int .i64 (rest : Int))
          have t0 := cell_of_row _ _ 0 _ _ _ hbx
          have t1 := cell_of_row _ _ 1 _ _ _ hbx
          have t2 := cell_of_row _ _ 2 _ _ _ hbx
          clear hbx
          go_wp2
          refine bodyPost_ret (v := .tuple #[.agg #[.slice (some ⟨g3, 0, none⟩) s2.1.length k3, .slice (some ⟨g4, 0, none⟩) s2.2.length k4, .int .i64 (rest : Int)], .int .i64 code]) (by simp [results, Tryz.results25, go_sem, t0, t1, t2]) rfl ?_
          have hF : Fr (fun j => j = w.heap.size + 1) w5 (((w5.setCell ⟨w.heap.size + 1, 0, none⟩ (.slice (some ⟨g3, 0, none⟩) s2.1.length k3)).setCell ⟨w.heap.size + 1, 1, none⟩ (.slice (some ⟨g4, 0, none⟩) s2.2.length k4)).setCell ⟨w.heap.size + 1, 2, none⟩ (.int .i64 (rest : Int))) := ((fr_set w5 ⟨w.heap.size + 1, 0, none⟩ _).trans (fr_set _ ⟨w.heap.size + 1, 1, none⟩ _)).trans (fr_set _ ⟨w.heap.size + 1, 2, none⟩ _)
          have hfm := HFM.out.1
          have hn1 : ¬ g3 = w.heap.size + 1 := fun e => by
            have h1 := hfm.f1
            simp only [World.size_alloc] at h1
            omega
          have hn2 : ¬ g4 = w.heap.size + 1 := fun e => by
            have h1 := hfm.f2
            simp only [World.size_alloc] at h1
            omega
          refine ⟨_, _, _, _, _, _, _, by rw [HE2.out], fun _ => ?_, below_st (below_st (below_st HB5.out _ _ (Nat.le_succ _)) _ _ (Nat.le_succ _)) _ _ (Nat.le_succ _)⟩
          rw [HE2.out]
          exact ⟨(own_ints hfm.own.one).1.kept hF (fun j hj e => hn1 (by have e2 : g3 = j := by simpa [Value.ownBlock] using hj
                                                                         omega)), (own_ints hfm.own.two).1.kept hF (fun j hj e => hn2 (by have e2 : g4 = j := by simpa [Value.ownBlock] using hj
                                                                                                                                          omega)), hfm.ok⟩
        · have HE := Lib.hid (show fitsB s l f = false by rw [fitsB, HV.out, HPO.out, decide_eq_false f2]; simp)
          have i0 : ¬ f < 0 := by omega
          have i1 : (200 : Int) < f := by omega
          have t0 := cell_of_row _ _ 0 _ _ _ hbx
          have t1 := cell_of_row _ _ 1 _ _ _ hbx
          have t2 := cell_of_row _ _ 2 _ _ _ hbx
          clear f0 f2
          go_wp2
          refine bodyPost_ret (v := .tuple #[.agg #[.slice none 0 0, .slice none 0 0, .int .i64 0], .int .i64 4]) (by simp [results, Tryz.results25, go_sem, t0, t1, t2]) rfl ?_
          exact HBAD.out _ HP3.out.2 hRz3 HP3.out.1.2 HE.out
      · have HE := Lib.hid (show fitsB s l f = false by rw [fitsB, HV.out, HPO.out, decide_eq_false f0]; rfl)
        have i0 : f < 0 := by omega
        have t0 := cell_of_row _ _ 0 _ _ _ hbx
        have t1 := cell_of_row _ _ 1 _ _ _ hbx
        have t2 := cell_of_row _ _ 2 _ _ _ hbx
        clear f0
        go_wp2
        refine bodyPost_ret (v := .tuple #[.agg #[.slice none 0 0, .slice none 0 0, .int .i64 0], .int .i64 4]) (by simp [results, Tryz.results25, go_sem, t0, t1, t2]) rfl ?_
        exact HBAD.out _ HP3.out.2 hRz3 HP3.out.1.2 HE.out
set_option maxRecDepth 100000 in
set_option maxHeartbeats 6400000 in
theorem runI_any (d : Nat) {S : Nat → Prop} (v v1 v2 : Value) (l : List (Cm d)) (s : St) (f : Int) (w : World) (h : RL w S v l) (h1 : RInts w v1 s.1) (h2 : RInts w v2 s.2) (hd : d ≤ 100) :
    Calls Tryz.prog 7 #[.agg #[v1, v2], v, .int .i64 f] w (StRes (runP s l f) w) := by
  obtain ⟨a, cap, rfl⟩ := h.form
  obtain ⟨a1, c1, rfl⟩ := h1.form
  obtain ⟨a2, c2, rfl⟩ := h2.form
  have HR := Lib.hid (And.intro h (And.intro h1 h2))
  have hb01 := below_alloc w (.cells #[.slice a1 s.1.length c1, .slice a2 s.2.length c2] 25)
  have hb12 := below_alloc (w.alloc (.cells #[.slice a1 s.1.length c1, .slice a2 s.2.length c2] 25)) (.cells #[.slice none 0 0, .slice none 0 0] 25)
  have hR := heap_alloc_new (w.alloc (.cells #[.slice a1 s.1.length c1, .slice a2 s.2.length c2] 25)) (.cells #[.slice none 0 0, .slice none 0 0] 25)
  simp only [World.size_alloc] at hR
  have HH := Lib.hid (And.intro hR (bt hb01 hb12))
  clear h h1 h2 hR hb01 hb12
  obtain ⟨rr, hrr⟩ : ∃ rr, runP s l f = rr := ⟨_, rfl⟩
  have HRR := Lib.hid hrr
  rw [hrr]
  clear hrr
  go_enter Tryz.func7, Tryz.ntmps7
  go_wp2_with fail
  refine (runI0_any d _ _ _ l s f _ (HR.out.1.keep HH.out.2) (HR.out.2.1.keep HH.out.2) (HR.out.2.2.keep HH.out.2) hd).mono ?_
  rintro e w2 ⟨b1, b2, n1, n2, d1, d2, z, rfl, hok, hb2⟩
  have hR2 := box_keep HH.out.1 hb2
  have HX := Lib.hid (And.intro hok (And.intro (bt HH.out.2 hb2) hR2))
  have r0 := box0 hR2
  have r1 := box1 hR2
  have z0 := boxz hR2 0
  have z1 := boxz hR2 1
  have hRz := box_lt hR2
  rw [HRR.out] at HX ⊢
  clear hok hb2 hR2
  obtain ⟨code, s2⟩ := rr
  dsimp only at HX ⊢
  by_cases hc : code = 0
  · subst hc
    have HO := Lib.hid (HX.out.1 rfl)
    have hbN := below_alloc ((w2.setCell ⟨w.heap.size + 1, 0, none⟩ (.slice b1 n1 d1)).setCell ⟨w.heap.size + 1, 1, none⟩ (.slice b2 n2 d2)) (.cells #[.slice b1 n1 d1, .slice b2 n2 d2, .int .i64 z] 60)
    have r := box_two (.slice b1 n1 d1) (.slice b2 n2 d2) r0 r1
    have r2 := And.intro (cell_keep hbN r.1) (cell_keep hbN r.2)
    go_wp2
    refine bodyPost_ret (v := .tuple #[.agg #[.slice b1 n1 d1, .slice b2 n2 d2], .int .i64 0]) (by simp [results, Tryz.results7, go_sem, r2.1, r2.2]) rfl ?_
    have hF : Fr (fun j => j = w.heap.size + 1) w2 ((w2.setCell ⟨w.heap.size + 1, 0, none⟩ (.slice b1 n1 d1)).setCell ⟨w.heap.size + 1, 1, none⟩ (.slice b2 n2 d2)) := (fr_set w2 ⟨w.heap.size + 1, 0, none⟩ _).trans (fr_set _ ⟨w.heap.size + 1, 1, none⟩ _)
    have hl := okSt_len HO.out.2.2
    exact ⟨_, _, rfl, by
      rw [oS_ok]
      exact ⟨(HO.out.1.kept hF (fun j hj e => rints_ne HO.out.1 HX.out.2.2 hl.1 j hj e)).keep hbN, (HO.out.2.1.kept hF (fun j hj e => rints_ne HO.out.2.1 HX.out.2.2 hl.2 j hj e)).keep hbN⟩, bt (below_st (below_st HX.out.2.1 _ _ (Nat.le_succ _)) _ _ (Nat.le_succ _)) hbN⟩
  · have yc : (code == 0) = false := beq_eq_false_iff_ne.2 hc
    have HC := Lib.hid hc
    clear hc
    have hbN := below_alloc ((w2.setCell ⟨w.heap.size + 1, 0, none⟩ (.slice none 0 0)).setCell ⟨w.heap.size + 1, 1, none⟩ (.slice none 0 0)) (.cells #[.slice b1 n1 d1, .slice b2 n2 d2, .int .i64 z] 60)
    have r := box_two (.slice none 0 0) (.slice none 0 0) r0 r1
    have r2 := And.intro (cell_keep hbN r.1) (cell_keep hbN r.2)
    go_wp2
    refine bodyPost_ret (v := .tuple #[.agg #[.slice none 0 0, .slice none 0 0], .int .i64 code]) (by simp [results, Tryz.results7, go_sem, r2.1, r2.2]) rfl ?_
    exact ⟨_, _, rfl, by rw [oS_bad HC.out]; exact ⟨rints_nil _, rints_nil _⟩, bt (below_st (below_st HX.out.2.1 _ _ (Nat.le_succ _)) _ _ (Nat.le_succ _)) hbN⟩
end Go.Proofs.YtgfnoinkajfndaaGreat
