/- CaseProof data of the door seats: the part of CaseD that no case stack is needed for. -/
import Derived.Test.YtdjfdopgjlbloaaDoorData2
/- Laws of the helpers: proofs of cases. -/
namespace Go.Proofs.YtdjfdopgjlbloaaDoor
open Go.RowKit

set_option maxHeartbeats 800000 in
theorem szCaseProof_rl {S1 S2 : Nat → Prop} (v1 v2 : Value) (a : CPf) (left : Int) (w : World) (r1 : RL w S1 v1 a.1) (r2 : RL w S2 v2 a.2) (h0 : 0 ≤ left) (h1 : left ≤ 1048576) :
    Calls Tryd.prog 5 #[.agg #[v1, v2], .int .i64 left] w fun e w' => e = .returned (.int .i64 (szF left (Mk.size a))) ∧ Below w.heap.size w w' := by
  obtain ⟨a1, a2⟩ := a
  simp only at r1 r2
  have hsz : Mk.size ((a1, a2) : CPf) = Mk.size a1 + Mk.size a2 := rfl
  obtain ⟨b1, c1, rfl⟩ := r1.form
  obtain ⟨b2, c2, rfl⟩ := r2.form
  have e1 : (left < (Mk.size a1 : Int)) ∨ ((Mk.size a1 : Int) ≤ left) := by omega
  rcases e1 with hb | hf
  · have hfin : szF left (Mk.size ((a1, a2) : CPf)) = -1 := szF_big (by rw [hsz]; omega)
    have HF := Lib.hid (And.intro hfin (szF_big hb))
    clear hfin hb hsz
    go_enter Tryd.func5, Tryd.ntmps5
    go_wp2_with fail
    refine (szIntS_rl _ a1 left _ (r1.alloc _) h0 h1).mono ?_
    rw [HF.out.2]
    rintro e w1 ⟨rfl, hb1⟩
    go_wp2
    go_ret
    exact ⟨by rw [HF.out.1]; rfl, bt (below_alloc _ _) hb1⟩
  have HS := Lib.hid (szF_fit hf)
  have e2 : (left - Mk.size a1 < (Mk.size a2 : Int)) ∨ ((Mk.size a2 : Int) ≤ left - Mk.size a1) := by omega
  rcases e2 with hb | hf2
  · have hfin : szF left (Mk.size ((a1, a2) : CPf)) = -1 := szF_big (by rw [hsz]; omega)
    have HF := Lib.hid (And.intro hfin (szF_big hb))
    clear hfin hb hsz
    go_enter Tryd.func5, Tryd.ntmps5
    go_wp2_with fail
    refine (szIntS_rl _ a1 left _ (r1.alloc _) h0 h1).mono ?_
    rw [HS.out]
    rintro e w1 ⟨rfl, hb1⟩
    have hc1 := cell_keep hb1 (p := ⟨w.heap.size, 1, none⟩) (v := .slice b2 a2.length c2) (by simp)
    go_wp2_with fail
    refine (szIntSS_rl _ a2 (left - Mk.size a1) _ ((r2.alloc _).keep hb1) (by omega) (by omega)).mono ?_
    rw [HF.out.2]
    rintro e w2 ⟨rfl, hb2⟩
    go_wp2
    go_ret
    exact ⟨by rw [HF.out.1]; rfl, bt (bt (below_alloc _ _) hb1) hb2⟩
  · have hfin : szF left (Mk.size ((a1, a2) : CPf)) = left - Mk.size a1 - Mk.size a2 := by rw [szF_fit (by rw [hsz]; omega), hsz]; omega
    have HF := Lib.hid (And.intro hfin (szF_fit hf2))
    clear hfin hsz
    go_enter Tryd.func5, Tryd.ntmps5
    go_wp2_with fail
    refine (szIntS_rl _ a1 left _ (r1.alloc _) h0 h1).mono ?_
    rw [HS.out]
    rintro e w1 ⟨rfl, hb1⟩
    have hc1 := cell_keep hb1 (p := ⟨w.heap.size, 1, none⟩) (v := .slice b2 a2.length c2) (by simp)
    go_wp2_with fail
    refine (szIntSS_rl _ a2 (left - Mk.size a1) _ ((r2.alloc _).keep hb1) (by omega) (by omega)).mono ?_
    rw [HF.out.2]
    rintro e w2 ⟨rfl, hb2⟩
    go_wp2
    go_ret
    exact ⟨by rw [HF.out.1]; rfl, bt (bt (below_alloc _ _) hb1) hb2⟩
set_option maxHeartbeats 1600000 in
theorem toCaseProof_rl {S1 S2 : Nat → Prop} (v1 v2 : Value) (a : CPf) (w : World) (r1 : RL w S1 v1 a.1) (r2 : RL w S2 v2 a.2) (hl : Mk.size a ≤ 1048576) :
    Calls Tryd.prog 7 #[.agg #[v1, v2]] w fun e w' => ∃ u1 u2, e = .returned (.agg #[u1, u2]) ∧ OA w' w.heap.size u1 u2 a ∧ Below w.heap.size w w' := by
  obtain ⟨a1, a2⟩ := a
  simp only at r1 r2
  have hl1 : Mk.size a1 + Mk.size a2 ≤ 1048576 := hl
  clear hl
  obtain ⟨b1, c1, rfl⟩ := r1.form
  obtain ⟨b2, c2, rfl⟩ := r2.form
  go_enter Tryd.func7, Tryd.ntmps7
  go_wp2_with fail
  refine (toIntS_rl _ a1 _ (((r1.alloc _).alloc _).alloc _) (by omega)).mono ?_
  rintro e w1 ⟨u1, rfl, ⟨f1, o1, n1⟩, hb1⟩
  obtain ⟨d1, k1, rfl⟩ := o1.read.form
  have z1 : w.heap.size + 3 ≤ w1.heap.size := by have := hb1.size; simp at this; omega
  have y0 : w.heap.size < w1.heap.size := by omega
  have y1 : w.heap.size + 1 < w1.heap.size := by omega
  have y2 : w.heap.size + 1 + 1 < w1.heap.size := by omega
  replace o1 := o1.mono (B' := w.heap.size + 3) (by simp)
  obtain ⟨hc1, hf1⟩ := bcell hb1
  have hb01 : Below w.heap.size w w1 := bt (bt (bt (below_alloc _ _) (below_alloc _ _)) (below_alloc _ _)) hb1
  have hbs : Below w.heap.size w (w1.setCell ⟨w.heap.size + 1 + 1, 0, none⟩ (.slice d1 a1.length k1)) := hb01.setCell (by simp; omega) _
  clear hb1
  go_wp2_with fail
  refine (toIntSS_rl _ a2 _ (r2.keep hbs) (by omega)).mono ?_
  rintro e w2 ⟨u2, rfl, ⟨f2, o2, n2⟩, hb2⟩
  obtain ⟨d2, k2, rfl⟩ := o2.read.form
  have o1' := (o1.setB (p := ⟨w.heap.size + 1 + 1, 0, none⟩) (u := .slice d1 a1.length k1) (by simp)).keep hb2
  have o2' := o2.mono (B' := w.heap.size + 3) (by simp; omega)
  have hnd : (f1 ++ f2).Nodup := List.nodup_append.2 ⟨n1, n2, fun x h1 y h2 e => by
    have q1 := (o1.lt x h1).2
    have q2 := (o2.lt y h2).1
    simp at q2
    omega⟩
  have hb02 : Below w.heap.size w w2 := hbs.trans (hb2.mono (by simp; omega))
  obtain ⟨hc2, hf2⟩ := bcell hb2
  have z2 := hb2.size
  simp at z2
  have x1 : w.heap.size + 1 < w2.heap.size := by omega
  have x2 : w.heap.size + 1 + 1 < w2.heap.size := by omega
  clear o2 o1 n1 n2
  go_wp2
  refine bodyPost_ret (v := .agg #[.slice d1 a1.length k1, .slice d2 a2.length k2]) (by simp [results, Tryd.results7, go_sem, y1, hc1, hc2]) rfl ?_
  refine ⟨_, _, rfl, ⟨f1, f2, ?_, ?_, hnd⟩, ?_⟩
  · exact (((o1'.setB (by simp)).setB (by simp)).setB (by simp)).mono (by omega)
  · exact (((o2'.setB (by simp)).setB (by simp)).setB (by simp)).mono (by omega)
  · exact ((hb02.setCell (by simp; omega) _).setCell (by simp) _).setCell (by simp) _
set_option maxHeartbeats 800000 in
theorem eqCaseProof_rl {S1 S2 S3 S4 : Nat → Prop} (v1 v2 u1 u2 : Value) (a b : CPf) (w : World) (h1 : RL w S1 v1 a.1) (h2 : RL w S2 v2 a.2) (k1 : RL w S3 u1 b.1) (k2 : RL w S4 u2 b.2) :
    Calls Tryd.prog 9 #[.agg #[v1, v2], .agg #[u1, u2]] w fun e w' => e = .returned (.bool (decide (a = b))) ∧ Below w.heap.size w w' := by
  obtain ⟨a1, a2⟩ := a
  obtain ⟨b1, b2⟩ := b
  simp only at h1 h2 k1 k2
  by_cases e1 : a1 = b1
  rotate_left
  · have hfin : decide ((a1, a2) = (b1, b2)) = false := by simp [e1]
    have d1 : decide (a1 = b1) = false := by simpa using e1
    have HF := Lib.hid (And.intro hfin d1)
    clear hfin d1 e1
    go_enter Tryd.func9, Tryd.ntmps9
    go_wp2_with fail
    refine (cb (eqIntS_rl _ _ a1 b1 _ ((h1.alloc _).alloc _) ((k1.alloc _).alloc _)) HF.out.2).mono ?_
    rintro e w1 ⟨rfl, hb1⟩
    go_wp2
    go_ret
    exact ⟨by rw [HF.out.1]; rfl, bt (ba (below_alloc _ _) _) hb1⟩
  have d1 : decide (a1 = b1) = true := by simpa using e1
  have D1 := Lib.hid d1
  have hfin : decide ((a1, a2) = (b1, b2)) = decide (a2 = b2) := by simp [e1]
  clear d1 e1
  cases d2 : decide (a2 = b2)
  all_goals
    rw [d2] at hfin
    have HF := Lib.hid (And.intro hfin d2)
    clear hfin d2
    go_enter Tryd.func9, Tryd.ntmps9
    go_wp2_with fail
    refine (cb (eqIntS_rl _ _ a1 b1 _ ((h1.alloc _).alloc _) ((k1.alloc _).alloc _)) D1.out).mono ?_
    rintro e w1 ⟨rfl, hb1⟩
    have hc1 := cell_below hb1 (p := ⟨w.heap.size, 1, none⟩) (v := v2) (by first | (simp; done) | (simp; omega)) (by simp)
    have hc2 := cell_below hb1 (p := ⟨w.heap.size + 1, 1, none⟩) (v := u2) (by simp) (by simp)
    go_wp2_with fail
    refine (cb (eqIntSS_rl _ _ a2 b2 _ (((h2.alloc _).alloc _).keep hb1) (((k2.alloc _).alloc _).keep hb1)) HF.out.2).mono ?_
    rintro e w2 ⟨rfl, hb2⟩
    go_wp2
    go_ret
    exact ⟨by rw [HF.out.1]; rfl, bt (bt (ba (below_alloc _ _) _) hb1) hb2⟩
theorem eqCaseProof_eq {S1 S2 S3 S4 : Nat → Prop} (v1 v2 u1 u2 : Value) (a b : CPf) (t : Bool) (w : World) (h1 : RL w S1 v1 a.1) (h2 : RL w S2 v2 a.2) (k1 : RL w S3 u1 b.1) (k2 : RL w S4 u2 b.2) (ht : decide (a = b) = t) :
    Calls Tryd.prog 9 #[.agg #[v1, v2], .agg #[u1, u2]] w fun e w' => e = .returned (.bool t) ∧ Below w.heap.size w w' := cb (eqCaseProof_rl v1 v2 u1 u2 a b w h1 h2 k1 k2) ht
set_option maxHeartbeats 800000 in
theorem markCaseProof_rl (B : Nat) (v1 v2 : Value) (a : CPf) (f1 f2 : List Nat) (k0 : Int) (w : World) (o1 : OL w B v1 a.1 f1) (o2 : OL w B v2 a.2 f2) (hn : (f1 ++ f2).Nodup) (h0 : 0 ≤ k0) (h1 : k0 + 3 * Mk.size a ≤ 1099511627776) (hl : Mk.size a ≤ 1048576) :
    Calls Tryd.prog 12 #[.agg #[v1, v2], .int .i64 k0] w fun e w' => e = .returned (.int .i64 (k0 + Mk.cnt a)) ∧ OL w' B v1 (Mk.mark k0 a).1 f1 ∧ OL w' B v2 (Mk.mark k0 a).2 f2 ∧ Fr (fun k => k ∈ f1 ++ f2) w w' := by
  obtain ⟨a1, a2⟩ := a
  simp only at o1 o2
  have hsz : Mk.size ((a1, a2) : CPf) = Mk.size a1 + Mk.size a2 := rfl
  have hct : Mk.cnt ((a1, a2) : CPf) = Mk.cnt a1 + Mk.cnt a2 := rfl
  have hm : Mk.mark k0 ((a1, a2) : CPf) = (Mk.mark k0 a1, Mk.mark (k0 + Mk.cnt a1) a2) := rfl
  have hle := Mk.le a1
  rw [hsz] at h1 hl
  rw [hct, hm]
  clear hsz hct hm
  obtain ⟨n1, n2, n3⟩ := List.nodup_append.1 hn
  obtain ⟨d1, k1, rfl⟩ := o1.read.form
  obtain ⟨d2, k2, rfl⟩ := o2.read.form
  have HN := Lib.hid (And.intro n1 (And.intro n2 n3))
  clear n1 n2 n3 hn
  go_enter Tryd.func12, Tryd.ntmps12
  go_wp2_with fail
  refine (markIntS_rl B _ a1 f1 k0 _ (o1.keep (below_alloc _ _)) HN.out.1 h0 (by omega) (by omega)).mono ?_
  rintro e w1 ⟨rfl, p1, hf1⟩
  have hlt := o2.lt
  have hlt1 := o1.lt
  have hc1 := hf1.cell (p := ⟨w.heap.size, 1, none⟩) (v := .slice d2 a2.length k2) (fun hm => by have := (hlt1 _ hm).2; simp at this) (by simp)
  have o2' := (o2.keep (below_alloc w (.cells #[.slice d1 a1.length k1, .slice d2 a2.length k2] 28))).okept hf1 (fun k hk hm => HN.out.2.2 k hm k hk rfl)
  have hz := hf1.size
  simp at hz
  go_wp2_with fail
  refine (markIntSS_rl B _ a2 f2 (k0 + Mk.cnt a1) _ o2' HN.out.2.1 (by omega) (by omega) (by omega)).mono ?_
  rintro e w2 ⟨rfl, p2, hf2⟩
  have p1' := p1.okept hf2 (fun k hk hm => HN.out.2.2 k hk k hm rfl)
  have hfr := (((Below.fr (below_alloc w (.cells #[.slice d1 a1.length k1, .slice d2 a2.length k2] 28))).mono (S' := fun k => k ∈ f1 ++ f2) (fun _ _ h => h.elim)).trans (hf1.mono fun k _ hk => List.mem_append_left _ hk)).trans (hf2.mono fun k _ hk => List.mem_append_right _ hk)
  have HR := Lib.hid (And.intro p1' (And.intro p2 hfr))
  clear p1' p2 hfr p1 hf1 hf2 o2'
  go_wp2
  go_ret
  exact ⟨by rw [show k0 + ((Mk.cnt a1 + Mk.cnt a2 : Nat) : Int) = k0 + Mk.cnt a1 + Mk.cnt a2 by omega]; rfl, HR.out⟩
set_option maxHeartbeats 800000 in
theorem heldCaseProof_rl {S1 S2 : Nat → Prop} (v1 v2 : Value) (a : CPf) (k0 : Int) (w : World) (r1 : RL w S1 v1 (Mk.mark k0 a).1) (r2 : RL w S2 v2 (Mk.mark k0 a).2) (h0 : 0 ≤ k0) (h1 : k0 + 3 * Mk.size a ≤ 1099511627776) (hl : Mk.size a ≤ 1048576) :
    Calls Tryd.prog 13 #[.agg #[v1, v2], .int .i64 k0] w fun e w' => e = .returned (.int .i64 (k0 + Mk.cnt a)) ∧ Below w.heap.size w w' := by
  obtain ⟨a1, a2⟩ := a
  have hsz : Mk.size ((a1, a2) : CPf) = Mk.size a1 + Mk.size a2 := rfl
  have hct : Mk.cnt ((a1, a2) : CPf) = Mk.cnt a1 + Mk.cnt a2 := rfl
  have hm : Mk.mark k0 ((a1, a2) : CPf) = (Mk.mark k0 a1, Mk.mark (k0 + Mk.cnt a1) a2) := rfl
  have hle := Mk.le a1
  rw [hsz] at h1 hl
  rw [hm] at r1 r2
  simp only at r1 r2
  rw [hct]
  clear hsz hct hm
  have hp1 : 0 ≤ k0 + (Mk.cnt a1 : Int) := by omega
  have hp2 : 0 ≤ k0 + (Mk.cnt a1 : Int) + (Mk.cnt a2 : Int) := by omega
  have hn1 : ¬ k0 + (Mk.cnt a1 : Int) < 0 := by omega
  have hn2 : ¬ k0 + (Mk.cnt a1 : Int) + (Mk.cnt a2 : Int) < 0 := by omega
  obtain ⟨d1, k1, rfl⟩ := r1.form
  obtain ⟨d2, k2, rfl⟩ := r2.form
  go_enter Tryd.func13, Tryd.ntmps13
  go_wp2_with fail
  refine (heldIntS_rl _ a1 k0 _ (r1.alloc _) h0 (by omega) (by omega)).mono ?_
  rintro e w1 ⟨rfl, hb1⟩
  have hc1 := cell_keep hb1 (p := ⟨w.heap.size, 1, none⟩) (v := .slice d2 (Mk.mark (k0 + Mk.cnt a1) a2).length k2) (by simp)
  go_wp2_with fail
  refine (heldIntSS_rl _ a2 (k0 + Mk.cnt a1) _ ((r2.alloc _).keep hb1) (by omega) (by omega) (by omega)).mono ?_
  rintro e w2 ⟨rfl, hb2⟩
  go_wp2
  go_ret
  exact ⟨by rw [show k0 + ((Mk.cnt a1 + Mk.cnt a2 : Nat) : Int) = k0 + Mk.cnt a1 + Mk.cnt a2 by omega]; rfl, bt (bt (below_alloc _ _) hb1) hb2⟩
end Go.Proofs.YtdjfdopgjlbloaaDoor
