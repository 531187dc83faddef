/- Walks: what the law of texts draws. -/
import Derived.Test.YtdjfdopgjlbloaaGreatDoorWDCC
import Derived.Test.YtdjfdopgjlbloaaGreatDoorWBend
import Derived.Test.YtdjfdopgjlbloaaGreatDoorWFmtS
import Derived.Deep.RegionHeld3
import Derived.Handy
set_option linter.unusedSimpArgs false
set_option linter.unusedVariables false
namespace Go.Proofs.YtdjfdopgjlbloaaGreatDoor
open Go.RowKit

set_option maxRecDepth 100000 in
set_option maxHeartbeats 3200000 in
theorem specDrawFormatCase_any (v : Value) (n : Nat) (w : World) (h : RBytes w v n) :
    Calls Tryz.prog 4 #[v] w fun e w' => ∃ (y1 y2 : Value) (p : CPf), e = .returned (.agg #[y1, y2]) ∧ (RL w' (fun k => w.heap.size ≤ k) y1 p.1 ∧ RL w' (fun k => w.heap.size ≤ k) y2 p.2) ∧ Below w.heap.size w w' := by
  obtain ⟨va, vc, rfl⟩ := bytes_form h
  have b0 := below_alloc w (.cells #[.slice none 0 0, .slice none 0 0] 26)
  have hR := heap_alloc_new w (.cells #[.slice none 0 0, .slice none 0 0] 26)
  go_enter Tryz.func4, Tryz.ntmps4
  go_wp2_with fail
  refine (specDrawCheckCase_any _ n _ (h.keep b0)).mono ?_
  rintro e w1 ⟨u1, u2, t1, t2, y1, y2, A, B, p, rfl, ⟨ru1, ru2⟩, ⟨rt1, rt2⟩, ⟨q1, q2⟩, hb⟩
  simp only [World.size_alloc] at q1 q2
  obtain ⟨ua1, uc1, rfl⟩ := ru1.form
  obtain ⟨ua2, uc2, rfl⟩ := ru2.form
  obtain ⟨ta1, tc1, rfl⟩ := rt1.form
  obtain ⟨ta2, tc2, rfl⟩ := rt2.form
  obtain ⟨a1, c1, rfl⟩ := q1.form
  obtain ⟨a2, c2, rfl⟩ := q2.form
  replace hR := box_keep hR hb
  have hW := bt b0 hb
  have r0 := box0 hR
  have r1 := box1 hR
  have rz0 := boxz hR 0
  have rz1 := boxz hR 1
  have hzz := box_lt hR
  have HQ := Lib.hid (And.intro (q1.set2P (R := w.heap.size) (by omega) (.slice a1 p.1.length c1) (.slice a2 p.2.length c2)) (And.intro (q2.set2P (R := w.heap.size) (by omega) (.slice a1 p.1.length c1) (.slice a2 p.2.length c2)) (Below.setCell (Below.setCell hW (p := ⟨w.heap.size, 0, none⟩) (Nat.le_refl _) (.slice a1 p.1.length c1)) (p := ⟨w.heap.size, 1, none⟩) (Nat.le_refl _) (.slice a2 p.2.length c2))))
  have hRR := box_set1 (box_set0 hR (.slice a1 p.1.length c1)) (.slice a2 p.2.length c2)
  have hf0 : (((((w1.setCell ⟨w.heap.size, 0, none⟩ (.slice a1 p.1.length c1)).setCell ⟨w.heap.size, 1, none⟩ (.slice a2 p.2.length c2)).alloc (.cells #[.slice ua1 A.1.length uc1, .slice ua2 A.2.length uc2] 37)).alloc (.cells #[.slice ta1 B.1.length tc1, .slice ta2 B.2.length tc2] 37)).alloc (.cells #[.slice a1 p.1.length c1, .slice a2 p.2.length c2] 26)).cell? ⟨w.heap.size, 0, none⟩ = some (.slice a1 p.1.length c1) := cell_keep Bl (box0 hRR)
  have hf1 : (((((w1.setCell ⟨w.heap.size, 0, none⟩ (.slice a1 p.1.length c1)).setCell ⟨w.heap.size, 1, none⟩ (.slice a2 p.2.length c2)).alloc (.cells #[.slice ua1 A.1.length uc1, .slice ua2 A.2.length uc2] 37)).alloc (.cells #[.slice ta1 B.1.length tc1, .slice ta2 B.2.length tc2] 37)).alloc (.cells #[.slice a1 p.1.length c1, .slice a2 p.2.length c2] 26)).cell? ⟨w.heap.size, 1, none⟩ = some (.slice a2 p.2.length c2) := cell_keep Bl (box1 hRR)
  have HF := Lib.hid (And.intro hf0 hf1)
  clear ru1 ru2 rt1 rt2 q1 q2 hb hW b0 hR hRR hf0 hf1
  have hz1 : w.heap.size < w1.heap.size + 1 := by omega
  have hz2 : w.heap.size < w1.heap.size + 1 + 1 := by omega
  have hz3 : w.heap.size < w1.heap.size + 2 := by omega
  have n0 : ¬ w.heap.size = w1.heap.size := by omega
  have n1 : ¬ w.heap.size = w1.heap.size + 1 := by omega
  have n2 : ¬ w.heap.size = w1.heap.size + 1 + 1 := by omega
  have n3 : ¬ w.heap.size = w1.heap.size + 2 := by omega
  go_wp2
  refine bodyPost_ret (v := .agg #[.slice a1 p.1.length c1, .slice a2 p.2.length c2]) (by simp [results, Tryz.results4, go_sem, HF.out.1, HF.out.2]) rfl ?_
  exact ⟨_, _, p, rfl, ⟨(HQ.out.1.keep Bl).more fun k _ hk => by omega, (HQ.out.2.1.keep Bl).more fun k _ hk => by omega⟩, bt HQ.out.2.2 Bl⟩
def bits7 : List (List UInt8) := [[], [32], [44], [45], [43], [48], [57]]
theorem bits7_lit (w : World) : RStrs (w.alloc (.cells #[.string ⟨#[]⟩, .string ⟨#[32]⟩, .string ⟨#[44]⟩, .string ⟨#[45]⟩, .string ⟨#[43]⟩, .string ⟨#[48]⟩, .string ⟨#[57]⟩] 9)) w.heap.size bits7 := fun i hi => by
  rw [World.cell?_alloc_mark]
  match i, hi with
  | 0, _ => rfl
  | 1, _ => rfl
  | 2, _ => rfl
  | 3, _ => rfl
  | 4, _ => rfl
  | 5, _ => rfl
  | 6, _ => rfl
  | n + 7, h => exact absurd h (by simp [bits7])
set_option maxRecDepth 100000 in
set_option maxHeartbeats 6400000 in
theorem specDrawParseCase_any (v : Value) (n : Nat) (w : World) (h : RBytes w v n) :
    Calls Tryz.prog 9 #[v] w fun e w' => ∃ t : List UInt8, e = .returned (.string (btx t)) ∧ t.length ≤ 1000 ∧ Below w.heap.size w w' := by
  obtain ⟨va, vc, rfl⟩ := bytes_form h
  go_enter Tryz.func9, Tryz.ntmps9
  go_wp2_with fail
  refine (specDrawEntCase_any _ n _ h).mono ?_
  rintro e w1 ⟨u1, u2, t1, t2, cv, A, B, C, rfl, ⟨hl, ⟨r1, r2⟩, ⟨s1, s2⟩, hb⟩, hc, hC⟩
  obtain ⟨a1, c1, rfl⟩ := r1.form
  obtain ⟨a2, c2, rfl⟩ := r2.form
  obtain ⟨a3, c3, rfl⟩ := s1.form
  obtain ⟨a4, c4, rfl⟩ := s2.form
  obtain ⟨a5, c5, rfl⟩ := hc.form
  have hW := hb
  clear hb hl hC
  go_wp2_with fail
  refine (proveS_any _ _ _ _ _ A B C _ (r1.keep Bl) (r2.keep Bl) (s1.keep Bl) (s2.keep Bl) (hc.keep Bl)).mono ?_
  rintro e w2 ⟨y1, y2, rfl, ⟨q1, q2⟩, hb⟩
  obtain ⟨p, hp⟩ : ∃ p, proveR A B C = p := ⟨_, rfl⟩
  rw [hp] at q1 q2
  obtain ⟨b1, d1, rfl⟩ := q1.form
  obtain ⟨b2, d2, rfl⟩ := q2.form
  have hW2 := bt (bt hW Bl) hb
  have hlen : (fmtB p).length ≤ 200 := by
    rw [fmtB]; split
    · rename_i hs; exact text_len (shaped_iff.1 hs)
    · simp
  have HLN := Lib.hid hlen
  have hc0 : (w2.alloc (.cells #[.slice b1 p.1.length d1, .slice b2 p.2.length d2] 26)).cell? ⟨w2.heap.size, 0, none⟩ = some (.slice b1 p.1.length d1) := by simp
  have hc1 : (w2.alloc (.cells #[.slice b1 p.1.length d1, .slice b2 p.2.length d2] 26)).cell? ⟨w2.heap.size, 1, none⟩ = some (.slice b2 p.2.length d2) := by simp
  replace hW2 := bt hW2 (below_alloc w2 (.cells #[.slice b1 p.1.length d1, .slice b2 p.2.length d2] 26))
  replace q1 := q1.keep (below_alloc w2 (.cells #[.slice b1 p.1.length d1, .slice b2 p.2.length d2] 26))
  replace q2 := q2.keep (below_alloc w2 (.cells #[.slice b1 p.1.length d1, .slice b2 p.2.length d2] 26))
  have hz2 : (w2.alloc (.cells #[.slice b1 p.1.length d1, .slice b2 p.2.length d2] 26)).heap.size = w2.heap.size + 1 := by simp
  clear r1 r2 s1 s2 hc hb hW hp hlen
  go_wp2
  generalize w2.alloc (.cells #[.slice b1 p.1.length d1, .slice b2 p.2.length d2] 26) = W at hc0 hc1 hW2 q1 q2 hz2 ⊢
  have HZ := Lib.hid hz2
  have hWs := hW2.size
  clear hz2
  go_region_held3 (fun w' => w'.cell? ⟨w2.heap.size, 0, none⟩ = some (.slice b1 p.1.length d1) ∧ w'.cell? ⟨w2.heap.size, 1, none⟩ = some (.slice b2 p.2.length d2))
    (exact ⟨cell_keep Bl hc0, cell_keep Bl hc1⟩)
    (first
      | (go_at_call 26; go_must (refine (l18Open_any _ n _ (h.keep (bt hW2 Bl))).mono ?_; rintro e wO ⟨rfl, hrO, hbO'⟩; have hbO : Below W.heap.size W wO := bt Bl hbO'; have hzO := hrO.lt; have hsO := hbO.size; (first | (have hlit := (bits7_lit _).keep hbO') | (have hlit := ((bits7_lit _).keep (below_drew _)).keep hbO') | skip); (try simp only [World.size_alloc, World.size_drew] at hrO hzO)))
      | (go_at_call 7; go_must (refine (formatS_any _ _ p _ (q1.keep (bt hbO Bl)) (q2.keep (bt hbO Bl))).mono ?_; rintro e wF ⟨rfl, hbF'⟩; have hbF : Below wO.heap.size wO wF := bt Bl hbF'; have hrF := hrO.keep hbF; have hsF := hbF.size; have hbWF : Below W.heap.size W wF := bt hbO hbF; (first | (have hlit2 := hlit.keep hbF) | (have hlit2 := (bits7_lit _).keep hbF') | (have hlit2 := ((bits7_lit _).keep (below_drew _)).keep hbF') | skip)))
      | (go_at_call 25; go_must (refine (bend_any _ 0 _ 7 _ (fmtB p) bits7 _ (hrF.keep Bl) (by omega) (by have := HLN.out; omega) rfl (by decide) (by decide) (by first | omega | (simp; omega)) (by first | exact hlit2.keep Bl | exact bits7_lit _) (by simp [bits7])).mono ?_; rintro e wB ⟨t', rfl, ht', _, hfB⟩; have hBB : Below W.heap.size W wB := (bt hbWF Bl).trans (hfB.below (Below.size (bt hbWF Bl)) (fun k hk e => by have e' := e; first | omega | (simp at e'; omega))))))
  all_goals
    have HB := Lib.hid (bt hW2 hBB)
    clear hBB hfB
    go_wp2
    go_ret
    exact ⟨t', rfl, by have := HLN.out; omega, HB.out⟩
end Go.Proofs.YtdjfdopgjlbloaaGreatDoor
