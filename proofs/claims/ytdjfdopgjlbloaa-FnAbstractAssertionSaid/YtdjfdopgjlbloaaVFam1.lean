/- Fam1: texts Jn1, Jn2, Jn3 in one. -/
import Derived.Test.YtdjfdopgjlbloaaVData3
import Derived.Test.YtdjfdopgjlbloaaVData2
import Derived.Test.YtdjfdopgjlbloaaVCpy
import Derived.Deep.RegionHeld3
/- Walks: lists joined; copies of assertions, of the program. -/
namespace Go.Proofs.Ytdjfdopgjlbloaa
open Go.RowKit

set_option maxRecDepth 100000 in
set_option maxHeartbeats 800000 in
theorem joinFacts_any {S1 S2 : Nat → Prop} (v1 v2 : Value) (l1 l2 : List Fact) (w : World) (h1 : RL w S1 v1 l1) (h2 : RL w S2 v2 l2) (hn : l1.length + l2.length ≤ 16777216) :
    Calls Try.prog 92 #[v1, v2] w fun e w' => ∃ v, e = .returned v ∧ OO w' w.heap.size v (l1 ++ l2) ∧ Below w.heap.size w w' := by
  obtain ⟨a1, c1, rfl⟩ := h1.form
  obtain ⟨a2, c2, rfl⟩ := h2.form
  obtain ⟨i0, hi, hz0, hz1, hz2⟩ := info_parts info_fact
  go_enter Try.func92, Try.ntmps92
  go_wp2_with (first
    | (at_make; refine wpList_make_own _ rfl _ _ 23 rfl w.heap.size 53 i0 (.agg #[.bool false, .int .i64 0, .int .i64 0]) 3 Try.underlying23 hi hz0 hz1 _ _ _ (l1.length + l2.length) rfl rfl (by omega) (by rw [hz2]; omega) (by unfold maxLen; omega) (Nat.le_refl _) ?_; intro w1 hown hgr; have hb1 := (grown_fr hgr).below (B := w.heap.size) (Nat.le_refl _) (by intro k _ e; cases e))
    | (at_builtin; refine app_rl (l := l1) (n := 0) rfl (.tmp 12) (.tmp 13) _ rfl (B := w.heap.size) ti_fact rfl hown rfl (h1.keep hb1) (by omega) hb1.size ?_; intro v2 w2 n1 p1 q1 r1 f1 _; have hb2 := below_own hown f1 hb1 hb1.size; obtain ⟨xs, px, rx⟩ := flat_parts (flat_mk (l := l1) (app_first p1) r1))
    | (at_builtin; refine app_rl (l := l2) (n := l1.length) rfl (.tmp 14) (.tmp 15) _ rfl (B := w.heap.size) ti_fact rfl px rfl (h2.keep hb2) (by omega) hb2.size ?_; intro v3 w3 n2 p2 q2 r2 f2 _))
  have hb3 := below_own px f2 hb2 hb2.size
  have o3 := flat_app p2 px.1 rx r2
  go_ret
  exact ⟨_, rfl, ⟨_, o3, nodup_own v3⟩, hb3⟩
set_option maxRecDepth 100000 in
set_option maxHeartbeats 800000 in
theorem joinAtoms_any {S1 S2 : Nat → Prop} (v1 v2 : Value) (l1 l2 : List Atom) (w : World) (h1 : RL w S1 v1 l1) (h2 : RL w S2 v2 l2) (hn : l1.length + l2.length ≤ 16777216) :
    Calls Try.prog 93 #[v1, v2] w fun e w' => ∃ v, e = .returned v ∧ OO w' w.heap.size v (l1 ++ l2) ∧ Below w.heap.size w w' := by
  obtain ⟨a1, c1, rfl⟩ := h1.form
  obtain ⟨a2, c2, rfl⟩ := h2.form
  obtain ⟨i0, hi, hz0, hz1, hz2⟩ := info_parts info_atom
  go_enter Try.func93, Try.ntmps93
  go_wp2_with (first
    | (at_make; refine wpList_make_own _ rfl _ _ 24 rfl w.heap.size 56 i0 (.agg #[.int .i64 0, .int .i64 0, .int .i64 0]) 3 Try.underlying24 hi hz0 hz1 _ _ _ (l1.length + l2.length) rfl rfl (by omega) (by rw [hz2]; omega) (by unfold maxLen; omega) (Nat.le_refl _) ?_; intro w1 hown hgr; have hb1 := (grown_fr hgr).below (B := w.heap.size) (Nat.le_refl _) (by intro k _ e; cases e))
    | (at_builtin; refine app_rl (l := l1) (n := 0) rfl (.tmp 12) (.tmp 13) _ rfl (B := w.heap.size) ti_atom rfl hown rfl (h1.keep hb1) (by omega) hb1.size ?_; intro v2 w2 n1 p1 q1 r1 f1 _; have hb2 := below_own hown f1 hb1 hb1.size; obtain ⟨xs, px, rx⟩ := flat_parts (flat_mk (l := l1) (app_first p1) r1))
    | (at_builtin; refine app_rl (l := l2) (n := l1.length) rfl (.tmp 14) (.tmp 15) _ rfl (B := w.heap.size) ti_atom rfl px rfl (h2.keep hb2) (by omega) hb2.size ?_; intro v3 w3 n2 p2 q2 r2 f2 _))
  have hb3 := below_own px f2 hb2 hb2.size
  have o3 := flat_app p2 px.1 rx r2
  go_ret
  exact ⟨_, rfl, ⟨_, o3, nodup_own v3⟩, hb3⟩
end Go.Proofs.Ytdjfdopgjlbloaa
/- Walks: copies of assertions, of the program. -/
namespace Go.Proofs.Ytdjfdopgjlbloaa
open Go.RowKit

section
variable {α β : Type} [Own α] [Tid α] [Own β] [Tid β] {w w' w'' : World} {B B1 B2 : Nat} {v1 v2 : Value} {l1 : List α} {l2 : List β} {f1 f2 : List Nat} {a : List α × List β}
theorem OA.join (o1 : OL w B1 v1 l1 f1) (n1 : f1.Nodup) (o2 : OL w' B2 v2 l2 f2) (n2 : f2.Nodup) (hb : Below w.heap.size w w') (h2 : w.heap.size ≤ B2) (hB1 : B ≤ B1) (hB2 : B ≤ B2) : OA w' B v1 v2 (l1, l2) :=
  ⟨f1, f2, (o1.keep hb).mono hB1, o2.mono hB2, List.nodup_append.2 ⟨n1, n2, fun x hx y hy e => by
    have q1 := (o1.lt x hx).2
    have q2 := (o2.lt y hy).1
    omega⟩⟩
theorem OA.setB (h : OA w B v1 v2 a) {p : Addr} {u : Value} (hp : p.block < B) : OA (w.setCell p u) B v1 v2 a :=
  h.kept (fr_set _ _ _) fun k h1 _ e => by omega
/-- The two cells of a result are written. -/
theorem OA.res (h : OA w' B v1 v2 a) {R : Nat} (hR : R < B) (hB : w.heap.size ≤ R) (hb : Below w.heap.size w w') (x y : Value) :
    OA ((w'.setCell ⟨R, 0, none⟩ x).setCell ⟨R, 1, none⟩ y) w.heap.size v1 v2 a ∧ Below w.heap.size w ((w'.setCell ⟨R, 0, none⟩ x).setCell ⟨R, 1, none⟩ y) :=
  ⟨((h.setB hR).setB hR).mono (by omega), (hb.setCell hB _).setCell hB _⟩
end

set_option maxRecDepth 100000 in
set_option maxHeartbeats 1600000 in
theorem copyAssertion_any {S1 S2 : Nat → Prop} (v1 v2 : Value) (a : Asn) (w : World) (h1 : RL w S1 v1 a.1) (h2 : RL w S2 v2 a.2) (hn : a.1.length ≤ 1048576) (hm : a.2.length ≤ 1048576) :
    Calls Try.prog 70 #[.agg #[v1, v2]] w fun e w' => ∃ u1 u2, e = .returned (.agg #[u1, u2]) ∧ OA w' w.heap.size u1 u2 a ∧ Below w.heap.size w w' := by
  obtain ⟨a1, a2⟩ := a
  simp only at h1 h2 hn hm
  obtain ⟨b1, c1, rfl⟩ := h1.form
  obtain ⟨b2, c2, rfl⟩ := h2.form
  go_enter Try.func70, Try.ntmps70
  go_wp2
  have hc0 : ((w.alloc (.cells #[.slice b1 a1.length c1, .slice b2 a2.length c2] 26)).alloc (.cells #[.slice none 0 0, .slice none 0 0] 26)).cell? ⟨w.heap.size, 0, none⟩ = some (.slice b1 a1.length c1) := by simp [go_sem]
  have hc1 : ((w.alloc (.cells #[.slice b1 a1.length c1, .slice b2 a2.length c2] 26)).alloc (.cells #[.slice none 0 0, .slice none 0 0] 26)).cell? ⟨w.heap.size, 1, none⟩ = some (.slice b2 a2.length c2) := by simp [go_sem]
  have hA := heap_alloc_new (w.alloc (.cells #[.slice b1 a1.length c1, .slice b2 a2.length c2] 26)) (.cells #[.slice none 0 0, .slice none 0 0] 26)
  have hW : Below w.heap.size w ((w.alloc (.cells #[.slice b1 a1.length c1, .slice b2 a2.length c2] 26)).alloc (.cells #[.slice none 0 0, .slice none 0 0] 26)) := ba (below_alloc _ _) _
  have hz : ((w.alloc (.cells #[.slice b1 a1.length c1, .slice b2 a2.length c2] 26)).alloc (.cells #[.slice none 0 0, .slice none 0 0] 26)).heap.size = w.heap.size + 2 := by simp
  rw [World.size_alloc] at hA
  generalize (w.alloc (.cells #[.slice b1 a1.length c1, .slice b2 a2.length c2] 26)).alloc (.cells #[.slice none 0 0, .slice none 0 0] 26) = w0 at *
  have HA := Lib.hid hA
  have HZ := Lib.hid hz
  clear hA hz
  go_region_held3 (fun w' => w'.cell? ⟨w.heap.size, 0, none⟩ = some (.slice b1 a1.length c1) ∧ w'.cell? ⟨w.heap.size, 1, none⟩ = some (.slice b2 a2.length c2))
    (exact ⟨(by repeat (first | with_reducible exact hc0 | (with_reducible refine (fr_set _ _ _).cell (by first | (simp; done) | (simp; omega) | omega) ?_) | exact cell_keep Bl hc0)), (by repeat (first | with_reducible exact hc1 | (with_reducible refine (fr_set _ _ _).cell (by first | (simp; done) | (simp; omega) | omega) ?_) | exact cell_keep Bl hc1))⟩)
    (first
      | (go_at_call 92; go_must (refine (joinFacts_any _ _ a1 [] _ (h1.keep (bt hW Bl)) (RL.nil _ (fun _ => True)) (by simp; omega)).mono ?_; rintro e w5 ⟨x1, rfl, ⟨f1, o1, n1⟩, hb5'⟩; rw [List.append_nil] at o1; obtain ⟨d1, k1, rfl⟩ := o1.read.form; have hb5 : Below w0.heap.size w0 w5 := bt Bl hb5'; have hz5 := hb5.size))
      | (go_at_call 93; go_must (refine (joinAtoms_any _ _ a2 [] _ (h2.keep (bt hW Bl)) (RL.nil _ (fun _ => True)) (by simp; omega)).mono ?_; rintro e w6 ⟨y1, rfl, ⟨f2, o2, n2⟩, hb6'⟩; rw [List.append_nil] at o2; obtain ⟨d2, k2, rfl⟩ := o2.read.form; have hb6 : Below w0.heap.size w0 w6 := bt Bl hb6'; have hA6 := box_keep HA.out hb6; have ha0 := box0 hA6; have ha1 := box1 hA6; have haz : ∀ i, w6.frozen? ⟨w.heap.size + 1, i, none⟩ = false := boxz hA6; have hlA := box_lt hA6; clear hA6)))
  all_goals
    have hz0 := HZ.out
    have hz5 := hb5.size
    have hz5' := hb5'.size
    have HO := Lib.hid ((OA.join o1 n1 o2 n2 Bl (by first | exact Nat.le_refl _ | exact hb6'.size) (B := w.heap.size + 2) (by first | (simp; omega) | omega) (by first | (simp; omega) | omega)).res (R := w.heap.size + 1) (by omega) (by omega) (bt hW hb6) (.slice d1 a1.length k1) (.slice d2 a2.length k2))
    have r := box_two (.slice d1 a1.length k1) (.slice d2 a2.length k2) ha0 ha1
    clear o1 n1 o2 n2 hb5 hb5' hb6 hb6'
    go_wp2
    refine bodyPost_ret (v := .agg #[.slice d1 a1.length k1, .slice d2 a2.length k2]) (by simp [results, Try.results70, go_sem, r.1, r.2]) rfl ?_
    exact ⟨_, _, rfl, HO.out.1, HO.out.2⟩
end Go.Proofs.Ytdjfdopgjlbloaa
/- Walks: copies of families, of the program; families joined. -/
namespace Go.Proofs.Ytdjfdopgjlbloaa
open Go.RowKit

end Go.Proofs.Ytdjfdopgjlbloaa
