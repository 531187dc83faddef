/- Walks: copies whose rows are the call's own; facts sometimes made invalid. -/
import Derived.Test.YtdjfdopgjlbloaaGreatDoorWDHolds2
import Derived.Test.YtdjfdopgjlbloaaGreatDoorWHeldD
namespace Go.Proofs.YtdjfdopgjlbloaaGreatDoor
open Go.RowKit

theorem tf_below {w w' : World} {B : Nat} {e : TypeId} (h : Fr (TF w B e) w w') (hB : B ≤ w.heap.size) : Below B w w' := h.below hB fun k hk h2 => by have := h2.1; omega
theorem FE.set2 {α : Type} [Flat α] [Tid α] {w : World} {B b : Nat} {v x y : Value} {l : List α} {T : TypeId} {cs : Array Value} (h : FE w B v l) (hb : w.heap[b]? = some (.cells cs T (0, 0))) (hT : T ≠ Tid.tid α) :
    FE ((w.setCell ⟨b, 0, none⟩ x).setCell ⟨b, 1, none⟩ y) B v l := by
  refine (h.setB (fun hk => tf_ne hb hT hk)).setB fun hk => ?_
  refine hk.2.elim fun cs2 hc => ?_
  have hlt := (Array.getElem?_eq_some_iff.1 hb).1
  have hb2 : (w.setCell ⟨b, 0, none⟩ x).heap[b]? = some (.cells (cs.setIfInBounds 0 x) T (0, 0)) := by
    simp [World.setCell, Array.getElem?_modify, hb]
  simp only at hc
  rw [hb2] at hc
  injection hc with hc
  injection hc with _ hc
  exact hT hc
theorem da_more2 {w0 w : World} {g q q' bR bA : Nat} {v1 v2 : Value} {l1 : List Fact} {l2 : List Atom} (h : DA w0 w g q bR bA v1 v2 l1 l2) (hq : q ≤ q') : DA w0 w g q' bR bA v1 v2 l1 l2 :=
  ⟨h.f, h.a, h.boxR, h.boxA, h.rdr.more hq, h.fr⟩
set_option maxRecDepth 100000 in
set_option maxHeartbeats 3200000 in
theorem l3StarF_any {S1 S2 S3 S4 : Nat → Prop} (v1 v2 u1 u2 : Value) (a b : Asn) (w : World) (h1 : RL w S1 v1 a.1) (h2 : RL w S2 v2 a.2) (k1 : RL w S3 u1 b.1) (k2 : RL w S4 u2 b.2)
    (n1 : a.1.length ≤ 1048576) (n2 : a.2.length ≤ 1048576) (n3 : b.1.length ≤ 1048576) (n4 : b.2.length ≤ 1048576) :
    Calls Tryz.prog 92 #[.agg #[v1, v2], .agg #[u1, u2]] w fun e w' => ∃ x1 x2, e = .returned (.agg #[x1, x2]) ∧ FE w' w.heap.size x1 (a.1 ++ b.1) ∧ FE w' w.heap.size x2 (a.2 ++ b.2) ∧ Below w.heap.size w w' := by
  obtain ⟨a1, a2⟩ := a
  obtain ⟨b1, b2⟩ := b
  simp only at h1 h2 k1 k2 n1 n2 n3 n4
  obtain ⟨p1, c1, rfl⟩ := h1.form
  obtain ⟨p2, c2, rfl⟩ := h2.form
  obtain ⟨p3, c3, rfl⟩ := k1.form
  obtain ⟨p4, c4, rfl⟩ := k2.form
  go_enter Tryz.func92, Tryz.ntmps92
  go_wp2
  generalize hw0 : (((w.alloc (.cells #[.slice p1 a1.length c1, .slice p2 a2.length c2] 37)).alloc (.cells #[.slice p3 b1.length c3, .slice p4 b2.length c4] 37)).alloc (.cells #[.slice none 0 0, .slice none 0 0] 37)) = w0
  have hc0 : w0.cell? ⟨w.heap.size, 0, none⟩ = some (.slice p1 a1.length c1) := by rw [← hw0]; simp [go_sem]
  have hc1 : w0.cell? ⟨w.heap.size, 1, none⟩ = some (.slice p2 a2.length c2) := by rw [← hw0]; simp [go_sem]
  have hd0 : w0.cell? ⟨w.heap.size + 1, 0, none⟩ = some (.slice p3 b1.length c3) := by rw [← hw0]; simp [go_sem]
  have hd1 : w0.cell? ⟨w.heap.size + 1, 1, none⟩ = some (.slice p4 b2.length c4) := by rw [← hw0]; simp [go_sem]
  have hA : w0.heap[w.heap.size + 2]? = some (.cells #[.slice none 0 0, .slice none 0 0] 37 (0, 0)) := by
    rw [← hw0]
    have := heap_alloc_new ((w.alloc (.cells #[.slice p1 a1.length c1, .slice p2 a2.length c2] 37)).alloc (.cells #[.slice p3 b1.length c3, .slice p4 b2.length c4] 37)) (.cells #[.slice none 0 0, .slice none 0 0] 37)
    simpa using this
  have hz : w0.heap.size = w.heap.size + 3 := by rw [← hw0]; simp
  have hW : Below w.heap.size w w0 := by rw [← hw0]; exact ba (ba (below_alloc _ _) _) _
  clear hw0
  have HA := Lib.hid hA
  have HZ := Lib.hid hz
  have q1 := h1.keep hW
  have q2 := h2.keep hW
  have q3 := k1.keep hW
  have q4 := k2.keep hW
  clear hA hz h1 h2 k1 k2
  go_region_held3 (fun w' => (w'.cell? ⟨w.heap.size, 0, none⟩ = some (.slice p1 a1.length c1) ∧ w'.cell? ⟨w.heap.size, 1, none⟩ = some (.slice p2 a2.length c2)) ∧ (w'.cell? ⟨w.heap.size + 1, 0, none⟩ = some (.slice p3 b1.length c3) ∧ w'.cell? ⟨w.heap.size + 1, 1, none⟩ = some (.slice p4 b2.length c4)))
    (exact ⟨⟨(by repeat (first | with_reducible exact hc0 | (with_reducible refine (fr_set _ _ _).cell (by first | (simp; done) | (simp; omega) | omega) ?_) | exact cell_keep Bl hc0)), (by repeat (first | with_reducible exact hc1 | (with_reducible refine (fr_set _ _ _).cell (by first | (simp; done) | (simp; omega) | omega) ?_) | exact cell_keep Bl hc1))⟩, ⟨(by repeat (first | with_reducible exact hd0 | (with_reducible refine (fr_set _ _ _).cell (by first | (simp; done) | (simp; omega) | omega) ?_) | exact cell_keep Bl hd0)), (by repeat (first | with_reducible exact hd1 | (with_reducible refine (fr_set _ _ _).cell (by first | (simp; done) | (simp; omega) | omega) ?_) | exact cell_keep Bl hd1))⟩⟩)
    (first
      | (refine step_F (l := ([] : List Fact)) (m := a1) (B := w0.heap.size) (by rfl) (.tmp 5) (.tmp 7) _ (by rfl) ti_fact (by rfl) (FE.nil _ _ _) (by rfl) (q1.keep Bl) (by simp; omega) (Below.size (w := w0) (B := w0.heap.size) Bl) ?_; intro v5 w5 o5 hb5'; rw [List.nil_append] at o5; have hz5 : w0.heap.size ≤ w5.heap.size := Nat.le_trans (Below.size (w := w0) (B := w0.heap.size) Bl) hb5'.size; have hb5 : Below w0.heap.size w0 w5 := Below.trans Bl (tf_below hb5' (Below.size (w := w0) (B := w0.heap.size) Bl)); clear hb5')
      | (refine step_F (l := a1) (m := b1) (B := w0.heap.size) (by rfl) (.tmp 8) (.tmp 10) _ (by rfl) ti_fact (by rfl) (o5.keep Bl) (by rfl) (q3.keep Bl) (by omega) (Below.size (w := w0) (B := w0.heap.size) Bl) ?_; intro v6 w6 o6 hb6'; have hb6 : Below w0.heap.size w0 w6 := Below.trans Bl (tf_below hb6' (Below.size (w := w0) (B := w0.heap.size) Bl)); clear hb6'; clear o5; obtain ⟨d6, m6, k6, rfl⟩ := o6.forms)
      | (refine step_F (l := ([] : List Atom)) (m := a2) (B := w0.heap.size) (by rfl) (.tmp 12) (.tmp 14) _ (by rfl) ti_atom (by rfl) (FE.nil _ _ _) (by rfl) (q2.keep Bl) (by simp; omega) (Below.size (w := w0) (B := w0.heap.size) Bl) ?_; intro v7 w7 o7 hb7'; rw [List.nil_append] at o7; have o67 := (o6.keep Bl).tf hb7' (by decide); clear o6; have hb7 : Below w0.heap.size w0 w7 := Below.trans Bl (tf_below hb7' (Below.size (w := w0) (B := w0.heap.size) Bl)); clear hb7')
      | (refine step_F (l := a2) (m := b2) (B := w0.heap.size) (by rfl) (.tmp 15) (.tmp 17) _ (by rfl) ti_atom (by rfl) (o7.keep Bl) (by rfl) (q4.keep Bl) (by omega) (Below.size (w := w0) (B := w0.heap.size) Bl) ?_; intro v8 w8 o8 hb8'; have o68 := (o67.keep Bl).tf hb8' (by decide); have hb8 : Below w0.heap.size w0 w8 := Below.trans Bl (tf_below hb8' (Below.size (w := w0) (B := w0.heap.size) Bl)); clear hb8' o67 o7; obtain ⟨d8, m8, k8, rfl⟩ := o8.forms; have hA8 := box_keep HA.out hb8; have ha0 := box0 hA8; have ha1 := box1 hA8; have haz : ∀ i, w8.frozen? ⟨w.heap.size + 2, i, none⟩ = false := boxz hA8; have hlA := box_lt hA8; have HA8 := Lib.hid hA8; clear hA8))
  all_goals
    have hz0 := HZ.out
    have f6 := (o68.set2 (x := .slice d6 m6 k6) (y := .slice d8 m8 k8) HA8.out (by decide)).mono (B' := w.heap.size) (by omega)
    have f8 := (o8.set2 (x := .slice d6 m6 k6) (y := .slice d8 m8 k8) HA8.out (by decide)).mono (B' := w.heap.size) (by omega)
    have fb := ((bt hW hb8).setCell (p := ⟨w.heap.size + 2, 0, none⟩) (by simp) (.slice d6 m6 k6)).setCell (p := ⟨w.heap.size + 2, 1, none⟩) (by simp) (.slice d8 m8 k8)
    have HO := Lib.hid (And.intro f6 (And.intro f8 fb))
    have r := box_two (.slice d6 m6 k6) (.slice d8 m8 k8) ha0 ha1
    clear f6 f8 fb o68 o8 hb5 hb6 hb7 hb8
    go_wp2
    refine bodyPost_ret (v := .agg #[.slice d6 m6 k6, .slice d8 m8 k8]) (by simp [results, Tryz.results92, go_sem, r.1, r.2]) rfl ?_
    exact ⟨_, _, rfl, HO.out.1, HO.out.2.1, HO.out.2.2⟩
set_option maxRecDepth 100000 in
set_option maxHeartbeats 1600000 in
theorem l3CopyF_any {S1 S2 : Nat → Prop} (v1 v2 : Value) (a : Asn) (w : World) (h1 : RL w S1 v1 a.1) (h2 : RL w S2 v2 a.2) (hs : asSz a) :
    Calls Tryz.prog 73 #[.agg #[v1, v2]] w fun e w' => ∃ x1 x2, e = .returned (.agg #[x1, x2]) ∧ FE w' w.heap.size x1 a.1 ∧ FE w' w.heap.size x2 a.2 ∧ Below w.heap.size w w' := by
  obtain ⟨p1, c1, rfl⟩ := h1.form
  obtain ⟨p2, c2, rfl⟩ := h2.form
  have HS := Lib.hid hs
  clear hs
  go_enter Tryz.func73, Tryz.ntmps73
  go_wp2_with fail
  refine (l3StarF_any _ _ _ _ a ([], []) _ ((h1.alloc _).alloc _) ((h2.alloc _).alloc _) (RL.nil _ (fun _ => True)) (RL.nil _ (fun _ => True)) HS.out.1 HS.out.2 (by decide) (by decide)).mono ?_
  rintro e w1 ⟨x1, x2, rfl, r1, r2, hb⟩
  simp only [List.append_nil] at r1 r2
  obtain ⟨d1, m1, k1, rfl⟩ := r1.forms
  obtain ⟨d2, m2, k2, rfl⟩ := r2.forms
  have hA := box_keep (heap_alloc_new (w.alloc (.cells #[.slice p1 a.1.length c1, .slice p2 a.2.length c2] 37)) (.cells #[.slice none 0 0, .slice none 0 0] 37)) hb
  rw [World.size_alloc] at hA
  have ha0 := box0 hA
  have ha1 := box1 hA
  have haz : ∀ i, w1.frozen? ⟨w.heap.size + 1, i, none⟩ = false := boxz hA
  have hlA := box_lt hA
  have r := box_two (.slice d1 m1 k1) (.slice d2 m2 k2) ha0 ha1
  have f1 := (r1.set2 (x := .slice d1 m1 k1) (y := .slice d2 m2 k2) hA (by decide)).mono (B' := w.heap.size) (by simp; omega)
  have f2 := (r2.set2 (x := .slice d1 m1 k1) (y := .slice d2 m2 k2) hA (by decide)).mono (B' := w.heap.size) (by simp; omega)
  have fb := ((bt (ba (below_alloc w _) _) hb).setCell (p := ⟨w.heap.size + 1, 0, none⟩) (by simp) (.slice d1 m1 k1)).setCell (p := ⟨w.heap.size + 1, 1, none⟩) (by simp) (.slice d2 m2 k2)
  have HO := Lib.hid (And.intro f1 (And.intro f2 fb))
  clear f1 f2 fb r1 r2 hb hA
  go_wp2
  refine bodyPost_ret (v := .agg #[.slice d1 m1 k1, .slice d2 m2 k2]) (by simp [results, Tryz.results73, go_sem, r.1, r.2]) rfl ?_
  exact ⟨_, _, rfl, HO.out.1, HO.out.2.1, HO.out.2.2⟩
set_option maxRecDepth 100000 in
set_option maxHeartbeats 3200000 in
theorem l1Mutate_any {S : Nat → Prop} (g q : Nat) (v : Value) (l : List Fact) (w : World) (hr : Rdr w g q) (hq : q ≤ 1000000) (h : RL w S v l) (hl : l.length ≤ 1048577) :
    Calls Tryz.prog 75 #[.pointer (some ⟨g, 0, none⟩), v] w fun e w' => ∃ (v' : Value) (l' : List Fact), e = .returned v' ∧ l'.length ≤ l.length + 13 ∧ FE w' w.heap.size v' l' ∧ Rdr w' g (q + 2) ∧ Fr (fun j => j = g) w w' := by
  have hgl := hr.lt
  obtain ⟨a, c, rfl⟩ := h.form
  go_enter Tryz.func75, Tryz.ntmps75
  go_wp2_with (at_builtin; go_must (refine app_F (l := ([] : List Fact)) (m := l) (B := w.heap.size) rfl (.tmp 6) (.tmp 7) _ rfl ti_fact rfl (FE.nil _ _ _) rfl (h.keep Bl) (by simp; omega) (by simp) ?_; intro v5 w5 o5 hb5'; rw [List.nil_append] at o5; have hb5 : Below w.heap.size w w5 := Below.trans Bl (tf_below hb5' (by simp)); have hz5 := hb5.size; clear hb5'))
  obtain ⟨d5, m5, k5, rfl⟩ := o5.forms
  have hr5 := hr.keepB hb5 hgl
  have hF5 : Fr (fun j => j = g) w w5 := (Below.fr hb5).mono fun _ _ h => h.elim
  have HO5 := Lib.hid o5
  clear hr h o5 hb5
  go_wp2_with fail
  refine (pick_any g q _ _ hr5 (by omega) (by decide) (by decide)).mono ?_
  rintro e w6 ⟨k, rfl, hk, hr6, hf6⟩
  have o6 := HO5.out.kept hf6 (fun j hj e => by have := hj.1; omega)
  have hF6 := hF5.trans hf6
  have hz6 : w.heap.size ≤ w6.heap.size := hF6.size
  have hg6 := hr6.lt
  have HF := Lib.hid (And.intro o6 (And.intro hr6 hF6))
  clear hf6 hF5 hr5 o6 hr6 hF6 HO5
  by_cases k0 : k = 0
  · subst k0
    have hlit := lit_ints w6 [-1, 9, 9223372036854775807] (by decide)
    have HLIT := Lib.hid hlit
    clear hlit
    go_wp2_with fail
    refine (num_any g (q + 1) _ [-1, 9, 9223372036854775807] _ (HF.out.2.1.keep (below_alloc _ _)) HLIT.out (by omega) (by decide) (by decide) (fun k hk e => by simp [Value.ownBlock] at hk; omega)).mono ?_
    rintro e w7 ⟨x, _, rfl, hr7, hf7⟩
    have o7 := (HF.out.1.keep (below_alloc w6 _)).kept hf7 (fun j hj e => by have := hj.1; omega)
    have hF7 := (HF.out.2.2.thenB (below_alloc _ _)).trans hf7
    have hz7 : w.heap.size ≤ w7.heap.size := hF7.size
    have H7 := Lib.hid (And.intro hr7 hF7)
    clear hf7 HLIT HF hr7 hF7
    go_wp2_with (at_builtin; go_must (refine app_F (l := l) (m := [(false, x, 0)]) (B := w.heap.size) rfl (.tmp 13) (.tmp 18) _ rfl ti_fact rfl (o7.keep (below_alloc _ _)) rfl (lit_fact _ _ _ _ _) (by simp; omega) (by simp; omega) ?_; intro v8 w8 o8 hf8))
    go_ret
    exact ⟨_, _, rfl, by simp, o8, (H7.out.1.keep (below_alloc _ _)).kept hf8 (fun k hk e => by have := e.1; omega), (H7.out.2.thenB (below_alloc _ _)).then hf8 fun i hi e => by have := e.1; omega⟩
  · have kb0 : ((k : Int) == 0) = false := by simp; omega
    by_cases k1 : k = 1
    · subst k1
      go_wp2
      go_loopg [5] (13 - l.length) (fun qq x wr => ∃ l' : List Fact, qq = 13 - l'.length ∧ l'.length ≤ l.length + 13 ∧ FE wr w.heap.size x l' ∧ Rdr wr g (q + 1) ∧ Fr (fun j => j = g) w wr)
      case atStart => exact ⟨l, rfl, by omega, HF.out.1, HF.out.2.1, HF.out.2.2⟩
      case round =>
        obtain ⟨l', hq', hle, o, hr', hF⟩ := hrel
        obtain ⟨a', c', rfl⟩ := o.form
        have hz : w.heap.size ≤ wr.heap.size := hF.size
        have HQ := Lib.hid hq'
        have H7 := Lib.hid (And.intro hr' hF)
        clear hq' hr' hF
        by_cases h12 : l'.length ≤ 12
        · have hi : (l'.length : Int) ≤ 12 := by omega
          go_wp2_with (at_builtin; go_must (refine app_F (l := l') (m := [(true, 1, 2)]) (B := w.heap.size) rfl (.tmp 25) (.tmp 27) _ rfl ti_fact rfl (o.keep (below_alloc _ _)) rfl (lit_fact _ _ _ _ _) (by simp; omega) (by simp; omega) ?_; intro v8 w8 o8 hf8))
          go_roundg (13 - (l'.length + 1))
          case rel => exact ⟨l' ++ [(true, 1, 2)], by simp, by simp; omega, o8, (H7.out.1.keep (below_alloc _ _)).kept hf8 (fun k hk e => by have := e.1; omega), (H7.out.2.thenB (below_alloc _ _)).then hf8 fun i hi e => by have := e.1; omega⟩
          case measure => have := HQ.out; omega
        · have hi : (12 : Int) < (l'.length : Int) := by omega
          have HO := Lib.hid o
          clear o
          go_wp2
          go_ret
          exact ⟨_, l', rfl, hle, HO.out, H7.out.1.more (by omega), H7.out.2⟩
    · have kb1 : ((k : Int) == 1) = false := by simp; omega
      go_wp2
      go_ret
      exact ⟨_, l, rfl, by omega, HF.out.1, HF.out.2.1.more (by omega), HF.out.2.2⟩
end Go.Proofs.YtdjfdopgjlbloaaGreatDoor
