/- Fam2: texts Star, Star2, Join in one. -/
import Derived.Test.YtapoillhgimdiaaTData3
import Derived.Test.YtapoillhgimdiaaTCpy
import Derived.Test.YtapoillhgimdiaaTData2
import Derived.Deep.RegionHeld3
import Derived.Test.YtapoillhgimdiaaTFam1
/- Walks: the reference's separating conjunction and copies. -/
namespace Go.Proofs.Ytapoillhgimdiaa
open Go.RowKit

theorem RL.setB {α : Type} [Dat α] {w : World} {S : Nat → Prop} {v : Value} {l : List α} (h : RL w S v l) {p : Addr} {u : Value} (hp : ∀ k, S k → ¬ k = p.block) : RL (w.setCell p u) S v l := h.kept (fr_set _ _ _) fun k _ h1 h2 => hp k h1 h2

theorem RL.forms {α : Type} [Dat α] {w : World} {S : Nat → Prop} {v : Value} {l : List α} (h : RL w S v l) : ∃ a n cap, v = .slice a n cap := by obtain ⟨a, c, h⟩ := h.form; exact ⟨a, _, c, h⟩

set_option maxRecDepth 100000 in
set_option maxHeartbeats 3200000 in
theorem l3Star_any {S1 S2 S3 S4 : Nat → Prop} (v1 v2 u1 u2 : Value) (a b : Asn) (w : World) (h1 : RL w S1 v1 a.1) (h2 : RL w S2 v2 a.2) (k1 : RL w S3 u1 b.1) (k2 : RL w S4 u2 b.2)
    (n1 : a.1.length ≤ 1048576) (n2 : a.2.length ≤ 1048576) (n3 : b.1.length ≤ 1048576) (n4 : b.2.length ≤ 1048576) :
    Calls Try.prog 152 #[.agg #[v1, v2], .agg #[u1, u2]] w fun e w' => ∃ x1 x2, e = .returned (.agg #[x1, x2]) ∧ RL w' (fun k => w.heap.size ≤ k) x1 (a.1 ++ b.1) ∧ RL w' (fun k => w.heap.size ≤ k) x2 (a.2 ++ b.2) ∧ Below w.heap.size w w' := by
  obtain ⟨a1, a2⟩ := a
  obtain ⟨b1, b2⟩ := b
  simp only at h1 h2 k1 k2 n1 n2 n3 n4
  obtain ⟨p1, c1, rfl⟩ := h1.form
  obtain ⟨p2, c2, rfl⟩ := h2.form
  obtain ⟨p3, c3, rfl⟩ := k1.form
  obtain ⟨p4, c4, rfl⟩ := k2.form
  go_enter Try.func152, Try.ntmps152
  go_wp2
  generalize hw0 : (((w.alloc (.cells #[.slice p1 a1.length c1, .slice p2 a2.length c2] 33)).alloc (.cells #[.slice p3 b1.length c3, .slice p4 b2.length c4] 33)).alloc (.cells #[.slice none 0 0, .slice none 0 0] 33)) = w0
  have hc0 : w0.cell? ⟨w.heap.size, 0, none⟩ = some (.slice p1 a1.length c1) := by rw [← hw0]; simp [go_sem]
  have hc1 : w0.cell? ⟨w.heap.size, 1, none⟩ = some (.slice p2 a2.length c2) := by rw [← hw0]; simp [go_sem]
  have hd0 : w0.cell? ⟨w.heap.size + 1, 0, none⟩ = some (.slice p3 b1.length c3) := by rw [← hw0]; simp [go_sem]
  have hd1 : w0.cell? ⟨w.heap.size + 1, 1, none⟩ = some (.slice p4 b2.length c4) := by rw [← hw0]; simp [go_sem]
  have hA : w0.heap[w.heap.size + 2]? = some (.cells #[.slice none 0 0, .slice none 0 0] 33 (0, 0)) := by
    rw [← hw0]
    have := heap_alloc_new ((w.alloc (.cells #[.slice p1 a1.length c1, .slice p2 a2.length c2] 33)).alloc (.cells #[.slice p3 b1.length c3, .slice p4 b2.length c4] 33)) (.cells #[.slice none 0 0, .slice none 0 0] 33)
    simpa using this
  have hz : w0.heap.size = w.heap.size + 3 := by rw [← hw0]; simp
  have hW : Below w.heap.size w w0 := by rw [← hw0]; exact ba (ba (below_alloc _ _) _) _
  clear hw0
  have HA := Lib.hid hA
  have HZ := Lib.hid hz
  have q1 := h1.keep hW
  have q2 := h2.keep hW
  have q3 := k1.keep hW
  have q4 := k2.keep hW
  clear hA hz h1 h2 k1 k2
  go_region_held3 (fun w' => (w'.cell? ⟨w.heap.size, 0, none⟩ = some (.slice p1 a1.length c1) ∧ w'.cell? ⟨w.heap.size, 1, none⟩ = some (.slice p2 a2.length c2)) ∧ (w'.cell? ⟨w.heap.size + 1, 0, none⟩ = some (.slice p3 b1.length c3) ∧ w'.cell? ⟨w.heap.size + 1, 1, none⟩ = some (.slice p4 b2.length c4)))
    (exact ⟨⟨(by repeat (first | with_reducible exact hc0 | (with_reducible refine (fr_set _ _ _).cell (by first | (simp; done) | (simp; omega) | omega) ?_) | exact cell_keep Bl hc0)), (by repeat (first | with_reducible exact hc1 | (with_reducible refine (fr_set _ _ _).cell (by first | (simp; done) | (simp; omega) | omega) ?_) | exact cell_keep Bl hc1))⟩, ⟨(by repeat (first | with_reducible exact hd0 | (with_reducible refine (fr_set _ _ _).cell (by first | (simp; done) | (simp; omega) | omega) ?_) | exact cell_keep Bl hd0)), (by repeat (first | with_reducible exact hd1 | (with_reducible refine (fr_set _ _ _).cell (by first | (simp; done) | (simp; omega) | omega) ?_) | exact cell_keep Bl hd1))⟩⟩)
    (first
      | (refine step_appE0 (l := a1) (by rfl) (.tmp 5) (.tmp 7) _ (by rfl) ti_fact (by rfl) (by rfl) (q1.keep Bl) n1 ?_; intro B1 hB1 v5 w5 y1 r1 t1 hb5'; have hle1 : w0.heap.size ≤ B1 := (by rw [hB1]; exact Below.size (w := w0) (B := w0.heap.size) Bl); have hle5 : B1 ≤ w5.heap.size := (by rw [hB1]; exact hb5'.size); have HB1 := Lib.hid hB1; clear hB1; have hb5 : Below w0.heap.size w0 w5 := Below.trans Bl (hb5'.mono hle1))
      | (refine step_appE (l := b1) (n := a1.length) (by rfl) (.tmp 8) (.tmp 10) _ (by rfl) (B := B1) ti_fact (by rfl) (r1.keep Bl) (by rfl) (q3.keep Bl) (by omega) (Nat.le_trans hle5 (Below.size (w := w5) (B := w5.heap.size) Bl)) ?_; intro v6 w6 y2 r2 _ t2 hb6'; have hb6 : Below w0.heap.size w0 w6 := Below.trans Bl (hb6'.mono hle1); have rl6 := rowE_app r2 r1.len t1 t2; obtain ⟨d6, m6, k6, rfl⟩ := rl6.forms)
      | (refine step_appE0 (l := a2) (by rfl) (.tmp 12) (.tmp 14) _ (by rfl) ti_atom (by rfl) (by rfl) (q2.keep Bl) n2 ?_; intro B2 hB2 v7 w7 y3 r3 t3 hb7'; have hle2 : w0.heap.size ≤ B2 := (by rw [hB2]; exact Below.size (w := w0) (B := w0.heap.size) Bl); have hle26 : w6.heap.size ≤ B2 := (by rw [hB2]; exact Below.size (w := w6) (B := w6.heap.size) Bl); have hle7 : B2 ≤ w7.heap.size := (by rw [hB2]; exact hb7'.size); have HB2 := Lib.hid hB2; clear hB2; have hb7 : Below w0.heap.size w0 w7 := Below.trans Bl (hb7'.mono hle2); have hb67 : Below w6.heap.size w6 w7 := Below.trans Bl (hb7'.mono hle26))
      | (refine step_appE (l := b2) (n := a2.length) (by rfl) (.tmp 15) (.tmp 17) _ (by rfl) (B := B2) ti_atom (by rfl) (r3.keep Bl) (by rfl) (q4.keep Bl) (by omega) (Nat.le_trans hle7 (Below.size (w := w7) (B := w7.heap.size) Bl)) ?_; intro v8 w8 y4 r4 _ t4 hb8'; have hb8 : Below w0.heap.size w0 w8 := Below.trans Bl (hb8'.mono hle2); have hb68 : Below w6.heap.size w6 w8 := Below.trans Bl (hb8'.mono hle26); have rl8 := rowE_app r4 r3.len t3 t4; obtain ⟨d8, m8, k8, rfl⟩ := rl8.forms; have hA8 := box_keep HA.out hb8; have ha0 := box0 hA8; have ha1 := box1 hA8; have haz : ∀ i, w8.frozen? ⟨w.heap.size + 2, i, none⟩ = false := boxz hA8; have hlA := box_lt hA8; clear hA8))
  all_goals
    have hz0 := HZ.out
    have f6 := (((rl6.keep hb68).setB (p := ⟨w.heap.size + 2, 0, none⟩) (u := .slice d6 m6 k6) (fun k h e => by simp at e; omega)).setB (p := ⟨w.heap.size + 2, 1, none⟩) (u := .slice d8 m8 k8) (fun k h e => by simp at e; omega)).more (S' := fun k => w.heap.size ≤ k) fun k _ h => by omega
    have f8 := ((rl8.setB (p := ⟨w.heap.size + 2, 0, none⟩) (u := .slice d6 m6 k6) (fun k h e => by simp at e; omega)).setB (p := ⟨w.heap.size + 2, 1, none⟩) (u := .slice d8 m8 k8) (fun k h e => by simp at e; omega)).more (S' := fun k => w.heap.size ≤ k) fun k _ h => by omega
    have fb := ((bt hW hb8).setCell (p := ⟨w.heap.size + 2, 0, none⟩) (by simp) (.slice d6 m6 k6)).setCell (p := ⟨w.heap.size + 2, 1, none⟩) (by simp) (.slice d8 m8 k8)
    have HO := Lib.hid (And.intro f6 (And.intro f8 fb))
    have r := box_two (.slice d6 m6 k6) (.slice d8 m8 k8) ha0 ha1
    clear f6 f8 fb rl6 rl8 r1 r2 r3 r4 t1 t2 t3 t4 hb5 hb5' hb6 hb6' hb7 hb7' hb8 hb8' hb67 hb68
    go_wp2
    refine bodyPost_ret (v := .agg #[.slice d6 m6 k6, .slice d8 m8 k8]) (by simp [results, Try.results152, go_sem, r.1, r.2]) rfl ?_
    exact ⟨_, _, rfl, HO.out.1, HO.out.2.1, HO.out.2.2⟩
end Go.Proofs.Ytapoillhgimdiaa
/- Walks: copies of families, of the reference; families joined. -/
namespace Go.Proofs.Ytapoillhgimdiaa
open Go.RowKit

/-- A row of the call's own whose elements can be read and do not hang on the row itself. -/
def TR {α : Type} [Dat α] (w : World) (B : Nat) (e : TypeId) (v : Value) (l : List α) : Prop :=
  ∃ xs, w.ownsRow B e (Dat.sz α) v l.length xs ∧ ∀ i, i < l.length → Dat.rd w (fun k => B ≤ k ∧ ¬ some k = v.ownBlock) (gd l i) (nth (Dat.sz α) xs i)
section
variable {α : Type} [Dat α] {w w' : World} {B : Nat} {e : TypeId} {v v' : Value} {l m : List α} {xs ys : List Value}
theorem TR.keep (h : TR w B e v l) (hb : Below w.heap.size w w') : TR w' B e v l := by
  obtain ⟨xs, hr, hx⟩ := h
  exact ⟨xs, own_keep hr hb, fun i hi => Dat.kept (hx i hi) (Below.fr hb) fun _ _ _ h => h⟩
theorem TR.rl (h : TR w B e v l) : RL w (fun k => B ≤ k) v l := by
  obtain ⟨xs, hr, hx⟩ := h
  exact (RowE.rl (.inr hr) hx).more fun k _ h => h.elim (fun h => h.1) id
theorem TR.lt (h : TR w B e v l) : ∀ j, some j = v.ownBlock → j < w.heap.size := fun j hj => by
  obtain ⟨xs, hr, _⟩ := h; exact (own_lt hr hj).2
theorem TR.nil (w : World) (B : Nat) (e : TypeId) : TR w B e (.slice none 0 0) ([] : List α) := ⟨[], World.ownsRow_nil _ _ _ _, fun i hi => absurd hi (by simp)⟩
theorem TR.of (h : w.ownsRow B e (Dat.sz α) v 0 []) : TR w B e v ([] : List α) := ⟨[], h, fun i hi => absurd hi (by simp)⟩
theorem TR.app (hr0 : w.ownsRow B e (Dat.sz α) v l.length xs) (hx : ∀ i, i < l.length → Dat.rd w (fun k => B ≤ k ∧ ¬ some k = v.ownBlock) (gd l i) (nth (Dat.sz α) xs i)) (hf : Fr (fun k => some k = v.ownBlock) w w')
    (hr : w'.ownsRow B e (Dat.sz α) v' (l.length + m.length) (xs ++ ys)) (hlie : v'.ownBlock = v.ownBlock ∨ v'.ownBlock = some w.heap.size)
    (hy : ∀ i, i < m.length → Dat.rd w (fun k => B ≤ k ∧ ¬ some k = v.ownBlock) (gd m i) (nth (Dat.sz α) ys i)) : TR w' B e v' (l ++ m) := by
  have conv : ∀ {a : α} {cs : List Value}, Dat.rd w (fun k => B ≤ k ∧ ¬ some k = v.ownBlock) a cs → Dat.rd w' (fun k => B ≤ k ∧ ¬ some k = v'.ownBlock) a cs := fun h =>
    Dat.more (Dat.kept (Dat.more (S' := fun k => (B ≤ k ∧ ¬ some k = v.ownBlock) ∧ k < w.heap.size) h fun k hk hs => ⟨hs, hk⟩) hf fun k _ hs => hs.1.2) fun k _ hs => ⟨hs.1.1, fun he => by
      rcases hlie with h | h
      · exact hs.1.2 (he.trans h)
      · rw [h] at he
        injection he with he
        have := hs.2
        omega⟩
  refine ⟨xs ++ ys, by rw [List.length_append]; exact hr, fun i hi => ?_⟩
  rw [List.length_append] at hi
  by_cases hlt : i < l.length
  · rw [gd_app1 hlt, nth_app1 hr0.1 hlt]; exact conv (hx i hlt)
  · obtain ⟨j, rfl⟩ : ∃ j, i = l.length + j := ⟨i - l.length, by omega⟩
    rw [gd_app2 (by omega), nth_app3 hr0.1, Nat.add_sub_cancel_left]
    exact conv (hy j (by omega))
end
theorem own_emp (w : World) (B e sz : Nat) (hB : B ≤ w.heap.size) : (w.alloc (.cells #[] e)).ownsRow B e sz (.slice (some ⟨w.heap.size, 0, none⟩) 0 0) 0 [] :=
  ⟨by simp, .inr ⟨w.heap.size, 0, #[], rfl, hB, heap_alloc_new w _, Nat.le_refl _, Nat.zero_le _, by simp, by simp⟩⟩
/-- The asserted bounds of one assertion. -/
def asSz (a : Asn) : Prop := a.1.length ≤ 1048576 ∧ a.2.length ≤ 1048576
set_option maxRecDepth 100000 in
set_option maxHeartbeats 800000 in
theorem l3Copy_any {S1 S2 : Nat → Prop} (v1 v2 : Value) (a : Asn) (w : World) (h1 : RL w S1 v1 a.1) (h2 : RL w S2 v2 a.2) (hs : asSz a) :
    Calls Try.prog 122 #[.agg #[v1, v2]] w fun e w' => ∃ x1 x2, e = .returned (.agg #[x1, x2]) ∧ RL w' (fun k => w.heap.size ≤ k) x1 a.1 ∧ RL w' (fun k => w.heap.size ≤ k) x2 a.2 ∧ Below w.heap.size w w' := by
  obtain ⟨p1, c1, rfl⟩ := h1.form
  obtain ⟨p2, c2, rfl⟩ := h2.form
  have HS := Lib.hid hs
  clear hs
  go_enter Try.func122, Try.ntmps122
  go_wp2_with fail
  refine (l3Star_any _ _ _ _ a ([], []) _ ((h1.alloc _).alloc _) ((h2.alloc _).alloc _) (RL.nil _ (fun _ => True)) (RL.nil _ (fun _ => True)) HS.out.1 HS.out.2 (by decide) (by decide)).mono ?_
  rintro e w1 ⟨x1, x2, rfl, r1, r2, hb⟩
  simp only [List.append_nil] at r1 r2
  obtain ⟨d1, m1, k1, rfl⟩ := r1.forms
  obtain ⟨d2, m2, k2, rfl⟩ := r2.forms
  have hA := box_keep (heap_alloc_new (w.alloc (.cells #[.slice p1 a.1.length c1, .slice p2 a.2.length c2] 33)) (.cells #[.slice none 0 0, .slice none 0 0] 33)) hb
  rw [World.size_alloc] at hA
  have ha0 := box0 hA
  have ha1 := box1 hA
  have haz : ∀ i, w1.frozen? ⟨w.heap.size + 1, i, none⟩ = false := boxz hA
  have hlA := box_lt hA
  have r := box_two (.slice d1 m1 k1) (.slice d2 m2 k2) ha0 ha1
  have f1 := ((r1.setB (p := ⟨w.heap.size + 1, 0, none⟩) (u := .slice d1 m1 k1) (fun k h e => by simp at h e; omega)).setB (p := ⟨w.heap.size + 1, 1, none⟩) (u := .slice d2 m2 k2) (fun k h e => by simp at h e; omega)).more (S' := fun k => w.heap.size ≤ k) fun k _ h => by simp at h; omega
  have f2 := ((r2.setB (p := ⟨w.heap.size + 1, 0, none⟩) (u := .slice d1 m1 k1) (fun k h e => by simp at h e; omega)).setB (p := ⟨w.heap.size + 1, 1, none⟩) (u := .slice d2 m2 k2) (fun k h e => by simp at h e; omega)).more (S' := fun k => w.heap.size ≤ k) fun k _ h => by simp at h; omega
  have fb := ((bt (ba (below_alloc w _) _) hb).setCell (p := ⟨w.heap.size + 1, 0, none⟩) (by simp) (.slice d1 m1 k1)).setCell (p := ⟨w.heap.size + 1, 1, none⟩) (by simp) (.slice d2 m2 k2)
  have HO := Lib.hid (And.intro f1 (And.intro f2 fb))
  clear f1 f2 fb r1 r2 hb hA
  go_wp2
  refine bodyPost_ret (v := .agg #[.slice d1 m1 k1, .slice d2 m2 k2]) (by simp [results, Try.results122, go_sem, r.1, r.2]) rfl ?_
  exact ⟨_, _, rfl, HO.out.1, HO.out.2.1, HO.out.2.2⟩
set_option maxRecDepth 100000 in
set_option maxHeartbeats 1600000 in
theorem l13Copy_any {S : Nat → Prop} (v : Value) (l : List Asn) (w : World) (h : RL w S v l) (hsz : fmSz l) (hn : l.length ≤ 1048576) :
    Calls Try.prog 137 #[v] w fun e w' => ∃ v', e = .returned v' ∧ TR w' w.heap.size 33 v' l ∧ Below w.heap.size w w' := by
  obtain ⟨a, c, rfl, _, _, hf⟩ := h.asnAt
  have F1 := Lib.hid hf
  have HSZ := Lib.hid hsz
  clear hf h hsz
  go_enter Try.func137, Try.ntmps137
  go_wp2
  go_loopg [3, 4] l.length (fun q x i wr => ∃ k : Nat, k + q = l.length ∧ i = .int .i64 k ∧ TR wr w.heap.size 33 x (l.take k) ∧ Below w.heap.size w wr)
  case atStart => exact ⟨0, by omega, rfl, TR.of (own_emp w _ _ _ (Nat.le_refl _)), below_alloc _ _⟩
  case round =>
    obtain ⟨k, hk, rfl, hT, hb⟩ := hrel
    have HK := Lib.hid hk
    clear hk
    by_cases hk8 : k < l.length
    · obtain ⟨b1, o1, u1, u2, rfl, _, hbl1, hp1, hp2, r1, r2⟩ := F1.out k hk8
      obtain ⟨ua1, uc1, rfl⟩ := r1.form
      obtain ⟨ua2, uc2, rfl⟩ := r2.form
      replace hp1 := cell_keep hb hp1
      replace hp2 := cell_keep hb hp2
      have hki : (k : Int) < (l.length : Int) := by omega
      have hs := hb.size
      have hzb : b1 < wr.heap.size := by omega
      have hse := HSZ.out _ (gd_mem hk8)
      have htk := take_gd hk8
      have HTK := Lib.hid htk
      have hlk : (l.take k).length ≤ k := by rw [List.length_take]; omega
      have HT := Lib.hid hT
      have hvl := hT.lt
      clear hT htk
      go_wp2_with fail
      refine (l3Copy_any _ _ (gd l k) _ (r1.keep hb) (r2.keep hb) hse).mono ?_
      rintro e w5 ⟨z1, z2, rfl, q1, q2, hb5⟩
      obtain ⟨za1, zn1, zc1, rfl⟩ := q1.forms
      obtain ⟨za2, zn2, zc2, rfl⟩ := q2.forms
      have hbw := bt hb hb5
      obtain ⟨xs, hr, hx⟩ := (HT.out.keep hb5).keep (below_alloc w5 (.cells #[.slice za1 zn1 zc1, .slice za2 zn2 zc2] 33))
      have hzz := hbw.size
      have HQ := Lib.hid (And.intro (And.intro q1 q2) hx)
      clear q1 q2 hx
      go_wp2_with (at_builtin; refine app_cells (n := (l.take k).length) (m := 1) (news := [.slice za1 zn1 zc1, .slice za2 zn2 zc2]) rfl (.tmp 12) (.tmp 18) _ rfl (B := w.heap.size) ti_asn rfl hr rfl rfl (news2 _ _ _ _) (one2 _ _ _ _ _ _) (by omega) (by simp; omega) ?_; intro v' w7 hr7 hf7 hl7)
      have hbb := below_own hr hf7 (ba hbw _) (by simp; omega)
      have hTn := TR.app (m := [gd l k]) hr HQ.out.2 hf7 hr7 hl7 (fun i hi => by
        obtain rfl : i = 0 := by simpa using hi
        refine rd_asn_mk ((HQ.out.1.1.alloc _).more fun j _ hj => ⟨by omega, fun he => ?_⟩) ((HQ.out.1.2.alloc _).more fun j _ hj => ⟨by omega, fun he => ?_⟩)
        · have := hvl j he; omega
        · have := hvl j he; omega)
      rw [← HTK.out] at hTn
      have HTN := Lib.hid hTn
      clear hTn hr7 hf7 hl7 hr
      go_wp2
      go_roundg (gk - 1)
      case rel => exact ⟨k + 1, by have := HK.out; omega, by go_num, HTN.out, hbb⟩
      case measure => have := HK.out; omega
    · obtain rfl : k = l.length := by have := HK.out; omega
      rw [List.take_length] at hT
      go_wp2
      go_ret
      exact ⟨_, rfl, hT, hb⟩
end Go.Proofs.Ytapoillhgimdiaa
/- Walks: families joined, in the program and in the reference. -/
namespace Go.Proofs.Ytapoillhgimdiaa
open Go.RowKit

theorem fam_len {l : List Asn} (h : famB l = true) : l.length ≤ 12 := by
  simp only [famB, Bool.and_eq_true, decide_eq_true_eq] at h; exact h.1

end Go.Proofs.Ytapoillhgimdiaa
