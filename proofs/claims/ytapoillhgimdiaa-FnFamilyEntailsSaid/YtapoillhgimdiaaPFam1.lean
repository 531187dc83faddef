/- Fam1: texts Jn1, Jn2, Jn3 in one. -/
import Derived.Test.YtapoillhgimdiaaPData3
import Derived.Test.YtapoillhgimdiaaPData2
import Derived.Deep.RegionHeld3
/- Walks: lists joined; copies of assertions, of the program. -/
namespace Go.Proofs.Ytapoillhgimdiaa
open Go.RowKit

set_option maxRecDepth 100000 in
set_option maxHeartbeats 800000 in
theorem joinFacts_any {S1 S2 : Nat → Prop} (v1 v2 : Value) (l1 l2 : List Fact) (w : World) (h1 : RL w S1 v1 l1) (h2 : RL w S2 v2 l2) (hn : l1.length + l2.length ≤ 16777216) :
    Calls Try.prog 198 #[v1, v2] w fun e w' => ∃ v, e = .returned v ∧ OO w' w.heap.size v (l1 ++ l2) ∧ Below w.heap.size w w' := by
  obtain ⟨a1, c1, rfl⟩ := h1.form
  obtain ⟨a2, c2, rfl⟩ := h2.form
  obtain ⟨i0, hi, hz0, hz1, hz2⟩ := info_parts info_fact
  go_enter Try.func198, Try.ntmps198
  go_wp2_with (first
    | (at_make; refine wpList_make_own _ rfl _ _ 30 rfl w.heap.size 83 i0 (.agg #[.bool false, .int .i64 0, .int .i64 0]) 3 Try.underlying30 hi hz0 hz1 _ _ _ (l1.length + l2.length) rfl rfl (by omega) (by rw [hz2]; omega) (by unfold maxLen; omega) (Nat.le_refl _) ?_; intro w1 hown hgr; have hb1 := (grown_fr hgr).below (B := w.heap.size) (Nat.le_refl _) (by intro k _ e; cases e))
    | (at_builtin; refine app_rl (l := l1) (n := 0) rfl (.tmp 12) (.tmp 13) _ rfl (B := w.heap.size) ti_fact rfl hown rfl (h1.keep hb1) (by omega) hb1.size ?_; intro v2 w2 n1 p1 q1 r1 f1 _; have hb2 := below_own hown f1 hb1 hb1.size; obtain ⟨xs, px, rx⟩ := flat_parts (flat_mk (l := l1) (app_first p1) r1))
    | (at_builtin; refine app_rl (l := l2) (n := l1.length) rfl (.tmp 14) (.tmp 15) _ rfl (B := w.heap.size) ti_fact rfl px rfl (h2.keep hb2) (by omega) hb2.size ?_; intro v3 w3 n2 p2 q2 r2 f2 _))
  have hb3 := below_own px f2 hb2 hb2.size
  have o3 := flat_app p2 px.1 rx r2
  go_ret
  exact ⟨_, rfl, ⟨_, o3, nodup_own v3⟩, hb3⟩
set_option maxRecDepth 100000 in
set_option maxHeartbeats 800000 in
theorem joinAtoms_any {S1 S2 : Nat → Prop} (v1 v2 : Value) (l1 l2 : List Atom) (w : World) (h1 : RL w S1 v1 l1) (h2 : RL w S2 v2 l2) (hn : l1.length + l2.length ≤ 16777216) :
    Calls Try.prog 199 #[v1, v2] w fun e w' => ∃ v, e = .returned v ∧ OO w' w.heap.size v (l1 ++ l2) ∧ Below w.heap.size w w' := by
  obtain ⟨a1, c1, rfl⟩ := h1.form
  obtain ⟨a2, c2, rfl⟩ := h2.form
  obtain ⟨i0, hi, hz0, hz1, hz2⟩ := info_parts info_atom
  go_enter Try.func199, Try.ntmps199
  go_wp2_with (first
    | (at_make; refine wpList_make_own _ rfl _ _ 31 rfl w.heap.size 130 i0 (.agg #[.int .i64 0, .int .i64 0, .int .i64 0]) 3 Try.underlying31 hi hz0 hz1 _ _ _ (l1.length + l2.length) rfl rfl (by omega) (by rw [hz2]; omega) (by unfold maxLen; omega) (Nat.le_refl _) ?_; intro w1 hown hgr; have hb1 := (grown_fr hgr).below (B := w.heap.size) (Nat.le_refl _) (by intro k _ e; cases e))
    | (at_builtin; refine app_rl (l := l1) (n := 0) rfl (.tmp 12) (.tmp 13) _ rfl (B := w.heap.size) ti_atom rfl hown rfl (h1.keep hb1) (by omega) hb1.size ?_; intro v2 w2 n1 p1 q1 r1 f1 _; have hb2 := below_own hown f1 hb1 hb1.size; obtain ⟨xs, px, rx⟩ := flat_parts (flat_mk (l := l1) (app_first p1) r1))
    | (at_builtin; refine app_rl (l := l2) (n := l1.length) rfl (.tmp 14) (.tmp 15) _ rfl (B := w.heap.size) ti_atom rfl px rfl (h2.keep hb2) (by omega) hb2.size ?_; intro v3 w3 n2 p2 q2 r2 f2 _))
  have hb3 := below_own px f2 hb2 hb2.size
  have o3 := flat_app p2 px.1 rx r2
  go_ret
  exact ⟨_, rfl, ⟨_, o3, nodup_own v3⟩, hb3⟩
end Go.Proofs.Ytapoillhgimdiaa
/- Walks: copies of assertions, of the program. -/
namespace Go.Proofs.Ytapoillhgimdiaa
open Go.RowKit

section
variable {α β : Type} [Own α] [Tid α] [Own β] [Tid β] {w w' w'' : World} {B B1 B2 : Nat} {v1 v2 : Value} {l1 : List α} {l2 : List β} {f1 f2 : List Nat} {a : List α × List β}
theorem OA.join (o1 : OL w B1 v1 l1 f1) (n1 : f1.Nodup) (o2 : OL w' B2 v2 l2 f2) (n2 : f2.Nodup) (hb : Below w.heap.size w w') (h2 : w.heap.size ≤ B2) (hB1 : B ≤ B1) (hB2 : B ≤ B2) : OA w' B v1 v2 (l1, l2) :=
  ⟨f1, f2, (o1.keep hb).mono hB1, o2.mono hB2, List.nodup_append.2 ⟨n1, n2, fun x hx y hy e => by
    have q1 := (o1.lt x hx).2
    have q2 := (o2.lt y hy).1
    omega⟩⟩
theorem OA.setB (h : OA w B v1 v2 a) {p : Addr} {u : Value} (hp : p.block < B) : OA (w.setCell p u) B v1 v2 a :=
  h.kept (fr_set _ _ _) fun k h1 _ e => by omega
/-- The two cells of a result are written. -/
theorem OA.res (h : OA w' B v1 v2 a) {R : Nat} (hR : R < B) (hB : w.heap.size ≤ R) (hb : Below w.heap.size w w') (x y : Value) :
    OA ((w'.setCell ⟨R, 0, none⟩ x).setCell ⟨R, 1, none⟩ y) w.heap.size v1 v2 a ∧ Below w.heap.size w ((w'.setCell ⟨R, 0, none⟩ x).setCell ⟨R, 1, none⟩ y) :=
  ⟨((h.setB hR).setB hR).mono (by omega), (hb.setCell hB _).setCell hB _⟩
end

set_option maxRecDepth 100000 in
set_option maxHeartbeats 1600000 in
theorem copyAssertion_any {S1 S2 : Nat → Prop} (v1 v2 : Value) (a : Asn) (w : World) (h1 : RL w S1 v1 a.1) (h2 : RL w S2 v2 a.2) (hn : a.1.length ≤ 1048576) (hm : a.2.length ≤ 1048576) :
    Calls Try.prog 121 #[.agg #[v1, v2]] w fun e w' => ∃ u1 u2, e = .returned (.agg #[u1, u2]) ∧ OA w' w.heap.size u1 u2 a ∧ Below w.heap.size w w' := by
  obtain ⟨a1, a2⟩ := a
  simp only at h1 h2 hn hm
  obtain ⟨b1, c1, rfl⟩ := h1.form
  obtain ⟨b2, c2, rfl⟩ := h2.form
  go_enter Try.func121, Try.ntmps121
  go_wp2
  have hc0 : ((w.alloc (.cells #[.slice b1 a1.length c1, .slice b2 a2.length c2] 33)).alloc (.cells #[.slice none 0 0, .slice none 0 0] 33)).cell? ⟨w.heap.size, 0, none⟩ = some (.slice b1 a1.length c1) := by simp [go_sem]
  have hc1 : ((w.alloc (.cells #[.slice b1 a1.length c1, .slice b2 a2.length c2] 33)).alloc (.cells #[.slice none 0 0, .slice none 0 0] 33)).cell? ⟨w.heap.size, 1, none⟩ = some (.slice b2 a2.length c2) := by simp [go_sem]
  have hA := heap_alloc_new (w.alloc (.cells #[.slice b1 a1.length c1, .slice b2 a2.length c2] 33)) (.cells #[.slice none 0 0, .slice none 0 0] 33)
  have hW : Below w.heap.size w ((w.alloc (.cells #[.slice b1 a1.length c1, .slice b2 a2.length c2] 33)).alloc (.cells #[.slice none 0 0, .slice none 0 0] 33)) := ba (below_alloc _ _) _
  have hz : ((w.alloc (.cells #[.slice b1 a1.length c1, .slice b2 a2.length c2] 33)).alloc (.cells #[.slice none 0 0, .slice none 0 0] 33)).heap.size = w.heap.size + 2 := by simp
  rw [World.size_alloc] at hA
  generalize (w.alloc (.cells #[.slice b1 a1.length c1, .slice b2 a2.length c2] 33)).alloc (.cells #[.slice none 0 0, .slice none 0 0] 33) = w0 at *
  have HA := Lib.hid hA
  have HZ := Lib.hid hz
  clear hA hz
  go_region_held3 (fun w' => w'.cell? ⟨w.heap.size, 0, none⟩ = some (.slice b1 a1.length c1) ∧ w'.cell? ⟨w.heap.size, 1, none⟩ = some (.slice b2 a2.length c2))
    (exact ⟨(by repeat (first | with_reducible exact hc0 | (with_reducible refine (fr_set _ _ _).cell (by first | (simp; done) | (simp; omega) | omega) ?_) | exact cell_keep Bl hc0)), (by repeat (first | with_reducible exact hc1 | (with_reducible refine (fr_set _ _ _).cell (by first | (simp; done) | (simp; omega) | omega) ?_) | exact cell_keep Bl hc1))⟩)
    (first
      | (go_at_call 198; go_must (refine (joinFacts_any _ _ a1 [] _ (h1.keep (bt hW Bl)) (RL.nil _ (fun _ => True)) (by simp; omega)).mono ?_; rintro e w5 ⟨x1, rfl, ⟨f1, o1, n1⟩, hb5'⟩; rw [List.append_nil] at o1; obtain ⟨d1, k1, rfl⟩ := o1.read.form; have hb5 : Below w0.heap.size w0 w5 := bt Bl hb5'; have hz5 := hb5.size))
      | (go_at_call 199; go_must (refine (joinAtoms_any _ _ a2 [] _ (h2.keep (bt hW Bl)) (RL.nil _ (fun _ => True)) (by simp; omega)).mono ?_; rintro e w6 ⟨y1, rfl, ⟨f2, o2, n2⟩, hb6'⟩; rw [List.append_nil] at o2; obtain ⟨d2, k2, rfl⟩ := o2.read.form; have hb6 : Below w0.heap.size w0 w6 := bt Bl hb6'; have hA6 := box_keep HA.out hb6; have ha0 := box0 hA6; have ha1 := box1 hA6; have haz : ∀ i, w6.frozen? ⟨w.heap.size + 1, i, none⟩ = false := boxz hA6; have hlA := box_lt hA6; clear hA6)))
  all_goals
    have hz0 := HZ.out
    have hz5 := hb5.size
    have hz5' := hb5'.size
    have HO := Lib.hid ((OA.join o1 n1 o2 n2 Bl (by first | exact Nat.le_refl _ | exact hb6'.size) (B := w.heap.size + 2) (by first | (simp; omega) | omega) (by first | (simp; omega) | omega)).res (R := w.heap.size + 1) (by omega) (by omega) (bt hW hb6) (.slice d1 a1.length k1) (.slice d2 a2.length k2))
    have r := box_two (.slice d1 a1.length k1) (.slice d2 a2.length k2) ha0 ha1
    clear o1 n1 o2 n2 hb5 hb5' hb6 hb6'
    go_wp2
    refine bodyPost_ret (v := .agg #[.slice d1 a1.length k1, .slice d2 a2.length k2]) (by simp [results, Try.results121, go_sem, r.1, r.2]) rfl ?_
    exact ⟨_, _, rfl, HO.out.1, HO.out.2⟩
end Go.Proofs.Ytapoillhgimdiaa
/- Walks: copies of families, of the program; families joined. -/
namespace Go.Proofs.Ytapoillhgimdiaa
open Go.RowKit

/-- The cells of a new block of two. -/
theorem news2 (w : World) (x y : Value) (e : TypeId) : 0 < 1 → ∃ b o, some (⟨w.heap.size, 0, none⟩ : Addr) = some ⟨b, o, none⟩ ∧ ∀ j u, [x, y][j]? = some u → (w.alloc (.cells #[x, y] e)).cell? ⟨b, o + j, none⟩ = some u := fun _ =>
  ⟨w.heap.size, 0, rfl, fun j u hj => by
    match j, hj with
    | 0, hj => simp at hj; subst hj; simp
    | 1, hj => simp at hj; subst hj; simp⟩
theorem one2 (a1 a2 : Option Addr) (n1 c1 n2 c2 : Nat) : ∀ u ∈ [Value.slice a1 n1 c1, Value.slice a2 n2 c2], u.oneCell' = true := fun u hu => by
  simp at hu
  rcases hu with rfl | rfl <;> rfl
def fmSz (l : List Asn) : Prop := ∀ a ∈ l, a.1.length ≤ 1048576 ∧ a.2.length ≤ 1048576
theorem fmSz_of {l : List Asn} (h : famB l = true) : fmSz l := fun a ha => by
  simp only [famB, Bool.and_eq_true, List.all_eq_true] at h
  have := h.2 a ha
  simp only [asnB, factsB, Bool.and_eq_true, decide_eq_true_eq] at this
  omega
theorem info_asn : (Try.prog.info? 33).map (fun i => (i.zero, i.size, i.bytes)) = some (some (.agg #[.slice none 0 0, .slice none 0 0]), 2, 48) := by kernel_rfl
theorem ti_asn : TI 62 33 2 := ti_mk Try.underlying62 info_asn (by decide) rfl (by decide)
set_option maxRecDepth 100000 in
set_option maxHeartbeats 1600000 in
theorem copyAssertions_any {S : Nat → Prop} (v : Value) (l : List Asn) (w : World) (h : RL w S v l) (hsz : fmSz l) (hn : l.length ≤ 1048576) :
    Calls Try.prog 133 #[v] w fun e w' => ∃ v', e = .returned v' ∧ OO w' w.heap.size v' l ∧ Below w.heap.size w w' := by
  obtain ⟨a, c, rfl, _, _, hf⟩ := h.asnAt
  have F1 := Lib.hid hf
  have HSZ := Lib.hid hsz
  clear hf h hsz
  obtain ⟨i0, hi, hz0, hz1, hz2⟩ := info_parts info_asn
  go_enter Try.func133, Try.ntmps133
  go_wp2_with (at_make; refine wpList_make_own _ rfl _ _ 62 rfl w.heap.size 33 i0 (.agg #[.slice none 0 0, .slice none 0 0]) 2 Try.underlying62 hi hz0 hz1 _ _ _ l.length rfl rfl rfl (by rw [hz2]; omega) (by unfold maxLen; omega) (Nat.le_refl _) ?_; intro w1 hown hgr)
  have hb1 := (grown_fr hgr).below (B := w.heap.size) (Nat.le_refl _) (by intro k _ e; cases e)
  have hP : PL w1 w.heap.size (.slice (some ⟨w.heap.size, 0, none⟩) 0 l.length) (l.take 0).length (l.take 0) (l.take 0).length := PL.zero (α := Asn) hown _
  clear hown hi hz0 hz1 hz2 hgr
  go_loopg [3, 11] l.length (fun q x i wr => ∃ k : Nat, k + q = l.length ∧ i = .int .i64 k ∧ PL wr w.heap.size x (l.take k).length (l.take k) (l.take k).length ∧ Below w.heap.size w wr)
  case atStart => exact ⟨0, by omega, rfl, hP, hb1⟩
  case round =>
    clear hb1 hP
    obtain ⟨k, hk, rfl, hP, hb⟩ := hrel
    have HK := Lib.hid hk
    clear hk
    by_cases hk8 : k < l.length
    · obtain ⟨b1, o1, u1, u2, rfl, _, hbl1, hp1, hp2, r1, r2⟩ := F1.out k hk8
      obtain ⟨ua1, uc1, rfl⟩ := r1.form
      obtain ⟨ua2, uc2, rfl⟩ := r2.form
      replace hp1 := cell_keep hb hp1
      replace hp2 := cell_keep hb hp2
      have hki : (k : Int) < (l.length : Int) := by omega
      have hs := hb.size
      have hzb : b1 < wr.heap.size := by omega
      have hse := HSZ.out _ (gd_mem hk8)
      have htk := take_gd hk8
      have HTK := Lib.hid htk
      have hlk : (l.take k).length ≤ k := by rw [List.length_take]; omega
      obtain ⟨xs, fps, hr, hfl, hnd, ho⟩ := hP
      have HP := Lib.hid (And.intro hr (And.intro hfl (And.intro hnd ho)))
      clear hr hfl hnd ho htk
      go_wp2_with fail
      refine (copyAssertion_any _ _ (gd l k) _ ((r1.keep hb).alloc _) ((r2.keep hb).alloc _) hse.1 hse.2).mono ?_
      rintro e w5 ⟨z1, z2, rfl, ⟨f1, f2, q1, q2, qn⟩, hb5⟩
      obtain ⟨za1, zc1, rfl⟩ := q1.read.form
      obtain ⟨za2, zc2, rfl⟩ := q2.read.form
      have hb5' := bt (below_alloc _ _) hb5
      have hbw := bt hb hb5'
      have hzz := hbw.size
      have ho2 : Own.own w5 (wr.heap.size) (gd l k) [.slice za1 (gd l k).1.length zc1, .slice za2 (gd l k).2.length zc2] (f1 ++ f2) := ⟨[_], [_], f1, f2, rfl, rfl, ⟨_, rfl, q1.mono (by simp)⟩, ⟨_, rfl, q2.mono (by simp)⟩⟩
      have hown5 := own_keep (own_keep HP.out.1 hb5') (below_alloc w5 (.cells #[.slice za1 (gd l k).1.length zc1, .slice za2 (gd l k).2.length zc2] 33))
      have HO2 := Lib.hid (And.intro ho2 (And.intro qn hb5'))
      clear ho2 qn q1 q2 hb5 hb5'
      go_wp2_with (at_builtin; refine app_cells (n := (l.take k).length) (m := 1) (news := [.slice za1 (gd l k).1.length zc1, .slice za2 (gd l k).2.length zc2]) rfl (.tmp 15) (.tmp 18) _ rfl (B := w.heap.size) ti_asn rfl hown5 rfl rfl (news2 _ _ _ _) (one2 _ _ _ _ _ _) (by omega) (by simp; omega) ?_; intro v' w7 hr7 hf7 hl7)
      have hbb := below_own hown5 hf7 (ba hbw _) (by simp; omega)
      have hPn := PL.app (m := [gd l k]) (fps2 := [f1 ++ f2]) HP.out.1 HP.out.2.1 HP.out.2.2.1 HP.out.2.2.2 (ba HO2.out.2.2 _) (fun i hi => by
        obtain rfl : i = 0 := by simpa using hi
        exact Own.okept HO2.out.1 (Below.fr (below_alloc _ _)) fun _ _ h => h) rfl (by simpa using HO2.out.2.1) hs hf7 hr7 hl7
      rw [← HTK.out] at hPn
      have HPN := Lib.hid hPn
      clear hPn hr7 hf7 hl7 hown5
      go_wp2
      go_roundg (gk - 1)
      case rel => exact ⟨k + 1, by have := HK.out; omega, by go_num, HPN.out, hbb⟩
      case measure => have := HK.out; omega
    · obtain rfl : k = l.length := by have := HK.out; omega
      rw [List.take_length] at hP
      go_wp2
      go_ret
      exact ⟨_, rfl, hP.done, hb⟩
end Go.Proofs.Ytapoillhgimdiaa
