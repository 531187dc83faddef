/- The walk of the law FnListedAssertion. -/
import Derived.Test.YthoingdcmdhllaaChains
import Derived.Test.YthoingdcmdhllaaFam3
import Derived.Test.YthoingdcmdhllaaSam
import Derived.Test.YthoingdcmdhllaaList2
import Derived.Test.YthoingdcmdhllaaItrB
namespace Go.Proofs.Ythoingdcmdhllaa
open Go.RowKit

theorem listK_ent {a : Asn} (ha : asnB a = true) : ∀ k, entB a (a.1, listK a k) = true
  | 0 => ent_refl ha
  | k + 1 => by
    rw [listK]; split
    · assumption
    · exact listK_ent ha k
/-- An assertion entails its listed form, which is valid; and the listed form of that. -/
theorem list_ent {a : Asn} (ha : asnB a = true) : entB a (listA a) = true ∧ asnB (listA a) = true ∧ entB a (listA (listA a)) = true ∧ (listA a).2.length = a.2.length := by
  have h1 : ∀ {b : Asn}, asnB b = true → entB b (listA b) = true := fun {b} hb => by rw [listA, if_pos hb]; exact listK_ent hb _
  have h2 := (ent_valid (h1 ha)).2
  exact ⟨h1 ha, h2, ent_trans (h1 ha) (h1 h2), by rw [listA, if_pos ha]; exact listK_len a _⟩
set_option maxRecDepth 100000 in
set_option maxHeartbeats 3200000 in
theorem specDrawFoldCells_any (v : Value) (n : Nat) (w : World) (h : RBytes w v n) :
    Calls Try.prog 106 #[v] w fun e w' => ∃ (u1 u2 : Value) (a : Asn), e = .returned (.agg #[u1, u2]) ∧ (a.1.length ≤ 15 ∧ a.2.length ≤ 11) ∧ RL w' (fun k => w.heap.size + 1 ≤ k) u1 a.1 ∧ RL w' (fun k => w.heap.size + 1 ≤ k) u2 a.2 ∧ Below w.heap.size w w' := by
  go_enter Try.func106, Try.ntmps106
  go_wp2_with fail
  refine (l18Open_any v n _ (h.keep (below_alloc _ _))).mono ?_
  rintro e w1 ⟨rfl, hr1, hb1⟩
  have hA := box_keep (heap_alloc_new w (.cells #[.slice none 0 0, .slice none 0 0] 34)) hb1
  simp only [World.size_alloc] at hr1 ⊢
  obtain ⟨g, hg⟩ : ∃ g, g = w.heap.size + 1 := ⟨_, rfl⟩
  have hF1 : Fr (fun k => k = g) w w1 := (Below.fr (bt (below_alloc w _) hb1)).mono fun _ _ h => h.elim
  rw [← hg] at hr1 ⊢
  have hgA : ¬ w.heap.size = g := by omega
  have hgw : w.heap.size + 1 ≤ g := by omega
  have hg1 := hr1.lt
  clear hb1 hg h
  go_wp2_with fail
  refine (l6Chains_any g 0 _ hr1 (by omega)).mono ?_
  rintro e w2 ⟨v1, v2, a, rfl, hva, hla, o1, o2, hr2, hf2⟩
  obtain ⟨a1, c1, rfl⟩ := o1.form
  obtain ⟨a2, c2, rfl⟩ := o2.form
  have HO := Lib.hid (And.intro o1 (And.intro o2 (And.intro (asn_sz hva) hla)))
  replace hA := box_kept hA hf2 hgA
  replace hF1 := hF1.trans hf2
  have hz2 := hf2.size
  clear hva o1 o2 hla hr1 hf2
  go_wp2_with fail
  refine (l3Mutate_any g _ _ _ a _ hr2 (by omega) HO.out.1.rl HO.out.2.1.rl HO.out.2.2.1).mono ?_
  rintro e w3 ⟨x1, x2, b, rfl, hbl, p1, p2, hr3, hf3⟩
  obtain ⟨a3, c3, rfl⟩ := p1.form
  obtain ⟨a4, c4, rfl⟩ := p2.form
  replace hA := box_kept hA hf3 hgA
  replace hF1 := hF1.trans hf3
  have q1 := p1.rl.more (S' := fun k => w.heap.size + 1 ≤ k) fun k _ hk => by have : w2.heap.size ≤ k := hk; omega
  have q2 := p2.rl.more (S' := fun k => w.heap.size + 1 ≤ k) fun k _ hk => by have : w2.heap.size ≤ k := hk; omega
  have A0 := box0 hA
  have A1 := box1 hA
  have Az := boxz hA
  have Al := box_lt hA
  have HQ := Lib.hid (And.intro (show b.1.length ≤ 15 ∧ b.2.length ≤ 11 by have := HO.out.2.2.2; omega) (And.intro (q1.put2 (R := w.heap.size) (by omega) (.slice a3 b.1.length c3) (.slice a4 b.2.length c4)) (And.intro (q2.put2 (R := w.heap.size) (by omega) (.slice a3 b.1.length c3) (.slice a4 b.2.length c4)) (((hF1.below (Nat.le_refl _) fun k hk e => by omega).setCell (p := ⟨w.heap.size, 0, none⟩) (by simp) (.slice a3 b.1.length c3)).setCell (p := ⟨w.heap.size, 1, none⟩) (by simp) (.slice a4 b.2.length c4)))))
  have r := box_two (.slice a3 b.1.length c3) (.slice a4 b.2.length c4) A0 A1
  clear HO hbl p1 p2 q1 q2 hr2 hr3 hf3 hF1 hA
  go_wp2
  refine bodyPost_ret (v := .agg #[.slice a3 b.1.length c3, .slice a4 b.2.length c4]) (by simp [results, Try.results106, go_sem, r.1, r.2]) rfl ?_
  exact ⟨_, _, b, rfl, HQ.out.1, HQ.out.2.1, HQ.out.2.2.1, HQ.out.2.2.2⟩
set_option maxRecDepth 100000 in
set_option maxHeartbeats 3200000 in
theorem specDrawListed_any (v : Value) (n : Nat) (w : World) (h : RBytes w v n) :
    Calls Try.prog 37 #[v] w fun e w' => ∃ (u1 u2 : Value) (a : Asn), e = .returned (.agg #[u1, u2]) ∧ (a.1.length ≤ 15 ∧ a.2.length ≤ 11) ∧ RL w' (fun _ => True) u1 a.1 ∧ RL w' (fun _ => True) u2 a.2 ∧ Below w.heap.size w w' := by
  go_enter Try.func37, Try.ntmps37
  go_wp2_with fail
  refine (specDrawFoldCells_any v n _ (h.keep (below_alloc _ _))).mono ?_
  rintro e w1 ⟨u1, u2, a, rfl, hl, r1, r2, hb⟩
  have hA := box_keep (heap_alloc_new w (.cells #[.slice none 0 0, .slice none 0 0] 34)) hb
  simp only [World.size_alloc] at r1 r2
  obtain ⟨a1, c1, rfl⟩ := r1.form
  obtain ⟨a2, c2, rfl⟩ := r2.form
  have A0 := box0 hA
  have A1 := box1 hA
  have Az := boxz hA
  have Al := box_lt hA
  have HQ := Lib.hid (And.intro hl (And.intro (r1.put2 (R := w.heap.size) (by omega) (.slice a1 a.1.length c1) (.slice a2 a.2.length c2)).any (And.intro (r2.put2 (R := w.heap.size) (by omega) (.slice a1 a.1.length c1) (.slice a2 a.2.length c2)).any (((bt (below_alloc _ _) hb).setCell (p := ⟨w.heap.size, 0, none⟩) (by simp) (.slice a1 a.1.length c1)).setCell (p := ⟨w.heap.size, 1, none⟩) (by simp) (.slice a2 a.2.length c2)))))
  have r := box_two (.slice a1 a.1.length c1) (.slice a2 a.2.length c2) A0 A1
  clear hl r1 r2 hA hb
  go_wp2
  refine bodyPost_ret (v := .agg #[.slice a1 a.1.length c1, .slice a2 a.2.length c2]) (by simp [results, Try.results37, go_sem, r.1, r.2]) rfl ?_
  exact ⟨_, _, a, rfl, HQ.out.1, HQ.out.2.1, HQ.out.2.2.1, HQ.out.2.2.2⟩
set_option maxRecDepth 100000 in
set_option maxHeartbeats 6400000 in
theorem fnListedAssertion_walk (v : Value) (n : Nat) (w : World) (h : RBytes w v n) :
    Calls Try.prog 6 #[v] w fun e w' => e = .returned (.bool true) ∧ Below w.heap.size w w' := by
  obtain ⟨a, cap, rfl⟩ := bytes_form h
  by_cases hn : n ≤ 1048576
  rotate_left
  · go_enter Try.func6, Try.ntmps6
    go_wp2
    go_ret
    exact ⟨rfl, Below.refl _ _⟩
  go_enter Try.func6, Try.ntmps6
  go_wp2_with fail
  refine (specDrawListed_any _ n _ h).mono ?_
  rintro e w1 ⟨u1, u2, A, rfl, hl, r1, r2, hW⟩
  obtain ⟨a1, c1, rfl⟩ := r1.form
  obtain ⟨a2, c2, rfl⟩ := r2.form
  have s1 := r1.lt
  have s2 := r2.lt
  clear r1 r2
  obtain ⟨ok, hok⟩ : ∃ ok, ok = asnB A := ⟨_, rfl⟩
  obtain ⟨B, hB⟩ : ∃ D, D = listA A := ⟨_, rfl⟩
  have hbn : (ok != ok) = false := by cases ok <;> rfl
  have hbe : (ok == ok) = true := by cases ok <;> rfl
  have HX := Lib.hid (And.intro hok hB)
  clear hok hB hl
  go_wp2_with fail
  refine (listedI_any _ _ A _ (s1.keep (by repeat (first | exact Below.refl _ _ | with_reducible assumption | exact below_alloc _ _ | (refine Below.setCell ?_ (by first | (simp; done) | (simp; omega) | omega) _) | apply bd | apply ba | apply be))) (s2.keep (by repeat (first | exact Below.refl _ _ | with_reducible assumption | exact below_alloc _ _ | (refine Below.setCell ?_ (by first | (simp; done) | (simp; omega) | omega) _) | apply bd | apply ba | apply be)))).mono ?_
  rw [← HX.out.1, ← HX.out.2]
  rintro e w2 ⟨x1, x2, rfl, hx, hb⟩
  have hc0 := cell_keep hb (p := ⟨w1.heap.size, 0, none⟩) (v := .slice a1 A.1.length c1) (by simp)
  have hc1 := cell_keep hb (p := ⟨w1.heap.size, 1, none⟩) (v := .slice a2 A.2.length c2) (by simp)
  replace hb := bt (below_alloc w1 _) hb
  replace hW := bt hW hb; replace s1 := s1.keep hb; replace s2 := s2.keep hb; clear hb
  have q1 := hx.one.any
  have q2 := hx.two.any
  clear hx
  obtain ⟨xa1, xc1, rfl⟩ := q1.form
  obtain ⟨xa2, xc2, rfl⟩ := q2.form
  have hz2 : w1.heap.size < w2.heap.size := World.block_lt_of_cell? w2 _ hc0
  go_wp2_with fail
  refine (listedS_any _ _ A _ (s1.keep (by repeat (first | exact Below.refl _ _ | with_reducible assumption | exact below_alloc _ _ | (refine Below.setCell ?_ (by first | (simp; done) | (simp; omega) | omega) _) | apply bd | apply ba | apply be))) (s2.keep (by repeat (first | exact Below.refl _ _ | with_reducible assumption | exact below_alloc _ _ | (refine Below.setCell ?_ (by first | (simp; done) | (simp; omega) | omega) _) | apply bd | apply ba | apply be)))).mono ?_
  rw [← HX.out.1, ← HX.out.2]
  rintro e w3 ⟨y1, y2, rfl, ⟨p1, p2⟩, hb⟩
  have hx0 := cell_keep hb (p := ⟨w2.heap.size, 0, none⟩) (v := .slice xa1 B.1.length xc1) (by simp)
  have hx1 := cell_keep hb (p := ⟨w2.heap.size, 1, none⟩) (v := .slice xa2 B.2.length xc2) (by simp)
  replace hb := bt (below_alloc w2 _) hb
  replace hc0 := cell_keep hb hc0; replace hc1 := cell_keep hb hc1; replace hW := bt hW hb; replace s1 := s1.keep hb; replace s2 := s2.keep hb; replace q1 := q1.keep hb; replace q2 := q2.keep hb; clear hb
  obtain ⟨ya1, yc1, rfl⟩ := p1.form
  obtain ⟨ya2, yc2, rfl⟩ := p2.form
  have hz3 : w1.heap.size < w3.heap.size := World.block_lt_of_cell? w3 _ hc0
  have hz4 : w2.heap.size < w3.heap.size := World.block_lt_of_cell? w3 _ hx0
  go_wp2_with fail
  refine (asnSame_any _ _ _ _ B _ (q1.keep (by repeat (first | exact Below.refl _ _ | with_reducible assumption | exact below_alloc _ _ | (refine Below.setCell ?_ (by first | (simp; done) | (simp; omega) | omega) _) | apply bd | apply ba | apply be))) (q2.keep (by repeat (first | exact Below.refl _ _ | with_reducible assumption | exact below_alloc _ _ | (refine Below.setCell ?_ (by first | (simp; done) | (simp; omega) | omega) _) | apply bd | apply ba | apply be))) (p1.keep (by repeat (first | exact Below.refl _ _ | with_reducible assumption | exact below_alloc _ _ | (refine Below.setCell ?_ (by first | (simp; done) | (simp; omega) | omega) _) | apply bd | apply ba | apply be))) (p2.keep (by repeat (first | exact Below.refl _ _ | with_reducible assumption | exact below_alloc _ _ | (refine Below.setCell ?_ (by first | (simp; done) | (simp; omega) | omega) _) | apply bd | apply ba | apply be)))).mono ?_
  rintro e w4 ⟨rfl, hb⟩
  have hy0 := cell_keep hb (p := ⟨w3.heap.size, 0, none⟩) (v := .slice ya1 B.1.length yc1) (by simp)
  have hy1 := cell_keep hb (p := ⟨w3.heap.size, 1, none⟩) (v := .slice ya2 B.2.length yc2) (by simp)
  replace hb := bt (below_alloc w3 _) hb
  replace hc0 := cell_keep hb hc0; replace hc1 := cell_keep hb hc1; replace hx0 := cell_keep hb hx0; replace hx1 := cell_keep hb hx1; replace hW := bt hW hb; replace s1 := s1.keep hb; replace s2 := s2.keep hb; replace q1 := q1.keep hb; replace q2 := q2.keep hb; replace p1 := p1.keep hb; replace p2 := p2.keep hb; clear hb
  have hz5 : w1.heap.size < w4.heap.size := World.block_lt_of_cell? w4 _ hc0
  have hz6 : w2.heap.size < w4.heap.size := World.block_lt_of_cell? w4 _ hx0
  cases ok with
  | false =>
    go_wp2_with fail
    refine (asnSame_any _ _ _ _ B _ q1 q2 p1 p2).mono ?_
    rintro e w5 ⟨rfl, hb⟩
    go_wp2
    go_ret
    exact ⟨rfl, bt hW hb⟩
  | true =>
    have hent := list_ent HX.out.1.symm
    rw [← HX.out.2] at hent
    obtain ⟨C, hC⟩ : ∃ C, C = listA B := ⟨_, rfl⟩
    rw [← hC] at hent
    have HE := Lib.hid (And.intro hent hC)
    have hlen : ((B.2.length : Int) == (A.2.length : Int)) = true := by rw [hent.2.2.2]; simp
    clear hent hC p1 p2 hy0 hy1
    go_wp2_with fail
    refine (listedI_any _ _ B _ q1 q2).mono ?_
    rw [HE.out.1.2.1, ← HE.out.2]
    rintro e w5 ⟨t1, t2, rfl, ht, hb⟩
    replace hc0 := cell_keep hb hc0; replace hc1 := cell_keep hb hc1; replace hx0 := cell_keep hb hx0; replace hx1 := cell_keep hb hx1; replace hW := bt hW hb; replace s1 := s1.keep hb; replace s2 := s2.keep hb; replace q1 := q1.keep hb; replace q2 := q2.keep hb; clear hb
    have m1 := ht.one.any
    have m2 := ht.two.any
    clear ht
    obtain ⟨ta1, tc1, rfl⟩ := m1.form
    obtain ⟨ta2, tc2, rfl⟩ := m2.form
    have hz7 : w1.heap.size < w5.heap.size := World.block_lt_of_cell? w5 _ hc0
    have hz8 : w2.heap.size < w5.heap.size := World.block_lt_of_cell? w5 _ hx0
    go_wp2_with fail
    refine (cb (entailsI_any _ _ _ _ A B _ (s1.keep (by repeat (first | exact Below.refl _ _ | with_reducible assumption | exact below_alloc _ _ | (refine Below.setCell ?_ (by first | (simp; done) | (simp; omega) | omega) _) | apply bd | apply ba | apply be))) (s2.keep (by repeat (first | exact Below.refl _ _ | with_reducible assumption | exact below_alloc _ _ | (refine Below.setCell ?_ (by first | (simp; done) | (simp; omega) | omega) _) | apply bd | apply ba | apply be))) (q1.keep (by repeat (first | exact Below.refl _ _ | with_reducible assumption | exact below_alloc _ _ | (refine Below.setCell ?_ (by first | (simp; done) | (simp; omega) | omega) _) | apply bd | apply ba | apply be))) (q2.keep (by repeat (first | exact Below.refl _ _ | with_reducible assumption | exact below_alloc _ _ | (refine Below.setCell ?_ (by first | (simp; done) | (simp; omega) | omega) _) | apply bd | apply ba | apply be)))) HE.out.1.1).mono ?_
    rintro e w6 ⟨rfl, hb⟩
    have ht0 := cell_keep hb (p := ⟨w5.heap.size, 0, none⟩) (v := .slice ta1 C.1.length tc1) (by simp)
    have ht1 := cell_keep hb (p := ⟨w5.heap.size, 1, none⟩) (v := .slice ta2 C.2.length tc2) (by simp)
    replace hb := bt (below_alloc w5 _) hb
    replace hc0 := cell_keep hb hc0; replace hc1 := cell_keep hb hc1; replace hx0 := cell_keep hb hx0; replace hx1 := cell_keep hb hx1; replace hW := bt hW hb; replace s1 := s1.keep hb; replace s2 := s2.keep hb; replace q1 := q1.keep hb; replace q2 := q2.keep hb; replace m1 := m1.keep hb; replace m2 := m2.keep hb; clear hb
    go_wp2_with fail
    refine (cb (entailsI_any _ _ _ _ A C _ s1 s2 m1 m2) HE.out.1.2.2.1).mono ?_
    rintro e w7 ⟨rfl, hb⟩
    go_wp2
    go_ret
    exact ⟨rfl, bt hW hb⟩
end Go.Proofs.Ythoingdcmdhllaa
