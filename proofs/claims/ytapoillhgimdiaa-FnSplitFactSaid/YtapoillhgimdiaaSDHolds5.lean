/- Walks: draws of a state and an assertion. -/
import Derived.Test.YtapoillhgimdiaaSDHolds4
import Derived.Test.YtapoillhgimdiaaSDHolds3
import Derived.Test.YtapoillhgimdiaaSMut2
import Derived.Test.YtapoillhgimdiaaSFam3
namespace Go.Proofs.Ytapoillhgimdiaa
open Go.RowKit

theorem fr_put1 {S : Nat → Prop} {a b : World} {p : Addr} {v : Value} (h : Fr S a b) (hp : S p.block) : Fr S a (b.setCell p v) := h.then (fr_set b p v) fun i _ e => by
  have e' : i = p.block := e
  rw [e']; exact hp
theorem fr_res4 (W : World) (A : Nat) (x y p q : Value) : Fr (fun k => k = A ∨ k = A + 1) W ((((W.setCell ⟨A, 0, none⟩ x).setCell ⟨A, 1, none⟩ y).setCell ⟨A + 1, 0, none⟩ p).setCell ⟨A + 1, 1, none⟩ q) :=
  fr_put1 (fr_put1 (fr_put1 (fr_put1 (Fr.refl _ _) (.inl rfl)) (.inl rfl)) (.inr rfl)) (.inr rfl)
theorem own_rl {w : World} {B : Nat} {v : Value} {l : List Int} (h : w.ownsRow B 3 1 v l.length (ints l)) : RL w (fun k => B ≤ k) v l := (own_ints h).1.rl.more fun _ _ hk => (own_lt h hk).1
set_option maxRecDepth 100000 in
set_option maxHeartbeats 6400000 in
theorem l4Args_any (g q : Nat) (w : World) (hr : Rdr w g q) (hq : q ≤ 800000) :
    Calls Try.prog 153 #[.pointer (some ⟨g, 0, none⟩)] w fun e w' => ∃ (u1 u2 x1 x2 : Value) (m1 m2 : List Int) (a : Asn), e = .returned (.tuple #[.agg #[u1, u2], .agg #[x1, x2]]) ∧ (m1.length ≤ 9 ∧ m2.length ≤ 9) ∧ (a.1.length ≤ 26 ∧ a.2.length ≤ 13) ∧
      (RL w' (fun k => w.heap.size + 2 ≤ k) u1 m1 ∧ RL w' (fun k => w.heap.size + 2 ≤ k) u2 m2) ∧ (RL w' (fun k => w.heap.size + 2 ≤ k) x1 a.1 ∧ RL w' (fun k => w.heap.size + 2 ≤ k) x2 a.2) ∧ Rdr w' g (q + 200) ∧ Fr (fun j => j = g) w w' := by
  have hgl := hr.lt
  have hA := box_keep (heap_alloc_new w (.cells #[.slice none 0 0, .slice none 0 0] 77)) (below_alloc _ (.cells #[.slice none 0 0, .slice none 0 0] 33))
  have hB := heap_alloc_new (w.alloc (.cells #[.slice none 0 0, .slice none 0 0] 77)) (.cells #[.slice none 0 0, .slice none 0 0] 33)
  rw [World.size_alloc] at hB
  have hF : Fr (fun j => j = g) w ((w.alloc (.cells #[.slice none 0 0, .slice none 0 0] 77)).alloc (.cells #[.slice none 0 0, .slice none 0 0] 33)) := (Below.fr (ba (below_alloc w _) _)).mono fun _ _ h => h.elim
  have hr0 := (hr.keep (below_alloc _ (.cells #[.slice none 0 0, .slice none 0 0] 77))).keep (below_alloc _ (.cells #[.slice none 0 0, .slice none 0 0] 33))
  have H0 := Lib.hid (And.intro hA (And.intro hB hF))
  clear hA hB hF hr
  go_enter Try.func153, Try.ntmps153
  go_wp2_with fail
  refine (l3Draw_any g q _ hr0 (by omega)).mono ?_
  rintro e w2 ⟨v1, v2, a, rfl, hva, o1, o2, hr2, hf2⟩
  have hz2 : w.heap.size + 2 ≤ w2.heap.size := by have := hf2.size; simp at this; omega
  simp only [World.size_alloc] at o1 o2
  obtain ⟨a1, c1, rfl⟩ := o1.form
  obtain ⟨a2, c2, rfl⟩ := o2.form
  have hla : a.1.length ≤ 12 ∧ a.2.length ≤ 6 := by simp only [asnB, factsB, Bool.and_eq_true, decide_eq_true_eq] at hva; exact ⟨hva.1.1, hva.2.1⟩
  have hbA : Below w2.heap.size w2 (w2.alloc (.cells #[.slice a1 a.1.length c1, .slice a2 a.2.length c2] 33)) := below_alloc _ _
  have hP := heap_alloc_new w2 (.cells #[.slice a1 a.1.length c1, .slice a2 a.2.length c2] 33)
  have hA := box_keep (box_kept H0.out.1 hf2 (by omega)) hbA
  have hB := box_keep (box_kept H0.out.2.1 hf2 (by omega)) hbA
  have hF := (H0.out.2.2.trans hf2).thenB hbA
  have r1 := (o1.rl.more (S' := fun k => ¬ k = g) fun k _ hk => by have h2 : w.heap.size + 1 + 1 ≤ k := hk; omega).keep hbA
  have r2 := (o2.rl.more (S' := fun k => ¬ k = g) fun k _ hk => by have h2 : w.heap.size + 1 + 1 ≤ k := hk; omega).keep hbA
  have hr2' := hr2.keep hbA
  have HV := Lib.hid (And.intro hva (And.intro (asn_sz hva) hla))
  have HR2 := Lib.hid (And.intro r1 r2)
  clear H0 hva hla o1 o2 hr2 hf2 hr0 hbA
  go_wp2_with fail
  refine (l4Build_any g _ _ _ a _ hr2' (by omega) HV.out.1 HR2.out.1 HR2.out.2).mono ?_
  rintro e w4 ⟨s1, s2, l1, l2, rfl, hl1, hl2, hst, hr4, hf4⟩
  have hz4 : w2.heap.size < w4.heap.size := by have := hf4.size; simp at this; omega
  replace hP := box_kept hP hf4 (by omega)
  replace hA := box_kept hA hf4 (by omega)
  replace hB := box_kept hB hf4 (by omega)
  replace hF := hF.trans hf4
  replace r1 := (r1.kept hf4 fun _ _ h e => h e).more (S' := fun k => ¬ k = g ∧ ¬ k = w4.heap.size) fun k hk h => ⟨h, by omega⟩
  replace r2 := (r2.kept hf4 fun _ _ h e => h e).more (S' := fun k => ¬ k = g ∧ ¬ k = w4.heap.size) fun k hk h => ⟨h, by omega⟩
  obtain ⟨b1, d1, rfl, hgb1, hgu1⟩ := own_at hst.one (by omega)
  obtain ⟨b2, d2, rfl, hgb2, hgu2⟩ := own_at hst.two (by omega)
  rw [World.size_alloc] at hgb1 hgb2
  rw [hl1, hl2]
  have hbA : Below w4.heap.size w4 (w4.alloc (.cells #[.slice (some ⟨b1, 0, none⟩) 8 d1, .slice (some ⟨b2, 0, none⟩) 8 d2] 77)) := below_alloc _ _
  have hQ := heap_alloc_new w4 (.cells #[.slice (some ⟨b1, 0, none⟩) 8 d1, .slice (some ⟨b2, 0, none⟩) 8 d2] 77)
  have i1 := (own_rl hst.one).more (S' := fun k => ¬ k = g ∧ ¬ k = w4.heap.size) fun k hk h => by rw [World.size_alloc] at h; omega
  have i2 := (own_rl hst.two).more (S' := fun k => ¬ k = g ∧ ¬ k = w4.heap.size) fun k hk h => by rw [World.size_alloc] at h; omega
  rw [hl1] at i1
  rw [hl2] at i2
  replace i1 := i1.keep hbA
  replace i2 := i2.keep hbA
  replace hP := box_keep hP hbA
  replace hA := box_keep hA hbA
  replace hB := box_keep hB hbA
  replace hF := hF.thenB hbA
  replace r1 := r1.keep hbA
  replace r2 := r2.keep hbA
  replace hr4 := hr4.keep hbA
  have HL8 := Lib.hid (And.intro hl1 hl2)
  clear hst hf4 hbA hr2' HR2 hl1 hl2
  go_wp2_with fail
  refine (pick_any g _ 8 _ hr4 (by omega) (by decide) (by decide)).mono ?_
  rintro e w5 ⟨k, rfl, hk, hr5, hf5⟩
  have hz5 : w4.heap.size < w5.heap.size := by have := hf5.size; simp at this; omega
  replace hP := box_kept hP hf5 (by omega)
  replace hQ := box_kept hQ hf5 (by omega)
  replace hA := box_kept hA hf5 (by omega)
  replace hB := box_kept hB hf5 (by omega)
  replace hF := hF.trans hf5
  replace r1 := r1.kept hf5 fun _ _ h e => h.1 e
  replace r2 := r2.kept hf5 fun _ _ h e => h.1 e
  replace i1 := i1.kept hf5 fun _ _ h e => h.1 e
  replace i2 := i2.kept hf5 fun _ _ h e => h.1 e
  have q0 := box0 hQ
  have q1 := box1 hQ
  have qz := boxz hQ
  have ql := box_lt hQ
  have HH := Lib.hid (And.intro (And.intro hP (And.intro hQ (And.intro hA hB))) (And.intro (And.intro r1 r2) (And.intro (And.intro i1 i2) (And.intro hr5 hF))))
  clear hP hQ hA hB r1 r2 i1 i2 hr5 hF hf5 hr4
  go_upto_if 13 with fail
  go_cut [] from 6 (fun wc => ∃ (t1 t2 : Value) (l1 l2 : List Int), (l1.length = 8 ∧ l2.length = 8) ∧ (wc.heap[w2.heap.size]? = some (.cells #[.slice a1 a.1.length c1, .slice a2 a.2.length c2] 33 (0, 0)) ∧ wc.heap[w4.heap.size]? = some (.cells #[t1, t2] 77 (0, 0)) ∧ wc.heap[w.heap.size]? = some (.cells #[.slice none 0 0, .slice none 0 0] 77 (0, 0)) ∧ wc.heap[w.heap.size + 1]? = some (.cells #[.slice none 0 0, .slice none 0 0] 33 (0, 0))) ∧
    (RL wc (fun k => ¬ k = g ∧ ¬ k = w4.heap.size) (.slice a1 a.1.length c1) a.1 ∧ RL wc (fun k => ¬ k = g ∧ ¬ k = w4.heap.size) (.slice a2 a.2.length c2) a.2) ∧ (RL wc (fun k => ¬ k = g ∧ ¬ k = w4.heap.size) t1 l1 ∧ RL wc (fun k => ¬ k = g ∧ ¬ k = w4.heap.size) t2 l2) ∧ Rdr wc g (q + 150) ∧ Fr (fun j => j = g) w wc)
  case first =>
    by_cases hk0 : k = 0
    · subst hk0
      go_wp2_with fail
      refine (l2Draw_any g _ _ HH.out.2.2.2.1 (by omega)).mono ?_
      rintro e w6 ⟨y1, y2, n1, n2, rfl, hn1, hn2, hs6, hr6, hf6⟩
      obtain ⟨e1, f1, rfl, hge1, hgu1⟩ := own_at hs6.one (by omega)
      obtain ⟨e2, f2, rfl, hge2, hgu2⟩ := own_at hs6.two (by omega)
      have hQ := box_kept HH.out.1.2.1 hf6 (by omega)
      replace q0 := box0 hQ
      replace q1 := box1 hQ
      replace qz := boxz hQ
      replace ql := box_lt hQ
      have hz6 := hf6.size
      have hfQ : ∀ (x y : Value), Fr (fun k => k = w4.heap.size) w6 ((w6.setCell ⟨w4.heap.size, 0, none⟩ x).setCell ⟨w4.heap.size, 1, none⟩ y) := fun x y => (fr_set w6 ⟨w4.heap.size, 0, none⟩ x).trans (fr_set _ ⟨w4.heap.size, 1, none⟩ y)
      have j1 := (own_rl hs6.one).more (S' := fun k => ¬ k = g ∧ ¬ k = w4.heap.size) fun k hk h => by have h2 : w5.heap.size ≤ k := h; omega
      have j2 := (own_rl hs6.two).more (S' := fun k => ¬ k = g ∧ ¬ k = w4.heap.size) fun k hk h => by have h2 : w5.heap.size ≤ k := h; omega
      have hfA := hfQ (.slice (some ⟨e1, 0, none⟩) n1.length f1) (.slice (some ⟨e2, 0, none⟩) n2.length f2)
      have K : ∀ {α : Type} [Dat α] {v : Value} {l : List α}, RL w5 (fun k => ¬ k = g ∧ ¬ k = w4.heap.size) v l → RL ((w6.setCell ⟨w4.heap.size, 0, none⟩ (.slice (some ⟨e1, 0, none⟩) n1.length f1)).setCell ⟨w4.heap.size, 1, none⟩ (.slice (some ⟨e2, 0, none⟩) n2.length f2)) (fun k => ¬ k = g ∧ ¬ k = w4.heap.size) v l := fun h => (h.kept hf6 fun _ _ h e => h.1 e).kept hfA fun _ _ h e => h.2 e
      have HN := Lib.hid (And.intro (And.intro (box_kept (box_kept HH.out.1.1 hf6 (by omega)) hfA (by omega)) (And.intro (box_set1 (box_set0 hQ (.slice (some ⟨e1, 0, none⟩) n1.length f1)) (.slice (some ⟨e2, 0, none⟩) n2.length f2)) (And.intro (box_kept (box_kept HH.out.1.2.2.1 hf6 (by omega)) hfA (by omega)) (box_kept (box_kept HH.out.1.2.2.2 hf6 (by omega)) hfA (by omega)))))
        (And.intro (And.intro (K HH.out.2.1.1) (K HH.out.2.1.2)) (And.intro (And.intro (j1.kept hfA fun _ _ h e => h.2 e) (j2.kept hfA fun _ _ h e => h.2 e)) (And.intro (hr6.kept hfA fun k hk e => by omega) ((HH.out.2.2.2.2.trans hf6).then hfA fun i hi e => by omega)))))
      have HL := Lib.hid (And.intro hn1 hn2)
      clear hQ j1 j2 K hfA hfQ hs6 hr6 hf6 hn1 hn2
      rw [HL.out.1, HL.out.2] at HN
      rw [HL.out.1, HL.out.2]
      go_wp2
      go_meet
      case rel => exact ⟨_, _, n1, n2, HL.out, HN.out.1, HN.out.2.1, HN.out.2.2.1, HN.out.2.2.2.1.more (by omega), HN.out.2.2.2.2⟩
    · have kb0 : ((k : Int) == 0) = false := by simp; omega
      go_wp2_with fail
      go_meet
      case rel => exact ⟨_, _, l1, l2, HL8.out, HH.out.1, HH.out.2.1, HH.out.2.2.1, HH.out.2.2.2.1.more (by omega), HH.out.2.2.2.2⟩
  case rest =>
    obtain ⟨t1, t2, n1, n2, hn8, ⟨hP, hQ, hA, hB⟩, ⟨r1, r2⟩, ⟨i1, i2⟩, hr6, hF⟩ := hcut
    clear HH q0 q1 qz ql HL8
    obtain ⟨ta1, tc1, rfl⟩ := i1.form
    obtain ⟨ta2, tc2, rfl⟩ := i2.form
    have q0 := box0 hQ
    have q1 := box1 hQ
    have p0 := box0 hP
    have p1 := box1 hP
    have hgc := hr6.lt
    have hzc := box_lt hQ
    have HB := Lib.hid (And.intro hP (And.intro hQ (And.intro hA hB)))
    have HR := Lib.hid (And.intro (And.intro r1 r2) (And.intro (And.intro i1 i2) (And.intro hr6 hF)))
    have HN8 := Lib.hid hn8
    clear hP hQ hA hB r1 r2 i1 i2 hr6 hF hn8
    go_wp2
    go_region_held3 (fun w' => (w'.cell? ⟨w4.heap.size, 0, none⟩ = some (.slice ta1 n1.length tc1) ∧ w'.cell? ⟨w4.heap.size, 1, none⟩ = some (.slice ta2 n2.length tc2)) ∧ (w'.cell? ⟨w2.heap.size, 0, none⟩ = some (.slice a1 a.1.length c1) ∧ w'.cell? ⟨w2.heap.size, 1, none⟩ = some (.slice a2 a.2.length c2)))
      (first
        | (have _h := zq0; exact ⟨⟨(by repeat (first | with_reducible exact zq0 | (with_reducible refine (fr_set _ _ _).cell (by first | (simp; done) | (simp; omega) | omega) ?_) | exact cell_keep Bl zq0)), (by repeat (first | with_reducible exact zq1 | (with_reducible refine (fr_set _ _ _).cell (by first | (simp; done) | (simp; omega) | omega) ?_) | exact cell_keep Bl zq1))⟩, (by repeat (first | with_reducible exact zp0 | (with_reducible refine (fr_set _ _ _).cell (by first | (simp; done) | (simp; omega) | omega) ?_) | exact cell_keep Bl zp0)), (by repeat (first | with_reducible exact zp1 | (with_reducible refine (fr_set _ _ _).cell (by first | (simp; done) | (simp; omega) | omega) ?_) | exact cell_keep Bl zp1))⟩)
        | (have _h := yq0; exact ⟨⟨(by repeat (first | with_reducible exact yq0 | (with_reducible refine (fr_set _ _ _).cell (by first | (simp; done) | (simp; omega) | omega) ?_) | exact cell_keep Bl yq0)), (by repeat (first | with_reducible exact yq1 | (with_reducible refine (fr_set _ _ _).cell (by first | (simp; done) | (simp; omega) | omega) ?_) | exact cell_keep Bl yq1))⟩, (by repeat (first | with_reducible exact yp0 | (with_reducible refine (fr_set _ _ _).cell (by first | (simp; done) | (simp; omega) | omega) ?_) | exact cell_keep Bl yp0)), (by repeat (first | with_reducible exact yp1 | (with_reducible refine (fr_set _ _ _).cell (by first | (simp; done) | (simp; omega) | omega) ?_) | exact cell_keep Bl yp1))⟩)
        | exact ⟨⟨cell_keep Bl q0, cell_keep Bl q1⟩, cell_keep Bl p0, cell_keep Bl p1⟩)
      (first
        | (go_at_call 141; go_must (refine (l2Mutate_any g _ _ _ n1 n2 _ (HR.out.2.2.1.keep Bl) (by omega) (HR.out.2.1.1.ints.keep Bl) (HR.out.2.1.2.ints.keep Bl) HN8.out.1 HN8.out.2).mono ?_; rintro e w8 ⟨u1, u2, m1, m2, rfl, hm1, hm2, hst, hr8, hf8'⟩; obtain ⟨ua1, uc1, rfl, _⟩ := own_form hst.one; obtain ⟨ua2, uc2, rfl, _⟩ := own_form hst.two; have hf8 : Fr (fun j => j = g) wc w8 := Fr.trans ((Below.fr (below_drew wc)).mono fun _ _ h => h.elim) hf8'; have hz8 := hf8.size; have yq0 := hf8.cell (by show ¬ w4.heap.size = g; omega) q0; have yq1 := hf8.cell (by show ¬ w4.heap.size = g; omega) q1; have yp0 := hf8.cell (by show ¬ w2.heap.size = g; omega) p0; have yp1 := hf8.cell (by show ¬ w2.heap.size = g; omega) p1; have H8 := Lib.hid (And.intro hst (And.intro hr8 (And.intro hm1 hm2))); clear hst hr8 hm1 hm2 hf8'))
        | (go_at_call 197; go_must (refine (l3Mutate_any g _ _ _ a _ (H8.out.2.1.keep Bl) (by omega) ((HR.out.1.1.kept hf8 fun _ _ h e => h.1 e).keep Bl) ((HR.out.1.2.kept hf8 fun _ _ h e => h.1 e).keep Bl) HV.out.2.1).mono ?_; rintro e w9 ⟨x1, x2, b, rfl, hbl, o1, o2, hr9, hf9⟩; obtain ⟨xa1, xc1, rfl⟩ := o1.form; obtain ⟨xa2, xc2, rfl⟩ := o2.form; have hz9 := hf9.size; have zq0 := hf9.cell (by show ¬ w4.heap.size = g; omega) yq0; have zq1 := hf9.cell (by show ¬ w4.heap.size = g; omega) yq1; have zp0 := hf9.cell (by show ¬ w2.heap.size = g; omega) yp0; have zp1 := hf9.cell (by show ¬ w2.heap.size = g; omega) yp1; have hA9 := box_kept (box_kept HB.out.2.2.1 hf8 (by omega)) hf9 (by omega); have hB9 := box_kept (box_kept HB.out.2.2.2 hf8 (by omega)) hf9 (by omega); have a0 := box0 hA9; have a1' := box1 hA9; have az := boxz hA9; have al := box_lt hA9; have b0 := box0 hB9; have b1' := box1 hB9; have bz := boxz hB9; have bl := box_lt hB9; have H9 := Lib.hid (And.intro (And.intro o1 o2) (And.intro hr9 (And.intro hf9 hbl))); clear o1 o2 hr9 hbl hA9 hB9)))
    all_goals
      clear yq0 yq1 yp0 yp1 zq0 zq1 zp0 zp1
      go_wp2
      refine bodyPost_ret (v := .tuple #[.agg #[.slice ua1 m1.length uc1, .slice ua2 m2.length uc2], .agg #[.slice xa1 b.1.length xc1, .slice xa2 b.2.length xc2]]) (by simp [results, Try.results153, go_sem, a0, a1', b0, b1']) rfl ?_
      have hFF := fr_res4 w9 w.heap.size (.slice ua1 m1.length uc1) (.slice ua2 m2.length uc2) (.slice xa1 b.1.length xc1) (.slice xa2 b.2.length xc2)
      have j1 := (((own_rl H8.out.1.one).more (S' := fun k => w.heap.size + 2 ≤ k ∧ ¬ k = g) fun k hk h => by simp at h; omega).kept H9.out.2.2.1 fun _ _ h e => h.2 e).kept hFF fun k _ h e => by omega
      have j2 := (((own_rl H8.out.1.two).more (S' := fun k => w.heap.size + 2 ≤ k ∧ ¬ k = g) fun k hk h => by simp at h; omega).kept H9.out.2.2.1 fun _ _ h e => h.2 e).kept hFF fun k _ h e => by omega
      have x1 := (H9.out.1.1.rl.more (S' := fun k => w.heap.size + 2 ≤ k) fun k _ h => by have h2 : w8.heap.size ≤ k := h; omega).kept hFF fun k _ h e => by omega
      have x2 := (H9.out.1.2.rl.more (S' := fun k => w.heap.size + 2 ≤ k) fun k _ h => by have h2 : w8.heap.size ≤ k := h; omega).kept hFF fun k _ h e => by omega
      exact ⟨_, _, _, _, m1, m2, b, rfl, H8.out.2.2, (by have := H9.out.2.2.2; have := HV.out.2.2; omega), ⟨j1.more fun _ _ h => h.1, j2.more fun _ _ h => h.1⟩, ⟨x1, x2⟩, (H9.out.2.1.more (by omega)).kept hFF (fun k hk e => by omega), (((HR.out.2.2.2.trans hf8).then H9.out.2.2.1 fun _ _ h => h).then hFF fun i hi e => by omega)⟩
set_option maxRecDepth 100000 in
set_option maxHeartbeats 3200000 in
theorem specDrawHolds_any (v : Value) (n : Nat) (w : World) (h : RBytes w v n) :
    Calls Try.prog 67 #[v] w fun e w' => ∃ (u1 u2 x1 x2 : Value) (m1 m2 : List Int) (a : Asn), e = .returned (.tuple #[.agg #[u1, u2], .agg #[x1, x2]]) ∧ (m1.length ≤ 9 ∧ m2.length ≤ 9) ∧ (a.1.length ≤ 26 ∧ a.2.length ≤ 13) ∧
      (RL w' (fun k => w.heap.size + 2 ≤ k) u1 m1 ∧ RL w' (fun k => w.heap.size + 2 ≤ k) u2 m2) ∧ (RL w' (fun k => w.heap.size + 2 ≤ k) x1 a.1 ∧ RL w' (fun k => w.heap.size + 2 ≤ k) x2 a.2) ∧ Below w.heap.size w w' := by
  go_enter Try.func67, Try.ntmps67
  go_wp2_with fail
  refine (l18Open_any v n _ ((h.keep (below_alloc _ _)).keep (below_alloc _ _))).mono ?_
  rintro e w1 ⟨rfl, hr1, hb1⟩
  have hA := box_keep (box_keep (heap_alloc_new w (.cells #[.slice none 0 0, .slice none 0 0] 77)) (below_alloc _ (.cells #[.slice none 0 0, .slice none 0 0] 33))) hb1
  have hB := box_keep (heap_alloc_new (w.alloc (.cells #[.slice none 0 0, .slice none 0 0] 77)) (.cells #[.slice none 0 0, .slice none 0 0] 33)) hb1
  simp only [World.size_alloc] at hr1 hB ⊢
  obtain ⟨g, hg⟩ : ∃ g, g = w.heap.size + 1 + 1 := ⟨_, rfl⟩
  have hF1 : Fr (fun k => k = g) w w1 := (Below.fr (bt (ba (below_alloc w _) _) hb1)).mono fun _ _ h => h.elim
  rw [← hg] at hr1 ⊢
  have hgA : ¬ w.heap.size = g := by omega
  have hgB : ¬ w.heap.size + 1 = g := by omega
  have hgw : w.heap.size + 2 ≤ g := by omega
  have hg1 := hr1.lt
  clear hb1 hg h
  go_wp2_with fail
  refine (l4Args_any g 0 _ hr1 (by omega)).mono ?_
  rintro e w2 ⟨u1, u2, x1, x2, m1, m2, a, rfl, hm, hl, ⟨i1, i2⟩, ⟨r1, r2⟩, hr2, hf2⟩
  obtain ⟨ua1, uc1, rfl⟩ := i1.form
  obtain ⟨ua2, uc2, rfl⟩ := i2.form
  obtain ⟨xa1, xc1, rfl⟩ := r1.form
  obtain ⟨xa2, xc2, rfl⟩ := r2.form
  replace hA := box_kept hA hf2 hgA
  replace hB := box_kept hB hf2 hgB
  have a0 := box0 hA
  have a1 := box1 hA
  have az := boxz hA
  have al := box_lt hA
  have b0 := box0 hB
  have b1 := box1 hB
  have bz := boxz hB
  have bl := box_lt hB
  have HQ := Lib.hid (And.intro (And.intro hm hl) (And.intro (And.intro i1 i2) (And.intro (And.intro r1 r2) (hF1.trans hf2))))
  clear hA hB hF1 hr1 hr2 hf2 hm hl i1 i2 r1 r2
  go_wp2
  refine bodyPost_ret (v := .tuple #[.agg #[.slice ua1 m1.length uc1, .slice ua2 m2.length uc2], .agg #[.slice xa1 a.1.length xc1, .slice xa2 a.2.length xc2]]) (by simp [results, Try.results67, go_sem, a0, a1, b0, b1]) rfl ?_
  have hFF := fr_res4 w2 w.heap.size (.slice ua1 m1.length uc1) (.slice ua2 m2.length uc2) (.slice xa1 a.1.length xc1) (.slice xa2 a.2.length xc2)
  have K : ∀ {α : Type} [Dat α] {v : Value} {l : List α}, RL w2 (fun k => w1.heap.size + 2 ≤ k) v l → RL ((((w2.setCell ⟨w.heap.size, 0, none⟩ (.slice ua1 m1.length uc1)).setCell ⟨w.heap.size, 1, none⟩ (.slice ua2 m2.length uc2)).setCell ⟨w.heap.size + 1, 0, none⟩ (.slice xa1 a.1.length xc1)).setCell ⟨w.heap.size + 1, 1, none⟩ (.slice xa2 a.2.length xc2)) (fun k => w.heap.size + 2 ≤ k) v l :=
    fun h => (h.more (S' := fun k => w.heap.size + 2 ≤ k) fun k _ h => by have h2 : w1.heap.size + 2 ≤ k := h; omega).kept hFF fun k _ h e => by omega
  exact ⟨_, _, _, _, m1, m2, a, rfl, HQ.out.1.1, HQ.out.1.2, ⟨K HQ.out.2.1.1, K HQ.out.2.1.2⟩, ⟨K HQ.out.2.2.1.1, K HQ.out.2.2.1.2⟩, (HQ.out.2.2.2.then hFF fun i hi e => by omega).below (Nat.le_refl _) fun k hk e => by omega⟩
end Go.Proofs.Ytapoillhgimdiaa
