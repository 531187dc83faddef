/- DEntA: texts DEnt, DEnt2 in one. -/
import Derived.Test.YtdjfdopgjlbloaaGreatDoorWWkA
import Derived.Test.YtdjfdopgjlbloaaGreatDoorWDHolds3
import Derived.Test.YtdjfdopgjlbloaaGreatDoorWSam
import Derived.Deep.RegionHeld3
/- Walks: drawing the arguments of an entailment. -/
namespace Go.Proofs.YtdjfdopgjlbloaaGreatDoor
open Go.RowKit

theorem fr_put1E {S : Nat → Prop} {a b : World} {p : Addr} {v : Value} (h : Fr S a b) (hp : S p.block) : Fr S a (b.setCell p v) := h.then (fr_set b p v) fun i _ e => by
  have e2 : i = p.block := e
  subst e2; exact hp
theorem fr_res4E (W : World) (A : Nat) (x y p q : Value) : Fr (fun k => k = A ∨ k = A + 1) W ((((W.setCell ⟨A, 0, none⟩ x).setCell ⟨A, 1, none⟩ y).setCell ⟨A + 1, 0, none⟩ p).setCell ⟨A + 1, 1, none⟩ q) :=
  fr_put1E (fr_put1E (fr_put1E (fr_put1E (Fr.refl _ _) (.inl rfl)) (.inl rfl)) (.inr rfl)) (.inr rfl)
/-- An assertion in a box, its rows elsewhere. -/
structure BoxA (w : World) (g b1 b2 b : Nat) (v1 v2 : Value) (a : Asn) : Prop where
  box : w.heap[b]? = some (.cells #[v1, v2] 37 (0, 0))
  f : RL w (fun k => ¬ k = g ∧ ¬ k = b1 ∧ ¬ k = b2) v1 a.1
  s : RL w (fun k => ¬ k = g ∧ ¬ k = b1 ∧ ¬ k = b2) v2 a.2
  len : a.1.length ≤ 1000 ∧ a.2.length ≤ 1000
section
variable {w w' : World} {g b1 b2 b : Nat} {v1 v2 : Value} {a : Asn} {S : Nat → Prop}
theorem BoxA.kept (h : BoxA w g b1 b2 b v1 v2 a) (hf : Fr S w w') (hb : ¬ S b) (hs : ∀ k, ¬ k = g → ¬ k = b1 → ¬ k = b2 → ¬ S k) : BoxA w' g b1 b2 b v1 v2 a :=
  ⟨box_kept h.box hf hb, h.f.kept hf fun k _ h => hs k h.1 h.2.1 h.2.2, h.s.kept hf fun k _ h => hs k h.1 h.2.1 h.2.2, h.len⟩
theorem BoxA.keep (h : BoxA w g b1 b2 b v1 v2 a) (hb : Below w.heap.size w w') : BoxA w' g b1 b2 b v1 v2 a := h.kept (Below.fr hb) (fun h => h) fun _ _ _ _ h => h
theorem BoxA.drawn (h : BoxA w g b1 b2 b v1 v2 a) (hf : Fr (fun j => j = g) w w') (hb : ¬ b = g) : BoxA w' g b1 b2 b v1 v2 a := h.kept hf hb fun _ h _ _ => h
end
set_option maxRecDepth 100000 in
set_option maxHeartbeats 12800000 in
theorem specDrawEntails_any (v : Value) (n : Nat) (w : World) (h : RBytes w v n) :
    Calls Tryz.prog 36 #[v] w fun e w' => ∃ (u1 u2 t1 t2 : Value) (A B : Asn), e = .returned (.tuple #[.agg #[u1, u2], .agg #[t1, t2]]) ∧ ((A.1.length ≤ 1100 ∧ A.2.length ≤ 1100) ∧ (B.1.length ≤ 1100 ∧ B.2.length ≤ 1100)) ∧
      (RL w' (fun k => w.heap.size + 2 ≤ k) u1 A.1 ∧ RL w' (fun k => w.heap.size + 2 ≤ k) u2 A.2) ∧ (RL w' (fun k => w.heap.size + 2 ≤ k) t1 B.1 ∧ RL w' (fun k => w.heap.size + 2 ≤ k) t2 B.2) ∧ Below w.heap.size w w' := by
  go_enter Tryz.func36, Tryz.ntmps36
  go_wp2_with fail
  refine (l18Open_any v n _ (h.keep (bt (below_alloc w (.cells #[.slice none 0 0, .slice none 0 0] 37)) (below_alloc _ (.cells #[.slice none 0 0, .slice none 0 0] 37))))).mono ?_
  rintro e w1 ⟨rfl, hr1, hb1⟩
  have hA := box_keep (box_keep (heap_alloc_new w (.cells #[.slice none 0 0, .slice none 0 0] 37)) (below_alloc _ (.cells #[.slice none 0 0, .slice none 0 0] 37))) hb1
  have hB := box_keep (heap_alloc_new (w.alloc (.cells #[.slice none 0 0, .slice none 0 0] 37)) (.cells #[.slice none 0 0, .slice none 0 0] 37)) hb1
  simp only [World.size_alloc] at hr1 hB ⊢
  obtain ⟨g, hg⟩ : ∃ g, g = w.heap.size + 1 + 1 := ⟨_, rfl⟩
  have hF : Below w.heap.size w w1 := bt (bt (below_alloc w _) (below_alloc _ _)) hb1
  rw [← hg] at hr1 ⊢
  have hgw : w.heap.size + 2 ≤ g := by omega
  have hg1 := hr1.lt
  clear hb1 hg h
  go_wp2_with fail
  refine (l6Chains_any g 0 _ hr1 (by omega)).mono ?_
  rintro e w2 ⟨v1, v2, a0, rfl, hva, hla, o1, o2, hr2, hf2⟩
  obtain ⟨a1, c1, rfl⟩ := o1.form
  obtain ⟨a2, c2, rfl⟩ := o2.form
  have hz2 := hf2.size
  replace hA := box_kept hA hf2 (by omega)
  replace hB := box_kept hB hf2 (by omega)
  replace hF := hF.trans (hf2.below hF.size fun k hk e => by omega)
  -- the box of a
  have hbP := below_alloc w2 (.cells #[.slice a1 a0.1.length c1, .slice a2 a0.2.length c2] 37)
  have P : BoxA (w2.alloc (.cells #[.slice a1 a0.1.length c1, .slice a2 a0.2.length c2] 37)) g w2.heap.size w2.heap.size w2.heap.size (.slice a1 a0.1.length c1) (.slice a2 a0.2.length c2) a0 :=
    ⟨heap_alloc_new w2 _, (o1.rl.more fun k hk h => ⟨by have h2 : w1.heap.size ≤ k := h; omega, by omega, by omega⟩).keep hbP, (o2.rl.more fun k hk h => ⟨by have h2 : w1.heap.size ≤ k := h; omega, by omega, by omega⟩).keep hbP, by have := asn_len2 hva; omega⟩
  replace hA := box_keep hA hbP
  replace hB := box_keep hB hbP
  replace hF := bt hF hbP
  replace hr2 := hr2.keep hbP
  clear hva hla o1 o2 hr1 hf2 hbP
  go_wp2_with fail
  refine (pick_any g _ 3 _ hr2 (by omega) (by decide) (by decide)).mono ?_
  rintro e w4 ⟨k, rfl, hk, hr4, hf4⟩
  have hz4 : w2.heap.size < w4.heap.size := by have := hf4.size; simp at this; omega
  replace P := P.drawn hf4 (by omega)
  replace hA := box_kept hA hf4 (by omega)
  replace hB := box_kept hB hf4 (by omega)
  replace hF := hF.trans (hf4.below hF.size fun k hk e => by omega)
  obtain ⟨bP, hbP⟩ : ∃ b, w2.heap.size = b := ⟨_, rfl⟩
  rw [hbP] at P hz4 ⊢
  have hbg : g < bP := by omega
  clear hbP hf4 hr2 hz2
  have p0 := box0 P.box
  have p1 := box1 P.box
  have pz := boxz P.box
  have pl := box_lt P.box
  have HH := Lib.hid (And.intro P (And.intro (And.intro hA hB) (And.intro hr4 hF)))
  clear P hA hB hr4 hF
  go_upto_if 13 with fail
  go_cut [] from 7 (fun wc => ∃ (y1 y2 : Value) (A : Asn), BoxA wc g bP bP bP y1 y2 A ∧ (wc.heap[w.heap.size]? = some (.cells #[.slice none 0 0, .slice none 0 0] 37 (0, 0)) ∧ wc.heap[w.heap.size + 1]? = some (.cells #[.slice none 0 0, .slice none 0 0] 37 (0, 0))) ∧ Rdr wc g 100 ∧ Below w.heap.size w wc)
  case first =>
    by_cases hk0 : k = 0
    · subst hk0
      go_wp2_with fail
      refine (l3Draw_any g _ _ HH.out.2.2.1 (by omega)).mono ?_
      rintro e w6 ⟨z1, z2, A, rfl, hv6, t1, t2, hr6, hf6⟩
      obtain ⟨e1, f1, rfl⟩ := t1.form
      obtain ⟨e2, f2, rfl⟩ := t2.form
      have hP6 := box_kept HH.out.1.box hf6 (by omega)
      replace p0 := box0 hP6
      replace p1 := box1 hP6
      replace pz := boxz hP6
      replace pl := box_lt hP6
      have hz6 := hf6.size
      have hfQ : Fr (fun k => k = bP) w6 ((w6.setCell ⟨bP, 0, none⟩ (.slice e1 A.1.length f1)).setCell ⟨bP, 1, none⟩ (.slice e2 A.2.length f2)) := (fr_set w6 ⟨bP, 0, none⟩ _).trans (fr_set _ ⟨bP, 1, none⟩ _)
      have HN := Lib.hid (And.intro (show BoxA ((w6.setCell ⟨bP, 0, none⟩ (.slice e1 A.1.length f1)).setCell ⟨bP, 1, none⟩ (.slice e2 A.2.length f2)) g bP bP bP (.slice e1 A.1.length f1) (.slice e2 A.2.length f2) A from
          ⟨box_set1 (box_set0 hP6 _) _, (t1.rl.more fun k hk h => ⟨by have h2 : w4.heap.size ≤ k := h; omega, by have h2 : w4.heap.size ≤ k := h; omega, by have h2 : w4.heap.size ≤ k := h; omega⟩).kept hfQ fun _ _ h e => h.2.1 e, (t2.rl.more fun k hk h => ⟨by have h2 : w4.heap.size ≤ k := h; omega, by have h2 : w4.heap.size ≤ k := h; omega, by have h2 : w4.heap.size ≤ k := h; omega⟩).kept hfQ fun _ _ h e => h.2.1 e, by have := asn_len2 hv6; omega⟩)
        (And.intro (And.intro (box_kept (box_kept HH.out.2.1.1 hf6 (by omega)) hfQ (by omega)) (box_kept (box_kept HH.out.2.1.2 hf6 (by omega)) hfQ (by omega))) (And.intro ((hr6.more (q' := 100) (by omega)).kept hfQ fun k hk e => by omega) ((HH.out.2.2.2.trans (hf6.below HH.out.2.2.2.size fun k hk e => by omega)).trans (hfQ.below (by have := HH.out.2.2.2.size; omega) fun k hk e => by omega)))))
      clear hP6 hfQ t1 t2 hr6 hf6 hv6
      go_wp2
      go_meet
      case rel => exact ⟨_, _, A, HN.out.1, HN.out.2.1, HN.out.2.2.1, HN.out.2.2.2⟩
    · have kb0 : ((k : Int) == 0) = false := by simp; omega
      go_wp2_with fail
      go_meet
      case rel => exact ⟨_, _, a0, HH.out.1, HH.out.2.1, HH.out.2.2.1.more (by omega), HH.out.2.2.2⟩
  case rest =>
    obtain ⟨y1, y2, A, P, ⟨hA, hB⟩, hr6, hF⟩ := hcut
    clear HH p0 p1 pz pl
    obtain ⟨a1', c1', rfl⟩ := P.f.form
    obtain ⟨a2', c2', rfl⟩ := P.s.form
    have p0 := box0 P.box
    have p1 := box1 P.box
    have plc := box_lt P.box
    have hgc := hr6.lt
    go_wp2_with fail
    refine (l6Weak_any g _ _ _ A _ hr6 (by omega) P.f P.s P.len).mono ?_
    rintro e w7 ⟨x1, x2, B, rfl, hbl, t1, t2, hr7, hf7⟩
    obtain ⟨e1, f1, rfl⟩ := t1.form
    obtain ⟨e2, f2, rfl⟩ := t2.form
    have hz7 := hf7.size
    have hbQ := below_alloc w7 (.cells #[.slice e1 B.1.length f1, .slice e2 B.2.length f2] 37)
    have P2 : BoxA wc g w7.heap.size w7.heap.size bP (.slice a1' A.1.length c1') (.slice a2' A.2.length c2') A := ⟨P.box, P.f.more fun k hk h => ⟨h.1, by omega, by omega⟩, P.s.more fun k hk h => ⟨h.1, by omega, by omega⟩, P.len⟩
    replace P2 := (P2.drawn hf7 (by omega)).keep hbQ
    replace hA := box_keep (box_kept hA hf7 (by omega)) hbQ
    replace hB := box_keep (box_kept hB hf7 (by omega)) hbQ
    replace hF := bt (hF.trans (hf7.below hF.size fun k hk e => by omega)) hbQ
    have Q : BoxA (w7.alloc (.cells #[.slice e1 B.1.length f1, .slice e2 B.2.length f2] 37)) g w7.heap.size w7.heap.size w7.heap.size (.slice e1 B.1.length f1) (.slice e2 B.2.length f2) B :=
      ⟨heap_alloc_new w7 _, (t1.more fun k hk h => ⟨by have h2 : wc.heap.size ≤ k := h; omega, by omega, by omega⟩).keep hbQ, (t2.more fun k hk h => ⟨by have h2 : wc.heap.size ≤ k := h; omega, by omega, by omega⟩).keep hbQ, hbl⟩
    replace hr7 := hr7.keep hbQ
    clear P t1 t2 hf7 hbQ p0 p1 hbl hr6
    go_wp2_with fail
    refine (pick_any g _ 8 _ hr7 (by omega) (by decide) (by decide)).mono ?_
    rintro e w8 ⟨k8, rfl, hk8, hr8, hf8⟩
    have hz8 : w7.heap.size < w8.heap.size := by have := hf8.size; simp at this; omega
    replace P2 := P2.drawn hf8 (by omega)
    replace Q := Q.drawn hf8 (by omega)
    replace hA := box_kept hA hf8 (by omega)
    replace hB := box_kept hB hf8 (by omega)
    replace hF := hF.trans (hf8.below hF.size fun k hk e => by omega)
    obtain ⟨bQ, hbQ⟩ : ∃ b, w7.heap.size = b := ⟨_, rfl⟩
    rw [hbQ] at P2 Q hz8 hz7 ⊢
    have hPQ : bP < bQ := by omega
    clear hbQ hf8 hr7
    have q0 := box0 Q.box
    have q1 := box1 Q.box
    have qz := boxz Q.box
    have ql := box_lt Q.box
    have HH := Lib.hid (And.intro P2 (And.intro Q (And.intro (And.intro hA hB) (And.intro hr8 hF))))
    clear P2 Q hA hB hr8 hF
    go_upto_if 21 with fail
    go_cut [] from 7 (fun wc => ∃ (z1 z2 : Value) (B : Asn), BoxA wc g bQ bQ bP (.slice a1' A.1.length c1') (.slice a2' A.2.length c2') A ∧ BoxA wc g bQ bQ bQ z1 z2 B ∧ (wc.heap[w.heap.size]? = some (.cells #[.slice none 0 0, .slice none 0 0] 37 (0, 0)) ∧ wc.heap[w.heap.size + 1]? = some (.cells #[.slice none 0 0, .slice none 0 0] 37 (0, 0))) ∧ Rdr wc g 200 ∧ Below w.heap.size w wc)
    case first =>
      by_cases hk0 : k8 = 0
      · subst hk0
        go_wp2_with fail
        refine (l3Draw_any g _ _ HH.out.2.2.2.1 (by omega)).mono ?_
        rintro e w9 ⟨z1, z2, B', rfl, hv6, t1, t2, hr6, hf6⟩
        obtain ⟨e1', f1', rfl⟩ := t1.form
        obtain ⟨e2', f2', rfl⟩ := t2.form
        have hQ6 := box_kept HH.out.2.1.box hf6 (by omega)
        replace q0 := box0 hQ6
        replace q1 := box1 hQ6
        replace qz := boxz hQ6
        replace ql := box_lt hQ6
        have hz6 := hf6.size
        have hfQ : Fr (fun k => k = bQ) w9 ((w9.setCell ⟨bQ, 0, none⟩ (.slice e1' B'.1.length f1')).setCell ⟨bQ, 1, none⟩ (.slice e2' B'.2.length f2')) := (fr_set w9 ⟨bQ, 0, none⟩ _).trans (fr_set _ ⟨bQ, 1, none⟩ _)
        have HN := Lib.hid (And.intro ((HH.out.1.drawn hf6 (by omega)).kept hfQ (by omega) fun k _ h1 _ e => h1 e) (And.intro (show BoxA ((w9.setCell ⟨bQ, 0, none⟩ (.slice e1' B'.1.length f1')).setCell ⟨bQ, 1, none⟩ (.slice e2' B'.2.length f2')) g bQ bQ bQ (.slice e1' B'.1.length f1') (.slice e2' B'.2.length f2') B' from
            ⟨box_set1 (box_set0 hQ6 _) _, (t1.rl.more fun k hk h => ⟨by have h2 : w8.heap.size ≤ k := h; omega, by have h2 : w8.heap.size ≤ k := h; omega, by have h2 : w8.heap.size ≤ k := h; omega⟩).kept hfQ fun _ _ h e => h.2.1 e, (t2.rl.more fun k hk h => ⟨by have h2 : w8.heap.size ≤ k := h; omega, by have h2 : w8.heap.size ≤ k := h; omega, by have h2 : w8.heap.size ≤ k := h; omega⟩).kept hfQ fun _ _ h e => h.2.1 e, by have := asn_len2 hv6; omega⟩)
          (And.intro (And.intro (box_kept (box_kept HH.out.2.2.1.1 hf6 (by omega)) hfQ (by omega)) (box_kept (box_kept HH.out.2.2.1.2 hf6 (by omega)) hfQ (by omega))) (And.intro ((hr6.more (q' := 200) (by omega)).kept hfQ fun k hk e => by omega) ((HH.out.2.2.2.2.trans (hf6.below HH.out.2.2.2.2.size fun k hk e => by omega)).trans (hfQ.below (by have := HH.out.2.2.2.2.size; omega) fun k hk e => by omega))))))
        clear hQ6 hfQ t1 t2 hr6 hf6 hv6
        go_wp2
        go_meet
        case rel => exact ⟨_, _, B', HN.out.1, HN.out.2.1, HN.out.2.2.1, HN.out.2.2.2.1, HN.out.2.2.2.2⟩
      · have kb0 : ((k8 : Int) == 0) = false := by simp; omega
        go_wp2_with fail
        go_meet
        case rel => exact ⟨_, _, B, HH.out.1, HH.out.2.1, HH.out.2.2.1, HH.out.2.2.2.1.more (by omega), HH.out.2.2.2.2⟩
    case rest =>
      obtain ⟨z1, z2, B', P, Q, ⟨hA, hB⟩, hr9, hF⟩ := hcut
      clear HH q0 q1 qz ql
      obtain ⟨e1', f1', rfl⟩ := Q.f.form
      obtain ⟨e2', f2', rfl⟩ := Q.s.form
      have p0 := box0 P.box
      have p1 := box1 P.box
      have q0 := box0 Q.box
      have q1 := box1 Q.box
      have pl := box_lt P.box
      have ql := box_lt Q.box
      have hgc := hr9.lt
      have HB := Lib.hid (And.intro (And.intro P Q) (And.intro (And.intro hA hB) (And.intro hr9 hF)))
      have hlo := hF.size
      clear P Q hA hB hr9 hF
      go_wp2
      go_region_held3 (fun w' => (w'.cell? ⟨bP, 0, none⟩ = some (.slice a1' A.1.length c1') ∧ w'.cell? ⟨bP, 1, none⟩ = some (.slice a2' A.2.length c2')) ∧ (w'.cell? ⟨bQ, 0, none⟩ = some (.slice e1' B'.1.length f1') ∧ w'.cell? ⟨bQ, 1, none⟩ = some (.slice e2' B'.2.length f2')))
        (first
          | (have _h := zq0; exact ⟨⟨(by repeat (first | with_reducible exact zp0 | (with_reducible refine (fr_set _ _ _).cell (by first | (simp; done) | (simp; omega) | omega) ?_) | exact cell_keep Bl zp0)), (by repeat (first | with_reducible exact zp1 | (with_reducible refine (fr_set _ _ _).cell (by first | (simp; done) | (simp; omega) | omega) ?_) | exact cell_keep Bl zp1))⟩, (by repeat (first | with_reducible exact zq0 | (with_reducible refine (fr_set _ _ _).cell (by first | (simp; done) | (simp; omega) | omega) ?_) | exact cell_keep Bl zq0)), (by repeat (first | with_reducible exact zq1 | (with_reducible refine (fr_set _ _ _).cell (by first | (simp; done) | (simp; omega) | omega) ?_) | exact cell_keep Bl zq1))⟩)
          | (have _h := yq0; exact ⟨⟨(by repeat (first | with_reducible exact yp0 | (with_reducible refine (fr_set _ _ _).cell (by first | (simp; done) | (simp; omega) | omega) ?_) | exact cell_keep Bl yp0)), (by repeat (first | with_reducible exact yp1 | (with_reducible refine (fr_set _ _ _).cell (by first | (simp; done) | (simp; omega) | omega) ?_) | exact cell_keep Bl yp1))⟩, (by repeat (first | with_reducible exact yq0 | (with_reducible refine (fr_set _ _ _).cell (by first | (simp; done) | (simp; omega) | omega) ?_) | exact cell_keep Bl yq0)), (by repeat (first | with_reducible exact yq1 | (with_reducible refine (fr_set _ _ _).cell (by first | (simp; done) | (simp; omega) | omega) ?_) | exact cell_keep Bl yq1))⟩)
          | exact ⟨⟨cell_keep Bl p0, cell_keep Bl p1⟩, cell_keep Bl q0, cell_keep Bl q1⟩)
        (first
          | (go_at_call 55; have _h := H10; go_must (refine (l3Mutate_any g _ _ _ B' _ (H10.out.2.1.keep Bl) (by omega) ((HB.out.1.2.f.kept hf10 fun _ _ h e => h.1 e).keep Bl) ((HB.out.1.2.s.kept hf10 fun _ _ h e => h.1 e).keep Bl) (by have := HB.out.1.2.len; exact ⟨by omega, by omega⟩)).mono ?_; rintro e w11 ⟨x1, x2, B2, rfl, hbl, o1, o2, hr11, hf11⟩; obtain ⟨xa1, xc1, rfl⟩ := o1.form; obtain ⟨xa2, xc2, rfl⟩ := o2.form; have hz11 := hf11.size; have zp0 := hf11.cell (by show ¬ bP = g; omega) yp0; have zp1 := hf11.cell (by show ¬ bP = g; omega) yp1; have zq0 := hf11.cell (by show ¬ bQ = g; omega) yq0; have zq1 := hf11.cell (by show ¬ bQ = g; omega) yq1; have hA9 := box_kept (box_kept HB.out.2.1.1 hf10 (by omega)) hf11 (by omega); have hB9 := box_kept (box_kept HB.out.2.1.2 hf10 (by omega)) hf11 (by omega); have a0' := box0 hA9; have a1'' := box1 hA9; have az := boxz hA9; have al := box_lt hA9; have b0 := box0 hB9; have b1' := box1 hB9; have bz := boxz hB9; have bl := box_lt hB9; have H11 := Lib.hid (And.intro (And.intro o1.rl o2.rl) (And.intro hf11 hbl)); clear o1 o2 hr11 hbl hA9 hB9))
          | (go_at_call 55; go_must (refine (l3Mutate_any g _ _ _ A _ (HB.out.2.2.1.keep Bl) (by omega) (HB.out.1.1.f.keep Bl) (HB.out.1.1.s.keep Bl) (by have := HB.out.1.1.len; exact ⟨by omega, by omega⟩)).mono ?_; rintro e w10 ⟨u1, u2, A', rfl, hAl, o1, o2, hr10, hf10'⟩; obtain ⟨ua1, uc1, rfl⟩ := o1.form; obtain ⟨ua2, uc2, rfl⟩ := o2.form; have hf10 : Fr (fun j => j = g) wc w10 := Fr.trans ((Below.fr (below_drew wc)).mono fun _ _ h => h.elim) hf10'; have hz10 := hf10.size; have yp0 := hf10.cell (by show ¬ bP = g; omega) p0; have yp1 := hf10.cell (by show ¬ bP = g; omega) p1; have yq0 := hf10.cell (by show ¬ bQ = g; omega) q0; have yq1 := hf10.cell (by show ¬ bQ = g; omega) q1; have H10 := Lib.hid (And.intro (And.intro o1.rl o2.rl) (And.intro hr10 hAl)); clear o1 o2 hr10 hAl hf10')))
      all_goals
        clear yq0 yq1 yp0 yp1 zq0 zq1 zp0 zp1
        go_wp2
        refine bodyPost_ret (v := .tuple #[.agg #[.slice ua1 A'.1.length uc1, .slice ua2 A'.2.length uc2], .agg #[.slice xa1 B2.1.length xc1, .slice xa2 B2.2.length xc2]]) (by simp [results, Tryz.results36, go_sem, a0', a1'', b0, b1']) rfl ?_
        have hFF := fr_res4E w11 w.heap.size (.slice ua1 A'.1.length uc1) (.slice ua2 A'.2.length uc2) (.slice xa1 B2.1.length xc1) (.slice xa2 B2.2.length xc2)
        have j1 := ((H10.out.1.1.more (S' := fun k => w.heap.size + 2 ≤ k ∧ ¬ k = g) fun k hk h => by simp at h; omega).kept H11.out.2.1 fun _ _ h e => h.2 e).kept hFF fun k _ h e => by omega
        have j2 := ((H10.out.1.2.more (S' := fun k => w.heap.size + 2 ≤ k ∧ ¬ k = g) fun k hk h => by simp at h; omega).kept H11.out.2.1 fun _ _ h e => h.2 e).kept hFF fun k _ h e => by omega
        have x1 := (H11.out.1.1.more (S' := fun k => w.heap.size + 2 ≤ k) fun k _ h => by have h2 : w10.heap.size ≤ k := h; omega).kept hFF fun k _ h e => by omega
        have x2 := (H11.out.1.2.more (S' := fun k => w.heap.size + 2 ≤ k) fun k _ h => by have h2 : w10.heap.size ≤ k := h; omega).kept hFF fun k _ h e => by omega
        refine ⟨_, _, _, _, A', B2, rfl, ?_, ⟨j1.more fun _ _ h => h.1, j2.more fun _ _ h => h.1⟩, ⟨x1, x2⟩, ?_⟩
        · have e1 := H10.out.2.2
          have e2 := H11.out.2.2
          have e3 := HB.out.1.1.len
          have e4 := HB.out.1.2.len
          omega
        · exact ((HB.out.2.2.2.trans (hf10.below hlo fun k hk e => by omega)).trans (H11.out.2.1.below (by omega) fun k hk e => by omega)).trans (hFF.below (by omega) fun k hk e => by omega)
end Go.Proofs.YtdjfdopgjlbloaaGreatDoor
/- Walks: drawing the arguments of laws of entailment. -/
namespace Go.Proofs.YtdjfdopgjlbloaaGreatDoor
open Go.RowKit

/-- Two drawn assertions. -/
def Two (w w' : World) (u1 u2 t1 t2 : Value) (A B : Asn) : Prop := ((A.1.length ≤ 1100 ∧ A.2.length ≤ 1100) ∧ (B.1.length ≤ 1100 ∧ B.2.length ≤ 1100)) ∧
      (RL w' (fun k => w.heap.size + 2 ≤ k) u1 A.1 ∧ RL w' (fun k => w.heap.size + 2 ≤ k) u2 A.2) ∧ (RL w' (fun k => w.heap.size + 2 ≤ k) t1 B.1 ∧ RL w' (fun k => w.heap.size + 2 ≤ k) t2 B.2) ∧ Below w.heap.size w w'
/-- The results are laid in their boxes. -/
theorem two_lay {w w1 : World} {x1 x2 y1 y2 : Value} {A B : Asn} {S : Nat → Prop} (hs : ∀ k, S k → w.heap.size + 2 ≤ k) (hl : (A.1.length ≤ 1100 ∧ A.2.length ≤ 1100) ∧ (B.1.length ≤ 1100 ∧ B.2.length ≤ 1100)) (r1 : RL w1 S x1 A.1) (r2 : RL w1 S x2 A.2) (s1 : RL w1 S y1 B.1) (s2 : RL w1 S y2 B.2) (hb : Below w.heap.size w w1) :
    Two w ((((w1.setCell ⟨w.heap.size, 0, none⟩ x1).setCell ⟨w.heap.size, 1, none⟩ x2).setCell ⟨w.heap.size + 1, 0, none⟩ y1).setCell ⟨w.heap.size + 1, 1, none⟩ y2) x1 x2 y1 y2 A B := by
  have hFF := fr_res4E w1 w.heap.size x1 x2 y1 y2
  have K : ∀ {α : Type} [Dat α] {v : Value} {l : List α}, RL w1 S v l → RL ((((w1.setCell ⟨w.heap.size, 0, none⟩ x1).setCell ⟨w.heap.size, 1, none⟩ x2).setCell ⟨w.heap.size + 1, 0, none⟩ y1).setCell ⟨w.heap.size + 1, 1, none⟩ y2) (fun k => w.heap.size + 2 ≤ k) v l :=
    fun h => (h.more fun k _ h => hs k h).kept hFF fun k _ h e => by omega
  exact ⟨hl, ⟨K r1, K r2⟩, ⟨K s1, K s2⟩, hb.trans (hFF.below hb.size fun k hk e => by omega)⟩
end Go.Proofs.YtdjfdopgjlbloaaGreatDoor
