/- Walks: drawn assertions and a drawn proof of a case (DrawCheckCase). -/
import Derived.Test.YtdjfdopgjlbloaaGreatDoorWMu16
import Derived.Test.YtdjfdopgjlbloaaGreatDoorWDEntC
import Derived.Deep.Cut
set_option linter.unusedSimpArgs false
set_option linter.unusedVariables false
namespace Go.Proofs.YtdjfdopgjlbloaaGreatDoor
open Go.RowKit

theorem le_sum : ∀ (l : List (List Int)) (u : List Int), u ∈ l → u.length ≤ (l.map (Mk.size (α := List Int))).sum
  | [], u, h => by cases h
  | x :: l, u, h => by
    rw [List.map_cons, List.sum_cons]
    rcases List.mem_cons.1 h with e | e
    · subst e; have e3 : Mk.size u = u.length := rfl
      omega
    · have := le_sum l u e; omega
theorem small_parts {p : CPf} {c : Nat} (h : Mk.size p ≤ c) : p.1.length ≤ c ∧ p.2.length ≤ c ∧ ∀ u ∈ p.2, u.length ≤ c := by
  have h2 : p.1.length + (p.2.length + (p.2.map (Mk.size (α := List Int))).sum) ≤ c := h
  refine ⟨by omega, by omega, fun u hu => ?_⟩
  have h3 : u.length ≤ (p.2.map (Mk.size (α := List Int))).sum := le_sum _ _ hu
  omega
/-- Two cells of three neighbouring blocks are written. -/
theorem fr_six (w : World) (b : Nat) (x0 x1 y0 y1 z0 z1 : Value) : Fr (fun j => b ≤ j ∧ j ≤ b + 2) w ((((((w.setCell ⟨b, 0, none⟩ x0).setCell ⟨b, 1, none⟩ x1).setCell ⟨b + 1, 0, none⟩ y0).setCell ⟨b + 1, 1, none⟩ y1).setCell ⟨b + 1 + 1, 0, none⟩ z0).setCell ⟨b + 1 + 1, 1, none⟩ z1) := by
  have h : ∀ (w : World) (p : Addr) (v : Value), b ≤ p.block ∧ p.block ≤ b + 2 → Fr (fun j => b ≤ j ∧ j ≤ b + 2) w (w.setCell p v) := fun w p v hp => (fr_set w p v).mono fun j _ e => by
    have e2 : j = p.block := e
    rw [e2]; exact hp
  exact (((((h _ _ _ ⟨by simp only; omega, by simp only; omega⟩).trans (h _ _ _ ⟨by simp only; omega, by simp only; omega⟩)).trans (h _ _ _ ⟨by simp only; omega, by simp only; omega⟩)).trans (h _ _ _ ⟨by simp only; omega, by simp only; omega⟩)).trans (h _ _ _ ⟨by simp only; omega, by simp only; omega⟩)).trans (h _ _ _ ⟨by simp only; omega, by simp only; omega⟩)
theorem six_end {w w4 w5 : World} {S T1 : Nat → Prop} {u1 u2 t1 t2 y1 y2 : Value} {A B : Asn} {p : CPf} (r1 : RL w4 S u1 A.1) (r2 : RL w4 S u2 A.2) (s1 : RL w4 S t1 B.1) (s2 : RL w4 S t2 B.2) (m1 : RL w4 T1 y1 p.1) (m2 : RL w4 T1 y2 p.2)
    (hb : Below w.heap.size w w4) (hS : ∀ k, S k → w.heap.size + 2 < k) (hT : ∀ k, T1 k → w.heap.size + 2 < k) (hF : Fr (fun j => w.heap.size ≤ j ∧ j ≤ w.heap.size + 2) w4 w5) :
    ∃ (a1 a2 b1 b2 c1 c2 : Value) (A' B' : Asn) (p' : CPf), Ending.returned (.tuple #[.agg #[u1, u2], .agg #[t1, t2], .agg #[y1, y2]]) = .returned (.tuple #[.agg #[a1, a2], .agg #[b1, b2], .agg #[c1, c2]]) ∧
      (RL w5 (fun _ => True) a1 A'.1 ∧ RL w5 (fun _ => True) a2 A'.2) ∧ (RL w5 (fun _ => True) b1 B'.1 ∧ RL w5 (fun _ => True) b2 B'.2) ∧ (RL w5 (fun k => w.heap.size ≤ k) c1 p'.1 ∧ RL w5 (fun k => w.heap.size ≤ k) c2 p'.2) ∧ Below w.heap.size w w5 := by
  have kS : ∀ k, k < w4.heap.size → S k → ¬ (w.heap.size ≤ k ∧ k ≤ w.heap.size + 2) := fun k _ h e => by have := hS k h; omega
  have kT : ∀ k, k < w4.heap.size → T1 k → ¬ (w.heap.size ≤ k ∧ k ≤ w.heap.size + 2) := fun k _ h e => by have := hT k h; omega
  exact ⟨_, _, _, _, _, _, A, B, p, rfl, ⟨(r1.kept hF kS).any, (r2.kept hF kS).any⟩, ⟨(s1.kept hF kS).any, (s2.kept hF kS).any⟩, ⟨(m1.kept hF kT).more fun k _ h => by have := hT k h; omega, (m2.kept hF kT).more fun k _ h => by have := hT k h; omega⟩, hb.trans (hF.below hb.size fun k hk e => by omega)⟩
set_option maxRecDepth 100000 in
set_option maxHeartbeats 12800000 in
theorem specDrawCheckCase_any (v : Value) (n : Nat) (w : World) (h : RBytes w v n) :
    Calls Tryz.prog 11 #[v] w fun e w' => ∃ (u1 u2 t1 t2 y1 y2 : Value) (A B : Asn) (p : CPf), e = .returned (.tuple #[.agg #[u1, u2], .agg #[t1, t2], .agg #[y1, y2]]) ∧
      (RL w' (fun _ => True) u1 A.1 ∧ RL w' (fun _ => True) u2 A.2) ∧ (RL w' (fun _ => True) t1 B.1 ∧ RL w' (fun _ => True) t2 B.2) ∧ (RL w' (fun k => w.heap.size ≤ k) y1 p.1 ∧ RL w' (fun k => w.heap.size ≤ k) y2 p.2) ∧ Below w.heap.size w w' := by
  obtain ⟨va, vc, rfl⟩ := bytes_form h
  have b0 : Below w.heap.size w (((w.alloc (.cells #[.slice none 0 0, .slice none 0 0] 37)).alloc (.cells #[.slice none 0 0, .slice none 0 0] 37)).alloc (.cells #[.slice none 0 0, .slice none 0 0] 26)) := Bl
  have hA := heap_alloc_new w (.cells #[.slice none 0 0, .slice none 0 0] 37)
  replace hA := box_keep (box_keep hA (below_alloc _ (.cells #[.slice none 0 0, .slice none 0 0] 37))) (below_alloc _ (.cells #[.slice none 0 0, .slice none 0 0] 26))
  have hB := box_keep (heap_alloc_new (w.alloc (.cells #[.slice none 0 0, .slice none 0 0] 37)) (.cells #[.slice none 0 0, .slice none 0 0] 37)) (below_alloc _ (.cells #[.slice none 0 0, .slice none 0 0] 26))
  have hT := heap_alloc_new ((w.alloc (.cells #[.slice none 0 0, .slice none 0 0] 37)).alloc (.cells #[.slice none 0 0, .slice none 0 0] 37)) (.cells #[.slice none 0 0, .slice none 0 0] 26)
  simp only [World.size_alloc] at hB hT
  go_enter Tryz.func11, Tryz.ntmps11
  go_wp2_with fail
  refine (specDrawEntCase_any _ n _ (h.keep b0)).mono ?_
  rintro e w1 ⟨u1, u2, t1, t2, cv, A, B, C, rfl, ⟨hl, ⟨r1, r2⟩, ⟨s1, s2⟩, hb⟩, hc, hC⟩
  replace hA := box_keep hA hb
  replace hB := box_keep hB hb
  replace hT := box_keep hT hb
  have hz1 := hb.size
  simp only [World.size_alloc] at r1 r2 s1 s2 hc hz1
  obtain ⟨a1, c1, rfl⟩ := r1.form
  obtain ⟨a2, c2, rfl⟩ := r2.form
  obtain ⟨a3, c3, rfl⟩ := s1.form
  obtain ⟨a4, c4, rfl⟩ := s2.form
  obtain ⟨a5, c5, rfl⟩ := hc.form
  have HW := Lib.hid (And.intro (bt b0 hb) h)
  clear hb b0 h hl
  have hbW : Below w1.heap.size w1 ((w1.alloc (.cells #[.slice a1 A.1.length c1, .slice a2 A.2.length c2] 37)).alloc (.cells #[.slice a3 B.1.length c3, .slice a4 B.2.length c4] 37)) := ba (below_alloc _ _) _
  go_wp2_with fail
  refine (proveS_any _ _ _ _ _ A B C _ (r1.keep hbW) (r2.keep hbW) (s1.keep hbW) (s2.keep hbW) (hc.keep hbW)).mono ?_
  rintro e w2 ⟨y1, y2, rfl, ⟨p1, p2⟩, hb2⟩
  have hsm := small_parts (Nat.le_trans (prove_small A B C) (by decide : 60 ≤ 1048576))
  obtain ⟨D, hD⟩ : ∃ D, D = proveR A B C := ⟨_, rfl⟩
  rw [← hD] at p1 p2 hsm
  clear hD
  obtain ⟨d1, e1, rfl⟩ := p1.form
  obtain ⟨d2, e2, rfl⟩ := p2.form
  have hbx := below_alloc w2 (.cells #[.slice d1 D.1.length e1, .slice d2 D.2.length e2] 26)
  have qp := heap_alloc_new w2 (.cells #[.slice d1 D.1.length e1, .slice d2 D.2.length e2] 26)
  have hzW : (w2.alloc (.cells #[.slice d1 D.1.length e1, .slice d2 D.2.length e2] 26)).heap.size = w2.heap.size + 1 := by simp
  have hbAll := bt hbW (bt hb2 hbx)
  have qA := box_keep (box_keep (heap_alloc_new w1 (.cells #[.slice a1 A.1.length c1, .slice a2 A.2.length c2] 37)) (below_alloc _ (.cells #[.slice a3 B.1.length c3, .slice a4 B.2.length c4] 37))) (bt hb2 hbx)
  have qB := box_keep (heap_alloc_new (w1.alloc (.cells #[.slice a1 A.1.length c1, .slice a2 A.2.length c2] 37)) (.cells #[.slice a3 B.1.length c3, .slice a4 B.2.length c4] 37)) (bt hb2 hbx)
  simp only [World.size_alloc] at qB
  have hz2 := hb2.size
  simp only [World.size_alloc] at hz2
  have qa0 := box0 qA
  have qa1 := box1 qA
  have qb0 := box0 qB
  have qb1 := box1 qB
  have qp0 := box0 qp
  have qp1 := box1 qp
  have HN := Lib.hid (HW.out.2.keep (bt HW.out.1 hbAll))
  have HP := Lib.hid (And.intro (And.intro (p1.keep hbx) (p2.keep hbx)) hsm)
  replace hA := box_keep hA hbAll
  replace hB := box_keep hB hbAll
  replace hT := box_keep hT hbAll
  have HR := Lib.hid (And.intro (And.intro (r1.keep hbAll) (r2.keep hbAll)) (And.intro (And.intro (s1.keep hbAll) (s2.keep hbAll)) (bt HW.out.1 hbAll)))
  go_upto_region 3 with fail
  generalize (w2.alloc (.cells #[.slice d1 D.1.length e1, .slice d2 D.2.length e2] 26)) = W at *
  clear r1 r2 s1 s2 hc hC HW hbW p1 p2 hb2 hsm hbx qp hbAll qA qB
  refine wp_region_late (S := (fun w' => (w'.cell? ⟨w1.heap.size, 0, none⟩ = some (.slice a1 A.1.length c1) ∧ w'.cell? ⟨w1.heap.size, 1, none⟩ = some (.slice a2 A.2.length c2)) ∧ (w'.cell? ⟨w1.heap.size + 1, 0, none⟩ = some (.slice a3 B.1.length c3) ∧ w'.cell? ⟨w1.heap.size + 1, 1, none⟩ = some (.slice a4 B.2.length c4)) ∧ (w'.cell? ⟨w2.heap.size, 0, none⟩ = some (.slice d1 D.1.length e1) ∧ w'.cell? ⟨w2.heap.size, 1, none⟩ = some (.slice d2 D.2.length e2)))) (dep := [8]) (by kernel_rfl) (⟨⟨cell_keep (below_drew _) qa0, cell_keep (below_drew _) qa1⟩, ⟨cell_keep (below_drew _) qb0, cell_keep (below_drew _) qb1⟩, ⟨cell_keep (below_drew _) qp0, cell_keep (below_drew _) qp1⟩⟩ : (_ ∧ _) ∧ (_ ∧ _) ∧ (_ ∧ _)) (fun hHeld => ?_)
  refine wpAnyD_free (i := 2) (oi := _) (v := ?_) rfl (by kernel_rfl) (by kernel_rfl) (by kernel_rfl) (by kernel_rfl) (fun _ _ _ h => h) (Or.inl ⟨by rfl, ?_⟩) hHeld (fun hHeld => ?_)
  rotate_left
  · (intro w _; first | (go_simp; done) | (go_simp; with_reducible rfl))
  try simp only [Act.put, List.setIfInBounds_toArray, List.set_cons_zero, List.set_cons_succ]
  refine wpAnyD_take (i := 0) (oi := _) (v := ?_) rfl (by kernel_rfl) (by kernel_rfl) (by kernel_rfl) (by kernel_rfl) (by kernel_rfl) (fun _ _ _ h => h) (Or.inl ⟨by rfl, ?_⟩) (hHeld (early_of (by kernel_rfl))) ?_
  rotate_left
  · (intro w hSw; (try dsimp only at hSw); first | (go_simp; done) | (go_simp; with_reducible rfl))
  try simp only [Act.put, List.setIfInBounds_toArray, List.set_cons_zero, List.set_cons_succ]
  replace hHeld := fun (he : Early _ _) => hHeld (Early.of_set (i := 0) he (by decide))
  refine wpAnyD_take (i := 1) (oi := _) (v := ?_) rfl (by kernel_rfl) (by kernel_rfl) (by kernel_rfl) (by kernel_rfl) (by kernel_rfl) (fun _ _ _ h => h) (Or.inl ⟨by rfl, ?_⟩) (hHeld (early_of (by kernel_rfl))) ?_
  rotate_left
  · (intro w hSw; (try dsimp only at hSw); first | (go_simp; done) | (go_simp; with_reducible rfl))
  try simp only [Act.put, List.setIfInBounds_toArray, List.set_cons_zero, List.set_cons_succ]
  replace hHeld := fun (he : Early _ _) => hHeld (Early.of_set (i := 1) he (by decide))
  refine wpAnyD_take (i := 4) (oi := _) (v := ?_) rfl (by kernel_rfl) (by kernel_rfl) (by kernel_rfl) (by kernel_rfl) (by kernel_rfl) (fun _ _ _ h => h) (Or.inl ⟨by rfl, ?_⟩) (hHeld (early_of (by kernel_rfl))) ?_
  rotate_left
  · (intro w hSw; (try dsimp only at hSw); first | (go_simp; done) | (go_simp; with_reducible rfl))
  try simp only [Act.put, List.setIfInBounds_toArray, List.set_cons_zero, List.set_cons_succ]
  replace hHeld := fun (he : Early _ _) => hHeld (Early.of_set (i := 4) he (by decide))
  refine wpAnyD_ready (rs := [3]) (by kernel_rfl) (by simp) ?_
  refine (AllReadyD.cons (o := _) rfl (fun K hK => ?_) AllReadyD.nil)
  clear hHeld
  go_simp
  (go_at_call 26; refine (l18Open_any _ n _ (HN.out.keep (below_drew W))).mono ?_; rintro e w3 ⟨rfl, hr3, hb3⟩)
  have hb3w : Below W.heap.size W w3 := bt (below_drew W) hb3
  have hr3w : Rdr w3 (w2.heap.size + 1) 0 := by rw [← hzW]; exact hr3
  replace qa0 := cell_keep hb3w qa0
  replace qa1 := cell_keep hb3w qa1
  replace qb0 := cell_keep hb3w qb0
  replace qb1 := cell_keep hb3w qb1
  replace qp0 := cell_keep hb3w qp0
  replace qp1 := cell_keep hb3w qp1
  have H3 := Lib.hid (And.intro hb3w hr3w)
  have hs3 := hr3w.lt
  clear hb3 hb3w hr3 hr3w
  go_wp2_with fail
  refine hK.out _ _ ?_ (fun hHeld => ?_)
  · exact fun _ => (⟨⟨qa0, qa1⟩, ⟨qb0, qb1⟩, ⟨qp0, qp1⟩⟩ : (_ ∧ _) ∧ (_ ∧ _) ∧ (_ ∧ _))
  clear hK K
  try simp only [Act.put, List.setIfInBounds_toArray, List.set_cons_zero, List.set_cons_succ]
  refine wpAnyD_ready (rs := [5]) (by kernel_rfl) (by simp) ?_
  refine (AllReadyD.cons (o := _) rfl (fun K hK => ?_) AllReadyD.nil)
  clear hHeld
  go_simp
  (go_at_call 29; refine (l16Mutate_any (w2.heap.size + 1) 0 _ _ D _ H3.out.2 (by omega) (HP.out.1.1.keep H3.out.1) (HP.out.1.2.keep H3.out.1) HP.out.2.1 HP.out.2.2.1 HP.out.2.2.2).mono ?_; rintro e w4 ⟨z1, z2, p4, rfl, ⟨m1, m2⟩, _, hf4⟩)
  obtain ⟨f1, f2, f3, rfl⟩ := m1.forms
  obtain ⟨f4, f5, f6, rfl⟩ := m2.forms
  replace qa0 := hf4.cell (by show ¬ w1.heap.size = w2.heap.size + 1; omega) qa0
  replace qa1 := hf4.cell (by show ¬ w1.heap.size = w2.heap.size + 1; omega) qa1
  replace qb0 := hf4.cell (by show ¬ w1.heap.size + 1 = w2.heap.size + 1; omega) qb0
  replace qb1 := hf4.cell (by show ¬ w1.heap.size + 1 = w2.heap.size + 1; omega) qb1
  replace qp0 := hf4.cell (by show ¬ w2.heap.size = w2.heap.size + 1; omega) qp0
  replace qp1 := hf4.cell (by show ¬ w2.heap.size = w2.heap.size + 1; omega) qp1
  have H4 := Lib.hid (And.intro (And.intro m1 m2) hf4)
  have xA := box_kept (box_keep hA H3.out.1) hf4 (by show ¬ w.heap.size = w2.heap.size + 1; omega)
  have xB := box_kept (box_keep hB H3.out.1) hf4 (by show ¬ w.heap.size + 1 = w2.heap.size + 1; omega)
  have xT := box_kept (box_keep hT H3.out.1) hf4 (by show ¬ w.heap.size + 1 + 1 = w2.heap.size + 1; omega)
  have xa0 := box0 xA
  have xa1 := box1 xA
  have xaz := boxz xA
  have xb0 := box0 xB
  have xb1 := box1 xB
  have xbz := boxz xB
  have xt0 := box0 xT
  have xt1 := box1 xT
  have xtz := boxz xT
  have xal := box_lt xA
  have xbl := box_lt xB
  have xtl := box_lt xT
  clear m1 m2 hf4 xA xB xT
  go_wp2_with fail
  refine hK.out _ _ ?_ (fun hHeld => ?_)
  · exact fun _ => (⟨⟨qa0, qa1⟩, ⟨qb0, qb1⟩, ⟨qp0, qp1⟩⟩ : (_ ∧ _) ∧ (_ ∧ _) ∧ (_ ∧ _))
  clear hK K
  try simp only [Act.put, List.setIfInBounds_toArray, List.set_cons_zero, List.set_cons_succ]
  refine wpAnyD_ready (rs := [6]) (by kernel_rfl) (by simp) ?_
  refine (AllReadyD.cons (o := _) rfl (fun K hK => ?_) AllReadyD.nil)
  clear hHeld
  go_simp
  refine hK.out _ _ ?_ (fun hHeld => ?_)
  · exact fun _ => (⟨⟨((fr_set w4 ⟨w.heap.size, 0, none⟩ (.slice a1 A.1.length c1)).then (fr_set _ ⟨w.heap.size, 1, none⟩ (.slice a2 A.2.length c2)) fun _ _ e => e).cell (by simp only; omega) qa0, ((fr_set w4 ⟨w.heap.size, 0, none⟩ (.slice a1 A.1.length c1)).then (fr_set _ ⟨w.heap.size, 1, none⟩ (.slice a2 A.2.length c2)) fun _ _ e => e).cell (by simp only; omega) qa1⟩, ⟨((fr_set w4 ⟨w.heap.size, 0, none⟩ (.slice a1 A.1.length c1)).then (fr_set _ ⟨w.heap.size, 1, none⟩ (.slice a2 A.2.length c2)) fun _ _ e => e).cell (by simp only; omega) qb0, ((fr_set w4 ⟨w.heap.size, 0, none⟩ (.slice a1 A.1.length c1)).then (fr_set _ ⟨w.heap.size, 1, none⟩ (.slice a2 A.2.length c2)) fun _ _ e => e).cell (by simp only; omega) qb1⟩, ⟨((fr_set w4 ⟨w.heap.size, 0, none⟩ (.slice a1 A.1.length c1)).then (fr_set _ ⟨w.heap.size, 1, none⟩ (.slice a2 A.2.length c2)) fun _ _ e => e).cell (by simp only; omega) qp0, ((fr_set w4 ⟨w.heap.size, 0, none⟩ (.slice a1 A.1.length c1)).then (fr_set _ ⟨w.heap.size, 1, none⟩ (.slice a2 A.2.length c2)) fun _ _ e => e).cell (by simp only; omega) qp1⟩⟩ : (_ ∧ _) ∧ (_ ∧ _) ∧ (_ ∧ _))
  clear hK K
  try simp only [Act.put, List.setIfInBounds_toArray, List.set_cons_zero, List.set_cons_succ]
  refine wpAnyD_ready (rs := [7]) (by kernel_rfl) (by simp) ?_
  refine (AllReadyD.cons (o := _) rfl (fun K hK => ?_) AllReadyD.nil)
  clear hHeld
  go_simp
  refine hK.out _ _ ?_ (fun hHeld => ?_)
  · exact fun _ => (⟨⟨((fr_set _ ⟨w.heap.size + 1, 0, none⟩ (.slice a3 B.1.length c3)).then (fr_set _ ⟨w.heap.size + 1, 1, none⟩ (.slice a4 B.2.length c4)) fun _ _ e => e).cell (by simp only; omega) (((fr_set w4 ⟨w.heap.size, 0, none⟩ (.slice a1 A.1.length c1)).then (fr_set _ ⟨w.heap.size, 1, none⟩ (.slice a2 A.2.length c2)) fun _ _ e => e).cell (by simp only; omega) qa0), ((fr_set _ ⟨w.heap.size + 1, 0, none⟩ (.slice a3 B.1.length c3)).then (fr_set _ ⟨w.heap.size + 1, 1, none⟩ (.slice a4 B.2.length c4)) fun _ _ e => e).cell (by simp only; omega) (((fr_set w4 ⟨w.heap.size, 0, none⟩ (.slice a1 A.1.length c1)).then (fr_set _ ⟨w.heap.size, 1, none⟩ (.slice a2 A.2.length c2)) fun _ _ e => e).cell (by simp only; omega) qa1)⟩, ⟨((fr_set _ ⟨w.heap.size + 1, 0, none⟩ (.slice a3 B.1.length c3)).then (fr_set _ ⟨w.heap.size + 1, 1, none⟩ (.slice a4 B.2.length c4)) fun _ _ e => e).cell (by simp only; omega) (((fr_set w4 ⟨w.heap.size, 0, none⟩ (.slice a1 A.1.length c1)).then (fr_set _ ⟨w.heap.size, 1, none⟩ (.slice a2 A.2.length c2)) fun _ _ e => e).cell (by simp only; omega) qb0), ((fr_set _ ⟨w.heap.size + 1, 0, none⟩ (.slice a3 B.1.length c3)).then (fr_set _ ⟨w.heap.size + 1, 1, none⟩ (.slice a4 B.2.length c4)) fun _ _ e => e).cell (by simp only; omega) (((fr_set w4 ⟨w.heap.size, 0, none⟩ (.slice a1 A.1.length c1)).then (fr_set _ ⟨w.heap.size, 1, none⟩ (.slice a2 A.2.length c2)) fun _ _ e => e).cell (by simp only; omega) qb1)⟩, ⟨((fr_set _ ⟨w.heap.size + 1, 0, none⟩ (.slice a3 B.1.length c3)).then (fr_set _ ⟨w.heap.size + 1, 1, none⟩ (.slice a4 B.2.length c4)) fun _ _ e => e).cell (by simp only; omega) (((fr_set w4 ⟨w.heap.size, 0, none⟩ (.slice a1 A.1.length c1)).then (fr_set _ ⟨w.heap.size, 1, none⟩ (.slice a2 A.2.length c2)) fun _ _ e => e).cell (by simp only; omega) qp0), ((fr_set _ ⟨w.heap.size + 1, 0, none⟩ (.slice a3 B.1.length c3)).then (fr_set _ ⟨w.heap.size + 1, 1, none⟩ (.slice a4 B.2.length c4)) fun _ _ e => e).cell (by simp only; omega) (((fr_set w4 ⟨w.heap.size, 0, none⟩ (.slice a1 A.1.length c1)).then (fr_set _ ⟨w.heap.size, 1, none⟩ (.slice a2 A.2.length c2)) fun _ _ e => e).cell (by simp only; omega) qp1)⟩⟩ : (_ ∧ _) ∧ (_ ∧ _) ∧ (_ ∧ _))
  clear hK K
  try simp only [Act.put, List.setIfInBounds_toArray, List.set_cons_zero, List.set_cons_succ]
  refine wpAnyD_ready (rs := [8]) (by kernel_rfl) (by simp) ?_
  refine (AllReadyD.cons (o := _) rfl (fun K hK => ?_) AllReadyD.nil)
  clear hHeld
  go_simp
  refine hK.out _ _ ?_ (fun hHeld => ?_)
  · exact late_none (by kernel_rfl)
  clear hK K
  try simp only [Act.put, List.setIfInBounds_toArray, List.set_cons_zero, List.set_cons_succ]
  refine wpAnyD_done (by kernel_rfl) ?_ _
  clear hHeld
  have hb4 : Below W.heap.size W w4 := H3.out.1.trans (H4.out.2.below H3.out.1.size fun k hk e => by have e2 : k = w2.heap.size + 1 := e; omega)
  have hF := fr_six w4 w.heap.size (.slice a1 A.1.length c1) (.slice a2 A.2.length c2) (.slice a3 B.1.length c3) (.slice a4 B.2.length c4) (.slice f1 f2 f3) (.slice f4 f5 f6)
  have hsz4 := hb4.size
  have HEND := Lib.hid (six_end (p := p4) (HR.out.1.1.keep hb4) (HR.out.1.2.keep hb4) (HR.out.2.1.1.keep hb4) (HR.out.2.1.2.keep hb4) H4.out.1.1 H4.out.1.2 (bt HR.out.2.2 hb4) (fun k hs => by have h2 : w.heap.size + 1 + 1 + 1 + 2 ≤ k := hs; omega) (fun k hs => by have h2 : w3.heap.size ≤ k := hs; omega) hF)
  clear hb4 hF hsz4
  go_wp2
  refine bodyPost_ret (v := .tuple #[.agg #[.slice a1 A.1.length c1, .slice a2 A.2.length c2], .agg #[.slice a3 B.1.length c3, .slice a4 B.2.length c4], .agg #[.slice f1 f2 f3, .slice f4 f5 f6]]) (by simp [results, Tryz.results11, go_sem, xa0, xa1, xb0, xb1, xt0, xt1]) rfl ?_
  obtain ⟨g1, g2, g3, g4, g5, g6, A9, B9, p9, he, ⟨q1, q2⟩, ⟨q3, q4⟩, ⟨q5, q6⟩, hb9⟩ := HEND.out
  exact ⟨g1, g2, g3, g4, g5, g6, he, ⟨⟨_, q1⟩, ⟨_, q2⟩⟩, ⟨⟨_, q3⟩, ⟨_, q4⟩⟩, ⟨⟨_, q5⟩, ⟨_, q6⟩⟩, hb9⟩
end Go.Proofs.YtdjfdopgjlbloaaGreatDoor
