/- Walks: drawn assertions and a drawn proof of a case (DrawCheckCase). -/
import Derived.Test.YtapoillhgimdiaaQMu16
import Derived.Test.YtapoillhgimdiaaQDEntC
import Derived.Deep.Cut
import Derived.Test.YtapoillhgimdiaaQEntC
import Derived.Test.YtapoillhgimdiaaQPrvA
import Derived.Handy
import Derived.Test.YtapoillhgimdiaaQMath1
import Derived.Test.YtapoillhgimdiaaQPln1
import Derived.Test.YtapoillhgimdiaaQCase13
import Derived.Test.YtapoillhgimdiaaQCase14
set_option linter.unusedSimpArgs false
set_option linter.unusedVariables false
namespace Go.Proofs.Ytapoillhgimdiaa
open Go.RowKit

theorem le_sum : ∀ (l : List (List Int)) (u : List Int), u ∈ l → u.length ≤ (l.map (Mk.size (α := List Int))).sum
  | [], u, h => by cases h
  | x :: l, u, h => by
    rw [List.map_cons, List.sum_cons]
    rcases List.mem_cons.1 h with e | e
    · subst e; have e3 : Mk.size u = u.length := rfl
      omega
    · have := le_sum l u e; omega
theorem small_parts {p : CPf} {c : Nat} (h : Mk.size p ≤ c) : p.1.length ≤ c ∧ p.2.length ≤ c ∧ ∀ u ∈ p.2, u.length ≤ c := by
  have h2 : p.1.length + (p.2.length + (p.2.map (Mk.size (α := List Int))).sum) ≤ c := h
  refine ⟨by omega, by omega, fun u hu => ?_⟩
  have h3 : u.length ≤ (p.2.map (Mk.size (α := List Int))).sum := le_sum _ _ hu
  omega
/-- Two cells of three neighbouring blocks are written. -/
theorem fr_six (w : World) (b : Nat) (x0 x1 y0 y1 z0 z1 : Value) : Fr (fun j => b ≤ j ∧ j ≤ b + 2) w ((((((w.setCell ⟨b, 0, none⟩ x0).setCell ⟨b, 1, none⟩ x1).setCell ⟨b + 1, 0, none⟩ y0).setCell ⟨b + 1, 1, none⟩ y1).setCell ⟨b + 1 + 1, 0, none⟩ z0).setCell ⟨b + 1 + 1, 1, none⟩ z1) := by
  have h : ∀ (w : World) (p : Addr) (v : Value), b ≤ p.block ∧ p.block ≤ b + 2 → Fr (fun j => b ≤ j ∧ j ≤ b + 2) w (w.setCell p v) := fun w p v hp => (fr_set w p v).mono fun j _ e => by
    have e2 : j = p.block := e
    rw [e2]; exact hp
  exact (((((h _ _ _ ⟨by simp only; omega, by simp only; omega⟩).trans (h _ _ _ ⟨by simp only; omega, by simp only; omega⟩)).trans (h _ _ _ ⟨by simp only; omega, by simp only; omega⟩)).trans (h _ _ _ ⟨by simp only; omega, by simp only; omega⟩)).trans (h _ _ _ ⟨by simp only; omega, by simp only; omega⟩)).trans (h _ _ _ ⟨by simp only; omega, by simp only; omega⟩)
theorem six_end {w w4 w5 : World} {S T1 : Nat → Prop} {u1 u2 t1 t2 y1 y2 : Value} {A B : Asn} {p : CPf} (r1 : RL w4 S u1 A.1) (r2 : RL w4 S u2 A.2) (s1 : RL w4 S t1 B.1) (s2 : RL w4 S t2 B.2) (m1 : RL w4 T1 y1 p.1) (m2 : RL w4 T1 y2 p.2)
    (hb : Below w.heap.size w w4) (hS : ∀ k, S k → w.heap.size + 2 < k) (hT : ∀ k, T1 k → w.heap.size + 2 < k) (hF : Fr (fun j => w.heap.size ≤ j ∧ j ≤ w.heap.size + 2) w4 w5) :
    ∃ (a1 a2 b1 b2 c1 c2 : Value) (A' B' : Asn) (p' : CPf), Ending.returned (.tuple #[.agg #[u1, u2], .agg #[t1, t2], .agg #[y1, y2]]) = .returned (.tuple #[.agg #[a1, a2], .agg #[b1, b2], .agg #[c1, c2]]) ∧
      (RL w5 (fun _ => True) a1 A'.1 ∧ RL w5 (fun _ => True) a2 A'.2) ∧ (RL w5 (fun _ => True) b1 B'.1 ∧ RL w5 (fun _ => True) b2 B'.2) ∧ (RL w5 (fun _ => True) c1 p'.1 ∧ RL w5 (fun _ => True) c2 p'.2) ∧ Below w.heap.size w w5 := by
  have kS : ∀ k, k < w4.heap.size → S k → ¬ (w.heap.size ≤ k ∧ k ≤ w.heap.size + 2) := fun k _ h e => by have := hS k h; omega
  have kT : ∀ k, k < w4.heap.size → T1 k → ¬ (w.heap.size ≤ k ∧ k ≤ w.heap.size + 2) := fun k _ h e => by have := hT k h; omega
  exact ⟨_, _, _, _, _, _, A, B, p, rfl, ⟨(r1.kept hF kS).any, (r2.kept hF kS).any⟩, ⟨(s1.kept hF kS).any, (s2.kept hF kS).any⟩, ⟨(m1.kept hF kT).any, (m2.kept hF kT).any⟩, hb.trans (hF.below hb.size fun k hk e => by omega)⟩
set_option maxRecDepth 100000 in
set_option maxHeartbeats 12800000 in
theorem specDrawCheckCase_any (v : Value) (n : Nat) (w : World) (h : RBytes w v n) :
    Calls Try.prog 34 #[v] w fun e w' => ∃ (u1 u2 t1 t2 y1 y2 : Value) (A B : Asn) (p : CPf), e = .returned (.tuple #[.agg #[u1, u2], .agg #[t1, t2], .agg #[y1, y2]]) ∧
      (RL w' (fun _ => True) u1 A.1 ∧ RL w' (fun _ => True) u2 A.2) ∧ (RL w' (fun _ => True) t1 B.1 ∧ RL w' (fun _ => True) t2 B.2) ∧ (RL w' (fun _ => True) y1 p.1 ∧ RL w' (fun _ => True) y2 p.2) ∧ Below w.heap.size w w' := by
  obtain ⟨va, vc, rfl⟩ := bytes_form h
  have b0 : Below w.heap.size w (((w.alloc (.cells #[.slice none 0 0, .slice none 0 0] 33)).alloc (.cells #[.slice none 0 0, .slice none 0 0] 33)).alloc (.cells #[.slice none 0 0, .slice none 0 0] 46)) := Bl
  have hA := heap_alloc_new w (.cells #[.slice none 0 0, .slice none 0 0] 33)
  replace hA := box_keep (box_keep hA (below_alloc _ (.cells #[.slice none 0 0, .slice none 0 0] 33))) (below_alloc _ (.cells #[.slice none 0 0, .slice none 0 0] 46))
  have hB := box_keep (heap_alloc_new (w.alloc (.cells #[.slice none 0 0, .slice none 0 0] 33)) (.cells #[.slice none 0 0, .slice none 0 0] 33)) (below_alloc _ (.cells #[.slice none 0 0, .slice none 0 0] 46))
  have hT := heap_alloc_new ((w.alloc (.cells #[.slice none 0 0, .slice none 0 0] 33)).alloc (.cells #[.slice none 0 0, .slice none 0 0] 33)) (.cells #[.slice none 0 0, .slice none 0 0] 46)
  simp only [World.size_alloc] at hB hT
  go_enter Try.func34, Try.ntmps34
  go_wp2_with fail
  refine (specDrawEntCase_any _ n _ (h.keep b0)).mono ?_
  rintro e w1 ⟨u1, u2, t1, t2, cv, A, B, C, rfl, ⟨hl, ⟨r1, r2⟩, ⟨s1, s2⟩, hb⟩, hc, hC⟩
  replace hA := box_keep hA hb
  replace hB := box_keep hB hb
  replace hT := box_keep hT hb
  have hz1 := hb.size
  simp only [World.size_alloc] at r1 r2 s1 s2 hc hz1
  obtain ⟨a1, c1, rfl⟩ := r1.form
  obtain ⟨a2, c2, rfl⟩ := r2.form
  obtain ⟨a3, c3, rfl⟩ := s1.form
  obtain ⟨a4, c4, rfl⟩ := s2.form
  obtain ⟨a5, c5, rfl⟩ := hc.form
  have HW := Lib.hid (And.intro (bt b0 hb) h)
  clear hb b0 h hl
  have hbW : Below w1.heap.size w1 ((w1.alloc (.cells #[.slice a1 A.1.length c1, .slice a2 A.2.length c2] 33)).alloc (.cells #[.slice a3 B.1.length c3, .slice a4 B.2.length c4] 33)) := ba (below_alloc _ _) _
  go_wp2_with fail
  refine (proveS_any _ _ _ _ _ A B C _ (r1.keep hbW) (r2.keep hbW) (s1.keep hbW) (s2.keep hbW) (hc.keep hbW)).mono ?_
  rintro e w2 ⟨y1, y2, rfl, ⟨p1, p2⟩, hb2⟩
  have hsm := small_parts (Nat.le_trans (prove_small A B C) (by decide : 60 ≤ 1048576))
  obtain ⟨D, hD⟩ : ∃ D, D = proveR A B C := ⟨_, rfl⟩
  rw [← hD] at p1 p2 hsm
  clear hD
  obtain ⟨d1, e1, rfl⟩ := p1.form
  obtain ⟨d2, e2, rfl⟩ := p2.form
  have hbx := below_alloc w2 (.cells #[.slice d1 D.1.length e1, .slice d2 D.2.length e2] 46)
  have qp := heap_alloc_new w2 (.cells #[.slice d1 D.1.length e1, .slice d2 D.2.length e2] 46)
  have hzW : (w2.alloc (.cells #[.slice d1 D.1.length e1, .slice d2 D.2.length e2] 46)).heap.size = w2.heap.size + 1 := by simp
  have hbAll := bt hbW (bt hb2 hbx)
  have qA := box_keep (box_keep (heap_alloc_new w1 (.cells #[.slice a1 A.1.length c1, .slice a2 A.2.length c2] 33)) (below_alloc _ (.cells #[.slice a3 B.1.length c3, .slice a4 B.2.length c4] 33))) (bt hb2 hbx)
  have qB := box_keep (heap_alloc_new (w1.alloc (.cells #[.slice a1 A.1.length c1, .slice a2 A.2.length c2] 33)) (.cells #[.slice a3 B.1.length c3, .slice a4 B.2.length c4] 33)) (bt hb2 hbx)
  simp only [World.size_alloc] at qB
  have hz2 := hb2.size
  simp only [World.size_alloc] at hz2
  have qa0 := box0 qA
  have qa1 := box1 qA
  have qb0 := box0 qB
  have qb1 := box1 qB
  have qp0 := box0 qp
  have qp1 := box1 qp
  have HN := Lib.hid (HW.out.2.keep (bt HW.out.1 hbAll))
  have HP := Lib.hid (And.intro (And.intro (p1.keep hbx) (p2.keep hbx)) hsm)
  replace hA := box_keep hA hbAll
  replace hB := box_keep hB hbAll
  replace hT := box_keep hT hbAll
  have HR := Lib.hid (And.intro (And.intro (r1.keep hbAll) (r2.keep hbAll)) (And.intro (And.intro (s1.keep hbAll) (s2.keep hbAll)) (bt HW.out.1 hbAll)))
  go_upto_region 3 with fail
  generalize (w2.alloc (.cells #[.slice d1 D.1.length e1, .slice d2 D.2.length e2] 46)) = W at *
  clear r1 r2 s1 s2 hc hC HW hbW p1 p2 hb2 hsm hbx qp hbAll qA qB
  refine wp_region_late (S := (fun w' => (w'.cell? ⟨w1.heap.size, 0, none⟩ = some (.slice a1 A.1.length c1) ∧ w'.cell? ⟨w1.heap.size, 1, none⟩ = some (.slice a2 A.2.length c2)) ∧ (w'.cell? ⟨w1.heap.size + 1, 0, none⟩ = some (.slice a3 B.1.length c3) ∧ w'.cell? ⟨w1.heap.size + 1, 1, none⟩ = some (.slice a4 B.2.length c4)) ∧ (w'.cell? ⟨w2.heap.size, 0, none⟩ = some (.slice d1 D.1.length e1) ∧ w'.cell? ⟨w2.heap.size, 1, none⟩ = some (.slice d2 D.2.length e2)))) (dep := [8]) (by kernel_rfl) (⟨⟨cell_keep (below_drew _) qa0, cell_keep (below_drew _) qa1⟩, ⟨cell_keep (below_drew _) qb0, cell_keep (below_drew _) qb1⟩, ⟨cell_keep (below_drew _) qp0, cell_keep (below_drew _) qp1⟩⟩ : (_ ∧ _) ∧ (_ ∧ _) ∧ (_ ∧ _)) (fun hHeld => ?_)
  refine wpAnyD_free (i := 2) (oi := _) (v := ?_) rfl (by kernel_rfl) (by kernel_rfl) (by kernel_rfl) (by kernel_rfl) (fun _ _ _ h => h) (Or.inl ⟨by rfl, ?_⟩) hHeld (fun hHeld => ?_)
  rotate_left
  · (intro w _; first | (go_simp; done) | (go_simp; with_reducible rfl))
  try simp only [Act.put, List.setIfInBounds_toArray, List.set_cons_zero, List.set_cons_succ]
  refine wpAnyD_take (i := 0) (oi := _) (v := ?_) rfl (by kernel_rfl) (by kernel_rfl) (by kernel_rfl) (by kernel_rfl) (by kernel_rfl) (fun _ _ _ h => h) (Or.inl ⟨by rfl, ?_⟩) (hHeld (early_of (by kernel_rfl))) ?_
  rotate_left
  · (intro w hSw; (try dsimp only at hSw); first | (go_simp; done) | (go_simp; with_reducible rfl))
  try simp only [Act.put, List.setIfInBounds_toArray, List.set_cons_zero, List.set_cons_succ]
  replace hHeld := fun (he : Early _ _) => hHeld (Early.of_set (i := 0) he (by decide))
  refine wpAnyD_take (i := 1) (oi := _) (v := ?_) rfl (by kernel_rfl) (by kernel_rfl) (by kernel_rfl) (by kernel_rfl) (by kernel_rfl) (fun _ _ _ h => h) (Or.inl ⟨by rfl, ?_⟩) (hHeld (early_of (by kernel_rfl))) ?_
  rotate_left
  · (intro w hSw; (try dsimp only at hSw); first | (go_simp; done) | (go_simp; with_reducible rfl))
  try simp only [Act.put, List.setIfInBounds_toArray, List.set_cons_zero, List.set_cons_succ]
  replace hHeld := fun (he : Early _ _) => hHeld (Early.of_set (i := 1) he (by decide))
  refine wpAnyD_take (i := 4) (oi := _) (v := ?_) rfl (by kernel_rfl) (by kernel_rfl) (by kernel_rfl) (by kernel_rfl) (by kernel_rfl) (fun _ _ _ h => h) (Or.inl ⟨by rfl, ?_⟩) (hHeld (early_of (by kernel_rfl))) ?_
  rotate_left
  · (intro w hSw; (try dsimp only at hSw); first | (go_simp; done) | (go_simp; with_reducible rfl))
  try simp only [Act.put, List.setIfInBounds_toArray, List.set_cons_zero, List.set_cons_succ]
  replace hHeld := fun (he : Early _ _) => hHeld (Early.of_set (i := 4) he (by decide))
  refine wpAnyD_ready (rs := [3]) (by kernel_rfl) (by simp) ?_
  refine (AllReadyD.cons (o := _) rfl (fun K hK => ?_) AllReadyD.nil)
  clear hHeld
  go_simp
  (go_at_call 113; refine (l18Open_any _ n _ (HN.out.keep (below_drew W))).mono ?_; rintro e w3 ⟨rfl, hr3, hb3⟩)
  have hb3w : Below W.heap.size W w3 := bt (below_drew W) hb3
  have hr3w : Rdr w3 (w2.heap.size + 1) 0 := by rw [← hzW]; exact hr3
  replace qa0 := cell_keep hb3w qa0
  replace qa1 := cell_keep hb3w qa1
  replace qb0 := cell_keep hb3w qb0
  replace qb1 := cell_keep hb3w qb1
  replace qp0 := cell_keep hb3w qp0
  replace qp1 := cell_keep hb3w qp1
  have H3 := Lib.hid (And.intro hb3w hr3w)
  have hs3 := hr3w.lt
  clear hb3 hb3w hr3 hr3w
  go_wp2_with fail
  refine hK.out _ _ ?_ (fun hHeld => ?_)
  · exact fun _ => (⟨⟨qa0, qa1⟩, ⟨qb0, qb1⟩, ⟨qp0, qp1⟩⟩ : (_ ∧ _) ∧ (_ ∧ _) ∧ (_ ∧ _))
  clear hK K
  try simp only [Act.put, List.setIfInBounds_toArray, List.set_cons_zero, List.set_cons_succ]
  refine wpAnyD_ready (rs := [5]) (by kernel_rfl) (by simp) ?_
  refine (AllReadyD.cons (o := _) rfl (fun K hK => ?_) AllReadyD.nil)
  clear hHeld
  go_simp
  (go_at_call 112; refine (l16Mutate_any (w2.heap.size + 1) 0 _ _ D _ H3.out.2 (by omega) (HP.out.1.1.keep H3.out.1) (HP.out.1.2.keep H3.out.1) HP.out.2.1 HP.out.2.2.1 HP.out.2.2.2).mono ?_; rintro e w4 ⟨z1, z2, p4, rfl, ⟨m1, m2⟩, _, hf4⟩)
  obtain ⟨f1, f2, f3, rfl⟩ := m1.forms
  obtain ⟨f4, f5, f6, rfl⟩ := m2.forms
  replace qa0 := hf4.cell (by show ¬ w1.heap.size = w2.heap.size + 1; omega) qa0
  replace qa1 := hf4.cell (by show ¬ w1.heap.size = w2.heap.size + 1; omega) qa1
  replace qb0 := hf4.cell (by show ¬ w1.heap.size + 1 = w2.heap.size + 1; omega) qb0
  replace qb1 := hf4.cell (by show ¬ w1.heap.size + 1 = w2.heap.size + 1; omega) qb1
  replace qp0 := hf4.cell (by show ¬ w2.heap.size = w2.heap.size + 1; omega) qp0
  replace qp1 := hf4.cell (by show ¬ w2.heap.size = w2.heap.size + 1; omega) qp1
  have H4 := Lib.hid (And.intro (And.intro m1 m2) hf4)
  have xA := box_kept (box_keep hA H3.out.1) hf4 (by show ¬ w.heap.size = w2.heap.size + 1; omega)
  have xB := box_kept (box_keep hB H3.out.1) hf4 (by show ¬ w.heap.size + 1 = w2.heap.size + 1; omega)
  have xT := box_kept (box_keep hT H3.out.1) hf4 (by show ¬ w.heap.size + 1 + 1 = w2.heap.size + 1; omega)
  have xa0 := box0 xA
  have xa1 := box1 xA
  have xaz := boxz xA
  have xb0 := box0 xB
  have xb1 := box1 xB
  have xbz := boxz xB
  have xt0 := box0 xT
  have xt1 := box1 xT
  have xtz := boxz xT
  have xal := box_lt xA
  have xbl := box_lt xB
  have xtl := box_lt xT
  clear m1 m2 hf4 xA xB xT
  go_wp2_with fail
  refine hK.out _ _ ?_ (fun hHeld => ?_)
  · exact fun _ => (⟨⟨qa0, qa1⟩, ⟨qb0, qb1⟩, ⟨qp0, qp1⟩⟩ : (_ ∧ _) ∧ (_ ∧ _) ∧ (_ ∧ _))
  clear hK K
  try simp only [Act.put, List.setIfInBounds_toArray, List.set_cons_zero, List.set_cons_succ]
  refine wpAnyD_ready (rs := [6]) (by kernel_rfl) (by simp) ?_
  refine (AllReadyD.cons (o := _) rfl (fun K hK => ?_) AllReadyD.nil)
  clear hHeld
  go_simp
  refine hK.out _ _ ?_ (fun hHeld => ?_)
  · exact fun _ => (⟨⟨((fr_set w4 ⟨w.heap.size, 0, none⟩ (.slice a1 A.1.length c1)).then (fr_set _ ⟨w.heap.size, 1, none⟩ (.slice a2 A.2.length c2)) fun _ _ e => e).cell (by simp only; omega) qa0, ((fr_set w4 ⟨w.heap.size, 0, none⟩ (.slice a1 A.1.length c1)).then (fr_set _ ⟨w.heap.size, 1, none⟩ (.slice a2 A.2.length c2)) fun _ _ e => e).cell (by simp only; omega) qa1⟩, ⟨((fr_set w4 ⟨w.heap.size, 0, none⟩ (.slice a1 A.1.length c1)).then (fr_set _ ⟨w.heap.size, 1, none⟩ (.slice a2 A.2.length c2)) fun _ _ e => e).cell (by simp only; omega) qb0, ((fr_set w4 ⟨w.heap.size, 0, none⟩ (.slice a1 A.1.length c1)).then (fr_set _ ⟨w.heap.size, 1, none⟩ (.slice a2 A.2.length c2)) fun _ _ e => e).cell (by simp only; omega) qb1⟩, ⟨((fr_set w4 ⟨w.heap.size, 0, none⟩ (.slice a1 A.1.length c1)).then (fr_set _ ⟨w.heap.size, 1, none⟩ (.slice a2 A.2.length c2)) fun _ _ e => e).cell (by simp only; omega) qp0, ((fr_set w4 ⟨w.heap.size, 0, none⟩ (.slice a1 A.1.length c1)).then (fr_set _ ⟨w.heap.size, 1, none⟩ (.slice a2 A.2.length c2)) fun _ _ e => e).cell (by simp only; omega) qp1⟩⟩ : (_ ∧ _) ∧ (_ ∧ _) ∧ (_ ∧ _))
  clear hK K
  try simp only [Act.put, List.setIfInBounds_toArray, List.set_cons_zero, List.set_cons_succ]
  refine wpAnyD_ready (rs := [7]) (by kernel_rfl) (by simp) ?_
  refine (AllReadyD.cons (o := _) rfl (fun K hK => ?_) AllReadyD.nil)
  clear hHeld
  go_simp
  refine hK.out _ _ ?_ (fun hHeld => ?_)
  · exact fun _ => (⟨⟨((fr_set _ ⟨w.heap.size + 1, 0, none⟩ (.slice a3 B.1.length c3)).then (fr_set _ ⟨w.heap.size + 1, 1, none⟩ (.slice a4 B.2.length c4)) fun _ _ e => e).cell (by simp only; omega) (((fr_set w4 ⟨w.heap.size, 0, none⟩ (.slice a1 A.1.length c1)).then (fr_set _ ⟨w.heap.size, 1, none⟩ (.slice a2 A.2.length c2)) fun _ _ e => e).cell (by simp only; omega) qa0), ((fr_set _ ⟨w.heap.size + 1, 0, none⟩ (.slice a3 B.1.length c3)).then (fr_set _ ⟨w.heap.size + 1, 1, none⟩ (.slice a4 B.2.length c4)) fun _ _ e => e).cell (by simp only; omega) (((fr_set w4 ⟨w.heap.size, 0, none⟩ (.slice a1 A.1.length c1)).then (fr_set _ ⟨w.heap.size, 1, none⟩ (.slice a2 A.2.length c2)) fun _ _ e => e).cell (by simp only; omega) qa1)⟩, ⟨((fr_set _ ⟨w.heap.size + 1, 0, none⟩ (.slice a3 B.1.length c3)).then (fr_set _ ⟨w.heap.size + 1, 1, none⟩ (.slice a4 B.2.length c4)) fun _ _ e => e).cell (by simp only; omega) (((fr_set w4 ⟨w.heap.size, 0, none⟩ (.slice a1 A.1.length c1)).then (fr_set _ ⟨w.heap.size, 1, none⟩ (.slice a2 A.2.length c2)) fun _ _ e => e).cell (by simp only; omega) qb0), ((fr_set _ ⟨w.heap.size + 1, 0, none⟩ (.slice a3 B.1.length c3)).then (fr_set _ ⟨w.heap.size + 1, 1, none⟩ (.slice a4 B.2.length c4)) fun _ _ e => e).cell (by simp only; omega) (((fr_set w4 ⟨w.heap.size, 0, none⟩ (.slice a1 A.1.length c1)).then (fr_set _ ⟨w.heap.size, 1, none⟩ (.slice a2 A.2.length c2)) fun _ _ e => e).cell (by simp only; omega) qb1)⟩, ⟨((fr_set _ ⟨w.heap.size + 1, 0, none⟩ (.slice a3 B.1.length c3)).then (fr_set _ ⟨w.heap.size + 1, 1, none⟩ (.slice a4 B.2.length c4)) fun _ _ e => e).cell (by simp only; omega) (((fr_set w4 ⟨w.heap.size, 0, none⟩ (.slice a1 A.1.length c1)).then (fr_set _ ⟨w.heap.size, 1, none⟩ (.slice a2 A.2.length c2)) fun _ _ e => e).cell (by simp only; omega) qp0), ((fr_set _ ⟨w.heap.size + 1, 0, none⟩ (.slice a3 B.1.length c3)).then (fr_set _ ⟨w.heap.size + 1, 1, none⟩ (.slice a4 B.2.length c4)) fun _ _ e => e).cell (by simp only; omega) (((fr_set w4 ⟨w.heap.size, 0, none⟩ (.slice a1 A.1.length c1)).then (fr_set _ ⟨w.heap.size, 1, none⟩ (.slice a2 A.2.length c2)) fun _ _ e => e).cell (by simp only; omega) qp1)⟩⟩ : (_ ∧ _) ∧ (_ ∧ _) ∧ (_ ∧ _))
  clear hK K
  try simp only [Act.put, List.setIfInBounds_toArray, List.set_cons_zero, List.set_cons_succ]
  refine wpAnyD_ready (rs := [8]) (by kernel_rfl) (by simp) ?_
  refine (AllReadyD.cons (o := _) rfl (fun K hK => ?_) AllReadyD.nil)
  clear hHeld
  go_simp
  refine hK.out _ _ ?_ (fun hHeld => ?_)
  · exact late_none (by kernel_rfl)
  clear hK K
  try simp only [Act.put, List.setIfInBounds_toArray, List.set_cons_zero, List.set_cons_succ]
  refine wpAnyD_done (by kernel_rfl) ?_ _
  clear hHeld
  have hb4 : Below W.heap.size W w4 := H3.out.1.trans (H4.out.2.below H3.out.1.size fun k hk e => by have e2 : k = w2.heap.size + 1 := e; omega)
  have hF := fr_six w4 w.heap.size (.slice a1 A.1.length c1) (.slice a2 A.2.length c2) (.slice a3 B.1.length c3) (.slice a4 B.2.length c4) (.slice f1 f2 f3) (.slice f4 f5 f6)
  have hsz4 := hb4.size
  have HEND := Lib.hid (six_end (p := p4) (HR.out.1.1.keep hb4) (HR.out.1.2.keep hb4) (HR.out.2.1.1.keep hb4) (HR.out.2.1.2.keep hb4) H4.out.1.1 H4.out.1.2 (bt HR.out.2.2 hb4) (fun k hs => by have h2 : w.heap.size + 1 + 1 + 1 + 2 ≤ k := hs; omega) (fun k hs => by have h2 : w3.heap.size ≤ k := hs; omega) hF)
  clear hb4 hF hsz4
  go_wp2
  refine bodyPost_ret (v := .tuple #[.agg #[.slice a1 A.1.length c1, .slice a2 A.2.length c2], .agg #[.slice a3 B.1.length c3, .slice a4 B.2.length c4], .agg #[.slice f1 f2 f3, .slice f4 f5 f6]]) (by simp [results, Try.results34, go_sem, xa0, xa1, xb0, xb1, xt0, xt1]) rfl ?_
  obtain ⟨g1, g2, g3, g4, g5, g6, A9, B9, p9, he, ⟨q1, q2⟩, ⟨q3, q4⟩, ⟨q5, q6⟩, hb9⟩ := HEND.out
  exact ⟨g1, g2, g3, g4, g5, g6, he, ⟨⟨_, q1⟩, ⟨_, q2⟩⟩, ⟨⟨_, q3⟩, ⟨_, q4⟩⟩, ⟨⟨_, q5⟩, ⟨_, q6⟩⟩, hb9⟩
end Go.Proofs.Ytapoillhgimdiaa
/- Walks: a case in which an assertion entails another one: the program. Printed by gen_entci.py. -/
namespace Go.Proofs.Ytapoillhgimdiaa
open Go.RowKit

set_option maxRecDepth 100000 in
set_option maxHeartbeats 6400000 in
theorem entCaseI_any {S1 S2 S3 S4 S5 : Nat → Prop} (v1 v2 u1 u2 cv : Value) (a b : Asn) (cl : List Int) (w : World) (h1 : RL w S1 v1 a.1) (h2 : RL w S2 v2 a.2) (k1 : RL w S3 u1 b.1) (k2 : RL w S4 u2 b.2) (j0 : RL w S5 cv cl) :
    Calls Try.prog 31 #[.agg #[v1, v2], .agg #[u1, u2], cv] w fun e w' => e = .returned (.bool (provB a b cl)) ∧ Below w.heap.size w w' := by
  have j1 := j0.ints
  clear j0
  obtain ⟨xa1, xc1, rfl⟩ := h1.form
  obtain ⟨xa2, xc2, rfl⟩ := h2.form
  obtain ⟨ya1, yc1, rfl⟩ := k1.form
  obtain ⟨ya2, yc2, rfl⟩ := k2.form
  obtain ⟨za1, zc1, rfl⟩ := j1.form
  obtain ⟨W, hWe⟩ : ∃ W, W = ((w.alloc (.cells #[.slice xa1 a.1.length xc1, .slice xa2 a.2.length xc2] 33)).alloc (.cells #[.slice ya1 b.1.length yc1, .slice ya2 b.2.length yc2] 33)) := ⟨_, rfl⟩
  have hW : Below w.heap.size w W := by rw [hWe]; exact Bl
  have hc0 : W.cell? ⟨w.heap.size, 0, none⟩ = some (.slice xa1 a.1.length xc1) := by rw [hWe]; simp [go_sem]
  have hc1 : W.cell? ⟨w.heap.size, 1, none⟩ = some (.slice xa2 a.2.length xc2) := by rw [hWe]; simp [go_sem]
  have hd0 : W.cell? ⟨w.heap.size + 1, 0, none⟩ = some (.slice ya1 b.1.length yc1) := by rw [hWe]; simp [go_sem]
  have hd1 : W.cell? ⟨w.heap.size + 1, 1, none⟩ = some (.slice ya2 b.2.length yc2) := by rw [hWe]; simp [go_sem]
  have HWE := Lib.hid hWe
  have HX := Lib.hid (And.intro (And.intro hc0 hc1) (And.intro (And.intro hd0 hd1) hW))
  clear hWe hc0 hc1 hd0 hd1 hW
  cases ha : asnB a with
  | false =>
    have HV := Lib.hid ha
    have HP := Lib.hid (show provB a b cl = false by rw [provB, provC, if_neg (by rw [ha]; simp)]; rfl)
    clear ha
    go_enter Try.func31, Try.ntmps31
    go_upto_region 1 with fail
    rw [← HWE.out]
    obtain ⟨⟨hc0, hc1⟩, ⟨hd0, hd1⟩, hW⟩ := HX.out
    go_wp2_with fail
    refine (cb (asnValidI_any _ _ a _ (h1.keep hW) (h2.keep hW)) HV.out).mono ?_
    rintro e w1 ⟨rfl, hb⟩
    replace hc0 := cell_keep hb hc0; replace hc1 := cell_keep hb hc1; replace hd0 := cell_keep hb hd0; replace hd1 := cell_keep hb hd1; replace hW := bt hW hb; clear hb
    go_wp2
    go_ret
    exact ⟨by rw [HP.out]; rfl, hW⟩
  | true =>
    cases hb0 : asnB b with
    | false =>
      have HV := Lib.hid (And.intro ha hb0)
      have HP := Lib.hid (show provB a b cl = false by rw [provB, provC, if_neg (by rw [hb0]; simp)]; rfl)
      clear ha hb0
      go_enter Try.func31, Try.ntmps31
      go_upto_region 1 with fail
      rw [← HWE.out]
      obtain ⟨⟨hc0, hc1⟩, ⟨hd0, hd1⟩, hW⟩ := HX.out
      go_wp2_with fail
      refine (cb (asnValidI_any _ _ a _ (h1.keep hW) (h2.keep hW)) HV.out.1).mono ?_
      rintro e w1 ⟨rfl, hb⟩
      replace hc0 := cell_keep hb hc0; replace hc1 := cell_keep hb hc1; replace hd0 := cell_keep hb hd0; replace hd1 := cell_keep hb hd1; replace hW := bt hW hb; clear hb
      go_wp2_with fail
      refine (cb (asnValidI_any _ _ b _ (k1.keep hW) (k2.keep hW)) HV.out.2).mono ?_
      rintro e w1 ⟨rfl, hb⟩
      replace hc0 := cell_keep hb hc0; replace hc1 := cell_keep hb hc1; replace hd0 := cell_keep hb hd0; replace hd1 := cell_keep hb hd1; replace hW := bt hW hb; clear hb
      go_wp2
      go_ret
      exact ⟨by rw [HP.out]; rfl, hW⟩
    | true =>
      obtain ⟨rb, hrb⟩ : ∃ r, readC (termsM b) a cl = r := ⟨_, rfl⟩
      obtain ⟨rm, hrm⟩ : ∃ r, matchC a b cl = r := ⟨_, rfl⟩
      have hpv : provC a b cl = if rb = true then rm else none := by
        rw [provC, ha, hb0, hrb, hrm]; simp
      have HPV := Lib.hid hpv
      have HV := Lib.hid (And.intro ha hb0)
      have HRB := Lib.hid hrb
      have HRM := Lib.hid hrm
      have htm := termsM_lt b
      clear ha hb0 hrb hrm hpv
      go_enter Try.func31, Try.ntmps31
      go_upto_region 1 with fail
      rw [← HWE.out]
      obtain ⟨⟨hc0, hc1⟩, ⟨hd0, hd1⟩, hW⟩ := HX.out
      go_wp2_with fail
      refine (cb (asnValidI_any _ _ a _ (h1.keep hW) (h2.keep hW)) HV.out.1).mono ?_
      rintro e w1 ⟨rfl, hb⟩
      replace hc0 := cell_keep hb hc0; replace hc1 := cell_keep hb hc1; replace hd0 := cell_keep hb hd0; replace hd1 := cell_keep hb hd1; replace hW := bt hW hb; clear hb
      go_wp2_with fail
      refine (cb (asnValidI_any _ _ b _ (k1.keep hW) (k2.keep hW)) HV.out.2).mono ?_
      rintro e w1 ⟨rfl, hb⟩
      replace hc0 := cell_keep hb hc0; replace hc1 := cell_keep hb hc1; replace hd0 := cell_keep hb hd0; replace hd1 := cell_keep hb hd1; replace hW := bt hW hb; clear hb
      go_upto_region 3 with fail
      have HW1 := Lib.hid (And.intro (And.intro hc0 hc1) (And.intro (And.intro hd0 hd1) hW))
      go_cut [7, 8] from 17 (fun pp ok wc => ∃ (g : Nat) (x0 x1 x2 x3 x4 x5 x6 x7 x8 : Int), pp = .pointer (some ⟨g, 0, none⟩) ∧ ok = .bool rb ∧ RArr wc g [x0, x1, x2, x3, x4, x5, x6, x7, x8] ∧ (rb = true → [x0, x1, x2, x3, x4, x5, x6, x7, x8] = cl) ∧ Below w1.heap.size w1 wc)
      case first =>
        have l0 : w.heap.size < w1.heap.size := World.block_lt_of_cell? w1 _ hc0
        have l1 : w.heap.size + 1 < w1.heap.size := World.block_lt_of_cell? w1 _ hd0
        have m0 : ¬ w.heap.size = w1.heap.size := Nat.ne_of_lt l0
        have m1 : ¬ w.heap.size + 1 = w1.heap.size := Nat.ne_of_lt l1
        have hu9 := Try.underlying116
        go_region_held3 (fun w' => (w'.cell? ⟨w.heap.size, 0, none⟩ = some (.slice xa1 a.1.length xc1) ∧ w'.cell? ⟨w.heap.size, 1, none⟩ = some (.slice xa2 a.2.length xc2)) ∧ (w'.cell? ⟨w.heap.size + 1, 0, none⟩ = some (.slice ya1 b.1.length yc1) ∧ w'.cell? ⟨w.heap.size + 1, 1, none⟩ = some (.slice ya2 b.2.length yc2)))
          (first | exact ⟨⟨cell_setCells (Nat.ne_of_lt (by show w.heap.size < _; omega)) (cell_keep Bl f0), cell_setCells (Nat.ne_of_lt (by show w.heap.size < _; omega)) (cell_keep Bl f1)⟩, ⟨cell_setCells (Nat.ne_of_lt (by show w.heap.size + 1 < _; omega)) (cell_keep Bl f2), cell_setCells (Nat.ne_of_lt (by show w.heap.size + 1 < _; omega)) (cell_keep Bl f3)⟩⟩ | exact ⟨⟨cell_keep Bl hc0, cell_keep Bl hc1⟩, ⟨cell_keep Bl hd0, cell_keep Bl hd1⟩⟩)
          (first
            | (go_at_call 92; (with_reducible refine (termsIn_any _ _ b _ (k1.keep (bt hW Bl)) (k2.keep (bt hW Bl))).mono ?_); rintro e w2 ⟨rfl, hb2'⟩; have hb2 : Below w1.heap.size w1 w2 := bt Bl hb2'; have hsz2 := hb2.size; (try have hz2 := zero9 (new9 _ _) hb2'); (try have hz2 := zero9 (new9' _ _) hb2'); (try have hz2 := zero9 (heap_alloc_new _ _) hb2'))
            | (go_at_call 104; (with_reducible refine (readCase9_any _ _ _ a _ cl rb _ (h1.keep (bt hW Bl)) (h2.keep (bt hW Bl)) (j1.keep (bt hW Bl)) HV.out.1 htm HRB.out).mono ?_); rintro e w3 ⟨x0, x1, x2, x3, x4, x5, x6, x7, x8, hx, rfl, hb3'⟩; have hb3 : Below w1.heap.size w1 w3 := bt (bt hb2 Bl) hb3'; have hsz3 := hb3.size; (try have ht3 := there9 (And.intro (fun i (hi : i < 9) => cell_keep hb3' (hz2.1 i hi)) (fun i => (hb3'.frozen (p := ⟨w1.heap.size, i, none⟩) (World.block_lt_of_cell? w2 ⟨w1.heap.size, 0, none⟩ (hz2.1 0 (by decide)))).trans (hz2.2 i)))); (try have ht3 := there9 (zero9 (new9 _ _) hb3')); (try have ht3 := there9 (zero9 (new9' _ _) hb3')); (try have ht3 := there9 (zero9 (heap_alloc_new _ _) hb3')); have htc := there9n w3; have hs9 := size9 x0 x1 x2 x3 x4 x5 x6 x7 x8; have h19 := one9 x0 x1 x2 x3 x4 x5 x6 x7 x8; have hn9 : ([.int .i64 x0, .int .i64 x1, .int .i64 x2, .int .i64 x3, .int .i64 x4, .int .i64 x5, .int .i64 x6, .int .i64 x7, .int .i64 x8] : List Value).length = 9 := rfl; have f0 := cell_keep hb3 HW1.out.1.1; have f1 := cell_keep hb3 HW1.out.1.2; have f2 := cell_keep hb3 HW1.out.2.1.1; have f3 := cell_keep hb3 HW1.out.2.1.2))
        all_goals
          have HZ := Lib.hid (And.intro hx hb3)
          go_wp2
          go_meet
          case rel =>
            refine ⟨_, x0, x1, x2, x3, x4, x5, x6, x7, x8, rfl, rfl, ?_, HZ.out.1, ?_⟩
            · exact arr_of_range (World.rangeAt_setCells_same _ _ 0 [.int .i64 x0, .int .i64 x1, .int .i64 x2, .int .i64 x3, .int .i64 x4, .int .i64 x5, .int .i64 x6, .int .i64 x7, .int .i64 x8] (by first | exact htc | exact ht3))
            · exact below_setCells (B := w1.heap.size) (by omega) _ _ _ (bt HZ.out.2 Bl)
      case rest =>
        obtain ⟨g, x0, x1, x2, x3, x4, x5, x6, x7, x8, rfl, rfl, hA, htl, hb⟩ := hcut
        replace hc0 := cell_keep hb hc0; replace hc1 := cell_keep hb hc1; replace hd0 := cell_keep hb hd0; replace hd1 := cell_keep hb hd1; replace hW := bt hW hb; clear hb
        cases rb with
        | false =>
          have HP := Lib.hid (show provB a b cl = false by rw [provB, HPV.out]; rfl)
          clear hA htl
          go_wp2
          go_ret
          exact ⟨by rw [HP.out]; rfl, hW⟩
        | true =>
          have hcl : [x0, x1, x2, x3, x4, x5, x6, x7, x8] = cl := htl rfl
          have HCL := Lib.hid hcl
          have cells9 : (((wc.cell? ⟨g, 0, none⟩ = some (.int .i64 x0) ∧ wc.cell? ⟨g, 1, none⟩ = some (.int .i64 x1)) ∧ (wc.cell? ⟨g, 2, none⟩ = some (.int .i64 x2) ∧ wc.cell? ⟨g, 3, none⟩ = some (.int .i64 x3))) ∧ ((wc.cell? ⟨g, 4, none⟩ = some (.int .i64 x4) ∧ wc.cell? ⟨g, 5, none⟩ = some (.int .i64 x5)) ∧ (wc.cell? ⟨g, 6, none⟩ = some (.int .i64 x6) ∧ wc.cell? ⟨g, 7, none⟩ = some (.int .i64 x7)))) ∧ wc.cell? ⟨g, 8, none⟩ = some (.int .i64 x8) :=
            ⟨⟨⟨⟨hA.2.2 0 (by decide), hA.2.2 1 (by decide)⟩, ⟨hA.2.2 2 (by decide), hA.2.2 3 (by decide)⟩⟩, ⟨⟨hA.2.2 4 (by decide), hA.2.2 5 (by decide)⟩, ⟨hA.2.2 6 (by decide), hA.2.2 7 (by decide)⟩⟩⟩, hA.2.2 8 (by decide)⟩
          obtain ⟨⟨⟨⟨y0, y1⟩, ⟨y2, y3⟩⟩, ⟨⟨y4, y5⟩, ⟨y6, y7⟩⟩⟩, y8⟩ := cells9
          clear htl hcl hA
          go_wp2_with fail
          refine (matchCase_any _ _ _ _ a b [x0, x1, x2, x3, x4, x5, x6, x7, x8] rm _ (h1.keep hW) (h2.keep hW) (k1.keep hW) (k2.keep hW) HV.out.1 HV.out.2 rfl (by rw [HCL.out]; exact HRM.out)).mono ?_
          rintro e w5 ⟨vu, rfl, hO, hb5⟩
          clear y0 y1 y2 y3 y4 y5 y6 y7 y8
          replace hW := bt hW hb5; clear hb5
          obtain ⟨rk, hrk⟩ : ∃ r, rm.isSome = r := ⟨_, rfl⟩
          rw [hrk]
          have HP := Lib.hid (show provB a b cl = rk by rw [provB, HPV.out, ← hrk]; rfl)
          clear hO hc0 hc1 hd0 hd1 hrk
          go_wp2
          go_ret
          exact ⟨by rw [HP.out]; rfl, hW⟩
end Go.Proofs.Ytapoillhgimdiaa
/- Walks: comparisons of proofs that read as the same; the program's EntailsCase. -/
namespace Go.Proofs.Ytapoillhgimdiaa
open Go.RowKit

set_option maxRecDepth 100000 in
set_option maxHeartbeats 3200000 in
theorem slLists_any {S1 S2 : Nat → Prop} (v1 v2 : Value) (l : List (List Int)) (w : World) (h1 : RL w S1 v1 l) (h2 : RL w S2 v2 l) :
    Calls Try.prog 108 #[v1, v2] w fun e w' => e = .returned (.bool true) ∧ Below w.heap.size w w' := by
  have hm := h1.len
  unfold maxLen at hm
  obtain ⟨a1, c1, rfl, _, _, hf1⟩ := h1.listAt
  obtain ⟨a2, c2, rfl, _, _, hf2⟩ := h2.listAt
  have F1 := Lib.hid hf1
  have F2 := Lib.hid hf2
  have hne : ((l.length : Int) != (l.length : Int)) = false := by simp
  clear hf1 hf2 h1 h2
  go_enter Try.func108, Try.ntmps108
  go_wp2
  go_loopg [5] l.length (fun q i wr => ∃ k : Nat, k + q = l.length ∧ i = .int .i64 k ∧ Below w.heap.size w wr)
  case atStart => exact ⟨0, by omega, rfl, Below.refl _ _⟩
  case round =>
    obtain ⟨k, hk, rfl, hb⟩ := hrel
    have HK := Lib.hid hk
    clear hk
    by_cases hk8 : k < l.length
    · obtain ⟨b1, o1, u1, rfl, _, hbl1, hp1, r1⟩ := F1.out k hk8
      obtain ⟨b2, o2, x1, rfl, _, hbl2, hq1, s1⟩ := F2.out k hk8
      obtain ⟨ua1, uc1, rfl⟩ := r1.form
      obtain ⟨xa1, xc1, rfl⟩ := s1.form
      replace hp1 := cell_keep hb hp1
      replace hq1 := cell_keep hb hq1
      replace r1 := r1.keep hb
      replace s1 := s1.keep hb
      have hs := hb.size
      have g1 : b1 < wr.heap.size := by omega
      have g2 : b2 < wr.heap.size := by omega
      have i1 : (k : Int) < (l.length : Int) := by omega
      go_wp2
      refine wp_region_ext (by kernel_rfl) (by kernel_rfl) ?_
      repeat (go_big_quiet_step ((go_at_call 33; exact ext_c (cb (slInts_any _ _ (gd l k) (gd l k) _ (r1.keep Bl).ints (s1.keep Bl).ints) (decide_eq_true rfl)))))
      refine wpQuiet_nil ?_
      intro w2 hb2
      have hbn : Below w.heap.size w w2 := bt hb (bt Bl hb2)
      clear hb2
      go_wp2
      go_roundg (gk - 1)
      case rel => exact ⟨k + 1, by have := HK.out; omega, by go_num, hbn⟩
      case measure => have := HK.out; omega
    · obtain rfl : k = l.length := by have := HK.out; omega
      go_wp2
      go_ret
      exact ⟨rfl, hb⟩
set_option maxRecDepth 100000 in
set_option maxHeartbeats 3200000 in
theorem slProof_any {S1 S2 S3 S4 : Nat → Prop} (v1 v2 u1 u2 : Value) (p : CPf) (w : World) (h1 : RL w S1 v1 p.1) (h2 : RL w S2 v2 p.2) (k1 : RL w S3 u1 p.1) (k2 : RL w S4 u2 p.2) :
    Calls Try.prog 30 #[.agg #[v1, v2], .agg #[u1, u2]] w fun e w' => e = .returned (.bool true) ∧ Below w.heap.size w w' := by
  obtain ⟨p1, c1, rfl⟩ := h1.form
  obtain ⟨p2, c2, rfl⟩ := h2.form
  obtain ⟨p3, c3, rfl⟩ := k1.form
  obtain ⟨p4, c4, rfl⟩ := k2.form
  go_enter Try.func30, Try.ntmps30
  go_wp2_with fail
  refine (cb (slInts_any _ _ p.1 p.1 _ (h1.keep Bl).ints (k1.keep Bl).ints) (decide_eq_true rfl)).mono ?_
  rintro e w1 ⟨rfl, hb⟩
  have hc0 := cell_keep hb (p := ⟨w.heap.size, 1, none⟩) (v := .slice p2 p.2.length c2) (by simp)
  have hd0 := cell_keep hb (p := ⟨w.heap.size + 1, 1, none⟩) (v := .slice p4 p.2.length c4) (by simp)
  have hW : Below w.heap.size w w1 := bt Bl hb
  clear hb
  go_wp2_with fail
  refine (slLists_any _ _ p.2 _ (h2.keep hW) (k2.keep hW)).mono ?_
  rintro e w2 ⟨rfl, hb⟩
  go_wp2
  go_returns
  exact ⟨rfl, bt hW hb⟩
end Go.Proofs.Ytapoillhgimdiaa
/- The walk of the law FnCheckCase. (Printed by a program over lawgen.py.) -/
namespace Go.Proofs.Ytapoillhgimdiaa
open Go.RowKit

set_option maxRecDepth 100000 in
set_option maxHeartbeats 12800000 in
theorem fnCheckCase_walk (v : Value) (n : Nat) (w : World) (h : RBytes w v n) :
    Calls Try.prog 5 #[v] w fun e w' => e = .returned (.bool true) ∧ Below w.heap.size w w' := by
  obtain ⟨a, cap, rfl⟩ := bytes_form h
  by_cases hn : n ≤ 1048576
  rotate_left
  · go_enter Try.func5, Try.ntmps5
    go_wp2
    go_ret
    exact ⟨rfl, Below.refl _ _⟩
  go_enter Try.func5, Try.ntmps5
  go_wp2_with fail
  refine (specDrawCheckCase_any _ n _ h).mono ?_
  rintro e w1 ⟨u1, u2, t1, t2, y1, y2, A, B, P, rfl, ⟨r1, r2⟩, ⟨s1, s2⟩, ⟨p1, p2⟩, hb⟩
  have hW := hb
  clear hb
  have r_A1 := r1
  have r_A2 := r2
  obtain ⟨Aa1, Ac1, rfl⟩ := r_A1.form
  obtain ⟨Aa2, Ac2, rfl⟩ := r_A2.form
  have r_B1 := s1
  have r_B2 := s2
  obtain ⟨Ba1, Bc1, rfl⟩ := r_B1.form
  obtain ⟨Ba2, Bc2, rfl⟩ := r_B2.form
  have r_P1 := p1
  have r_P2 := p2
  obtain ⟨Pa1, Pc1, rfl⟩ := r_P1.form
  obtain ⟨Pa2, Pc2, rfl⟩ := r_P2.form
  clear r1 r2 s1 s2 p1 p2 h
  obtain ⟨ok, hok⟩ : ∃ ok, ok = checkC A B P := ⟨_, rfl⟩
  have hbn : (ok != ok) = false := by cases ok <;> rfl
  have hbe : (ok == ok) = true := by cases ok <;> rfl
  have HX := Lib.hid hok
  clear hok
  go_wp2_with fail
  refine (checkCaseI_any _ _ _ _ _ _ A B P _ (r_A1.keep Bl) (r_A2.keep Bl) (r_B1.keep Bl) (r_B2.keep Bl) (r_P1.keep Bl) (r_P2.keep Bl)).mono ?_
  rw [← HX.out]
  rintro e w2 ⟨rfl, hb⟩
  have c_A1 := cell_keep hb (p := ⟨w1.heap.size, 0, none⟩) (v := .slice Aa1 A.1.length Ac1) (by simp [go_sem])
  have c_A2 := cell_keep hb (p := ⟨w1.heap.size, 1, none⟩) (v := .slice Aa2 A.2.length Ac2) (by simp [go_sem])
  have c_B1 := cell_keep hb (p := ⟨w1.heap.size + 1, 0, none⟩) (v := .slice Ba1 B.1.length Bc1) (by simp [go_sem])
  have c_B2 := cell_keep hb (p := ⟨w1.heap.size + 1, 1, none⟩) (v := .slice Ba2 B.2.length Bc2) (by simp [go_sem])
  have c_P1 := cell_keep hb (p := ⟨w1.heap.size + 1 + 1, 0, none⟩) (v := .slice Pa1 P.1.length Pc1) (by simp [go_sem])
  have c_P2 := cell_keep hb (p := ⟨w1.heap.size + 1 + 1, 1, none⟩) (v := .slice Pa2 P.2.length Pc2) (by simp [go_sem])
  replace hb : Below w1.heap.size w1 w2 := bt Bl hb
  replace r_A1 := r_A1.keep hb
  replace r_A2 := r_A2.keep hb
  replace r_B1 := r_B1.keep hb
  replace r_B2 := r_B2.keep hb
  replace r_P1 := r_P1.keep hb
  replace r_P2 := r_P2.keep hb
  replace hW := bt hW hb
  clear hb
  have z_A : w1.heap.size < w2.heap.size := World.block_lt_of_cell? w2 _ c_A1
  have z_B : w1.heap.size + 1 < w2.heap.size := World.block_lt_of_cell? w2 _ c_B1
  have z_P : w1.heap.size + 1 + 1 < w2.heap.size := World.block_lt_of_cell? w2 _ c_P1
  go_wp2_with fail
  refine (checkCaseS_any _ _ _ _ _ _ A B P _ (r_A1.keep Bl) (r_A2.keep Bl) (r_B1.keep Bl) (r_B2.keep Bl) (r_P1.keep Bl) (r_P2.keep Bl)).mono ?_
  rw [← HX.out]
  rintro e w3 ⟨rfl, hb⟩
  replace c_A1 := cell_keep hb c_A1
  replace c_A2 := cell_keep hb c_A2
  replace c_B1 := cell_keep hb c_B1
  replace c_B2 := cell_keep hb c_B2
  replace c_P1 := cell_keep hb c_P1
  replace c_P2 := cell_keep hb c_P2
  replace r_A1 := r_A1.keep hb
  replace r_A2 := r_A2.keep hb
  replace r_B1 := r_B1.keep hb
  replace r_B2 := r_B2.keep hb
  replace r_P1 := r_P1.keep hb
  replace r_P2 := r_P2.keep hb
  replace hW := bt hW hb
  clear hb
  clear z_A
  have z_A : w1.heap.size < w3.heap.size := World.block_lt_of_cell? w3 _ c_A1
  clear z_B
  have z_B : w1.heap.size + 1 < w3.heap.size := World.block_lt_of_cell? w3 _ c_B1
  clear z_P
  have z_P : w1.heap.size + 1 + 1 < w3.heap.size := World.block_lt_of_cell? w3 _ c_P1
  cases ok with
  | false =>
    go_wp2_with fail
    refine (checkCaseS_any _ _ _ _ _ _ A B P _ (r_A1.keep Bl) (r_A2.keep Bl) (r_B1.keep Bl) (r_B2.keep Bl) (r_P1.keep Bl) (r_P2.keep Bl)).mono ?_
    rw [← HX.out]
    rintro e w4 ⟨rfl, hb⟩
    replace c_A1 := cell_keep hb c_A1
    replace c_A2 := cell_keep hb c_A2
    replace c_B1 := cell_keep hb c_B1
    replace c_B2 := cell_keep hb c_B2
    replace c_P1 := cell_keep hb c_P1
    replace c_P2 := cell_keep hb c_P2
    replace r_A1 := r_A1.keep hb
    replace r_A2 := r_A2.keep hb
    replace r_B1 := r_B1.keep hb
    replace r_B2 := r_B2.keep hb
    replace r_P1 := r_P1.keep hb
    replace r_P2 := r_P2.keep hb
    replace hW := bt hW hb
    clear hb
    clear z_A
    have z_A : w1.heap.size < w4.heap.size := World.block_lt_of_cell? w4 _ c_A1
    clear z_B
    have z_B : w1.heap.size + 1 < w4.heap.size := World.block_lt_of_cell? w4 _ c_B1
    clear z_P
    have z_P : w1.heap.size + 1 + 1 < w4.heap.size := World.block_lt_of_cell? w4 _ c_P1
    go_wp2
    go_ret
    exact ⟨rfl, hW⟩
  | true =>
    have hpc := checks_prove HX.out.symm
    have HE := Lib.hid hpc
    clear hpc
    go_wp2_with fail
    refine (proveI_any _ _ _ _ _ A B P.1 _ (r_A1.keep Bl) (r_A2.keep Bl) (r_B1.keep Bl) (r_B2.keep Bl) (r_P1.keep Bl)).mono ?_
    rw [HE.out.1, HE.out.2]
    rintro e w4 ⟨x1, x2, rfl, hx, hb⟩
    replace c_A1 := cell_keep hb c_A1
    replace c_A2 := cell_keep hb c_A2
    replace c_B1 := cell_keep hb c_B1
    replace c_B2 := cell_keep hb c_B2
    replace c_P1 := cell_keep hb c_P1
    replace c_P2 := cell_keep hb c_P2
    replace r_A1 := r_A1.keep hb
    replace r_A2 := r_A2.keep hb
    replace r_B1 := r_B1.keep hb
    replace r_B2 := r_B2.keep hb
    replace r_P1 := r_P1.keep hb
    replace r_P2 := r_P2.keep hb
    replace hW := bt hW hb
    clear hb
    clear z_A
    have z_A : w1.heap.size < w4.heap.size := World.block_lt_of_cell? w4 _ c_A1
    clear z_B
    have z_B : w1.heap.size + 1 < w4.heap.size := World.block_lt_of_cell? w4 _ c_B1
    clear z_P
    have z_P : w1.heap.size + 1 + 1 < w4.heap.size := World.block_lt_of_cell? w4 _ c_P1
    have r_Q1 := hx.one.any
    have r_Q2 := hx.two.any
    obtain ⟨Qa1, Qc1, rfl⟩ := r_Q1.form
    obtain ⟨Qa2, Qc2, rfl⟩ := r_Q2.form
    clear hx
    go_wp2_with fail
    refine (cb (entCaseI_any _ _ _ _ _ A B P.1 _ (r_A1.keep Bl) (r_A2.keep Bl) (r_B1.keep Bl) (r_B2.keep Bl) (r_P1.keep Bl)) HE.out.1).mono ?_
    rintro e w5 ⟨rfl, hb⟩
    have c_Q1 := cell_keep hb (p := ⟨w4.heap.size, 0, none⟩) (v := .slice Qa1 P.1.length Qc1) (by simp)
    have c_Q2 := cell_keep hb (p := ⟨w4.heap.size, 1, none⟩) (v := .slice Qa2 P.2.length Qc2) (by simp)
    replace hb : Below w4.heap.size w4 w5 := bt Bl hb
    replace c_A1 := cell_keep hb c_A1
    replace c_A2 := cell_keep hb c_A2
    replace c_B1 := cell_keep hb c_B1
    replace c_B2 := cell_keep hb c_B2
    replace c_P1 := cell_keep hb c_P1
    replace c_P2 := cell_keep hb c_P2
    replace r_A1 := r_A1.keep hb
    replace r_A2 := r_A2.keep hb
    replace r_B1 := r_B1.keep hb
    replace r_B2 := r_B2.keep hb
    replace r_P1 := r_P1.keep hb
    replace r_P2 := r_P2.keep hb
    replace r_Q1 := r_Q1.keep hb
    replace r_Q2 := r_Q2.keep hb
    replace hW := bt hW hb
    clear hb
    clear z_A
    have z_A : w1.heap.size < w5.heap.size := World.block_lt_of_cell? w5 _ c_A1
    clear z_B
    have z_B : w1.heap.size + 1 < w5.heap.size := World.block_lt_of_cell? w5 _ c_B1
    clear z_P
    have z_P : w1.heap.size + 1 + 1 < w5.heap.size := World.block_lt_of_cell? w5 _ c_P1
    have z_Q : w4.heap.size < w5.heap.size := World.block_lt_of_cell? w5 _ c_Q1
    go_wp2_with fail
    refine (slProof_any _ _ _ _ P _ (r_P1.keep Bl) (r_P2.keep Bl) (r_Q1.keep Bl) (r_Q2.keep Bl)).mono ?_
    rintro e w6 ⟨rfl, hb⟩
    replace c_A1 := cell_keep hb c_A1
    replace c_A2 := cell_keep hb c_A2
    replace c_B1 := cell_keep hb c_B1
    replace c_B2 := cell_keep hb c_B2
    replace c_P1 := cell_keep hb c_P1
    replace c_P2 := cell_keep hb c_P2
    replace c_Q1 := cell_keep hb c_Q1
    replace c_Q2 := cell_keep hb c_Q2
    replace r_A1 := r_A1.keep hb
    replace r_A2 := r_A2.keep hb
    replace r_B1 := r_B1.keep hb
    replace r_B2 := r_B2.keep hb
    replace r_P1 := r_P1.keep hb
    replace r_P2 := r_P2.keep hb
    replace r_Q1 := r_Q1.keep hb
    replace r_Q2 := r_Q2.keep hb
    replace hW := bt hW hb
    clear hb
    clear z_A
    have z_A : w1.heap.size < w6.heap.size := World.block_lt_of_cell? w6 _ c_A1
    clear z_B
    have z_B : w1.heap.size + 1 < w6.heap.size := World.block_lt_of_cell? w6 _ c_B1
    clear z_P
    have z_P : w1.heap.size + 1 + 1 < w6.heap.size := World.block_lt_of_cell? w6 _ c_P1
    clear z_Q
    have z_Q : w4.heap.size < w6.heap.size := World.block_lt_of_cell? w6 _ c_Q1
    go_wp2
    go_ret
    exact ⟨rfl, hW⟩
end Go.Proofs.Ytapoillhgimdiaa
