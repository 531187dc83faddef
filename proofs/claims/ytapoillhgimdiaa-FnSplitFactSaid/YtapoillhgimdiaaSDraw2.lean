/- Draw2: texts Dr3, Dr4, Dr5, Dr6, Dr7 in one. -/
import Derived.Test.YtapoillhgimdiaaSDraw1
import Derived.Test.YtapoillhgimdiaaSBase2
import Derived.Deep.DeepMust
/- Walks: drawing states with lists. -/
namespace Go.Proofs.Ytapoillhgimdiaa
open Go.RowKit

section
variable {w0 w w' : World} {g q q' B bA bB : Nat} {v1 v2 : Value} {l1 l2 : List Int}
theorem DrSt.start {w1 : World} {hB : Nat} (hst : OwnSt w1 (w.heap.size + 1) v1 v2 l1 l2) (hr : Rdr w g q) (hb : Below (w.alloc (.cells #[.slice none 0 0, .slice none 0 0] 77)).heap.size (w.alloc (.cells #[.slice none 0 0, .slice none 0 0] 77)) w1) (hB1 : w1.heap.size = hB) :
    DrSt w (w1.alloc (.cells #[v1, v2] 77)) g q (w.heap.size + 1) w.heap.size hB v1 v2 l1 l2 := by
  subst hB1
  exact ⟨hst.keep (below_alloc _ _), ((hr.keep (below_alloc w _)).keep hb).keep (below_alloc _ _), box_keep (box_keep (heap_alloc_new w _) hb) (below_alloc _ _), heap_alloc_new w1 _,
    ((Below.fr (bt (below_alloc w _) hb)).mono fun _ _ h => h.elim).thenB (below_alloc _ _)⟩
end

end Go.Proofs.Ytapoillhgimdiaa
/- Walks: copies of states in the reference; changed states. -/
namespace Go.Proofs.Ytapoillhgimdiaa
open Go.RowKit

theorem news_of {w : World} {b o n c : Nat} {l : List Int} (h : RInts w (.slice (some ⟨b, o, none⟩) n c) l) : ∀ j u, (ints l)[j]? = some u → w.cell? ((⟨b, o, none⟩ : Addr).add j) = some u := by
  intro j u hj
  have hjl : j < l.length := by
    rcases Nat.lt_or_ge j l.length with h | h
    · exact h
    · rw [List.getElem?_eq_none (by simpa [ints] using h)] at hj; cases hj
  have hu : u = .int .i64 (gi l j) := by
    simp [ints, hjl] at hj; rw [gi_of hjl, ← hj]
  have := (h.at j hjl).2
  have e : (⟨b, o, none⟩ : Addr).add j = ⟨b, o + j, none⟩ := by unfold Addr.add; split <;> simp_all
  rw [e, this, hu]

theorem RInts.news {w : World} {b o c : Nat} {l : List Int} (h : RInts w (.slice (some ⟨b, o, none⟩) l.length c) l) : ∀ j u, (ints l)[j]? = some u → w.cell? ((⟨b, o, none⟩ : Addr).add j) = some u := news_of h

/-- A step: a readable list is appended to an empty row of the call's own. -/
theorem step_copy (w : World) {ops : Array Oper} {o : Oper} {a : Act} {K : Act → World → Prop} {Q : Exit → Act → World → Prop} {E : Prop} (hgd : o.guard = none) (s x : Operand) (t : TypeId)
    (ho : o.op = .call { callee := .builtin .append, args := #[s, x], argTypes := #[t, t] })
    (base e0 : Nat) (ht : Try.prog.underlying t = some (.slice 3)) (hs : a.eval s = .slice (some ⟨e0, 0, none⟩) 0 0)
    (hown : w.ownsRow base 3 1 (.slice (some ⟨e0, 0, none⟩) 0 0) 0 (ints [])) (b oo c : Nat) (l : List Int) (hx : a.eval x = .slice (some ⟨b, oo, none⟩) l.length c)
    (hr : RInts w (.slice (some ⟨b, oo, none⟩) l.length c) l) (hl : l.length ≤ 1048576) (hp : 0 < l.length) (hbase : base ≤ w.heap.size)
    (h : ∀ g cap w', w'.ownsRow base 3 1 (.slice (some ⟨g, 0, none⟩) l.length cap) l.length (ints l) → Fr (fun k => k = e0) w w' → (g = e0 ∨ g = w.heap.size) → g < w'.heap.size → K (a.put o.dst (.slice (some ⟨g, 0, none⟩) l.length cap)) w') :
    if Region.wanted o (yielded ops a.tmps) = true then Oper.wp Try.prog o a w K Q else E := by
  obtain ⟨i0, hi, hz0, hz1, hz2⟩ := info_parts info_int
  refine step_append_lies w hgd s x t ho base 3 i0 (.int .i64 0) 1 8 ht hi hz0 hz1 hz2 rfl (by omega) _ 0 (ints []) hs hown ⟨b, oo, none⟩ l.length c (ints l) hx (by simp [ints]) hr.news ?_ hp (by unfold maxLen; omega) (by omega) hbase _ rfl ?_
  · intro u hu
    simp [ints] at hu
    obtain ⟨_, _, rfl⟩ := hu
    rfl
  · intro g cap w' hown' hgrow hlie hlt
    rw [Nat.zero_add] at hown' ⊢
    have e0' : ints [] ++ ints l = ints l := by simp [ints]
    rw [e0'] at hown'
    refine h g cap w' hown' ((grown_fr hgrow).mono fun k _ hk => by simpa [Value.ownBlock] using hk) ?_ hlt
    rcases hlie with hh | hh
    · left; simpa [Value.ownBlock] using hh.symm
    · exact .inr hh

set_option maxHeartbeats 3200000 in
theorem l2Copy_any (v1 v2 : Value) (l1 l2 : List Int) (w : World) (h1 : RInts w v1 l1) (h2 : RInts w v2 l2) (hl1 : l1.length ≤ 1048576) (hl2 : l2.length ≤ 1048576) (hp1 : 0 < l1.length) (hp2 : 0 < l2.length) :
    Calls Try.prog 206 #[.agg #[v1, v2]] w fun e w' => ∃ u1 u2, e = .returned (.agg #[u1, u2]) ∧ OwnSt w' w.heap.size u1 u2 l1 l2 ∧ Below w.heap.size w w' := by
  obtain ⟨b1, o1, c1, rfl, _, _, hcell1⟩ := h1.ne hp1
  obtain ⟨b2, o2, c2, rfl, _, _, hcell2⟩ := h2.ne hp2
  clear hcell1 hcell2
  have q1 := (h1.alloc (.cells #[.slice (some ⟨b1, o1, none⟩) l1.length c1, .slice (some ⟨b2, o2, none⟩) l2.length c2] 77)).alloc (.cells #[.slice none 0 0, .slice none 0 0] 77)
  have q2 := (h2.alloc (.cells #[.slice (some ⟨b1, o1, none⟩) l1.length c1, .slice (some ⟨b2, o2, none⟩) l2.length c2] 77)).alloc (.cells #[.slice none 0 0, .slice none 0 0] 77)
  go_enter Try.func206, Try.ntmps206
  go_wp2
  generalize hw0 : (w.alloc (.cells #[.slice (some ⟨b1, o1, none⟩) l1.length c1, .slice (some ⟨b2, o2, none⟩) l2.length c2] 77)).alloc (.cells #[.slice none 0 0, .slice none 0 0] 77) = w0 at *
  have hc0 : w0.cell? ⟨w.heap.size, 0, none⟩ = some (.slice (some ⟨b1, o1, none⟩) l1.length c1) := by rw [← hw0]; simp [go_sem]
  have hc1 : w0.cell? ⟨w.heap.size, 1, none⟩ = some (.slice (some ⟨b2, o2, none⟩) l2.length c2) := by rw [← hw0]; simp [go_sem]
  have hA : w0.heap[w.heap.size + 1]? = some (.cells #[.slice none 0 0, .slice none 0 0] 77 (0, 0)) := by
    rw [← hw0]
    have := heap_alloc_new (w.alloc (.cells #[.slice (some ⟨b1, o1, none⟩) l1.length c1, .slice (some ⟨b2, o2, none⟩) l2.length c2] 77)) (.cells #[.slice none 0 0, .slice none 0 0] 77)
    simpa using this
  have hsz : w0.heap.size = w.heap.size + 2 := by rw [← hw0]; simp
  have hbw : Below w.heap.size w w0 := by rw [← hw0]; exact bt (below_alloc _ _) (below_alloc _ _)
  clear hw0 h1 h2
  have HSZ := Lib.hid hsz
  have HA := Lib.hid hA
  clear hsz hA
  go_region_held3 (fun w' => Fr (fun k => k = w.heap.size + 1) w0 w' ∧ w'.cell? ⟨w.heap.size, 0, none⟩ = some (.slice (some ⟨b1, o1, none⟩) l1.length c1) ∧ w'.cell? ⟨w.heap.size, 1, none⟩ = some (.slice (some ⟨b2, o2, none⟩) l2.length c2))
    (first
      | exact ⟨(Below.fr (Below.refl _ _)).mono fun _ _ h => h.elim, hc0, hc1⟩
      | exact ⟨(Below.fr (below_drew _)).mono fun _ _ h => h.elim, hc0, hc1⟩
      | exact ⟨(Below.fr (below_alloc _ _)).mono fun _ _ h => h.elim, cell_keep (below_alloc _ _) hc0, cell_keep (below_alloc _ _) hc1⟩
      | exact ⟨(Below.fr (bt (below_alloc _ _) (below_drew _))).mono fun _ _ h => h.elim, cell_keep (bt (below_alloc _ _) (below_drew _)) hc0, cell_keep (bt (below_alloc _ _) (below_drew _)) hc1⟩
      | exact ⟨(Below.fr (bt (below_alloc _ _) (below_alloc _ _))).mono fun _ _ h => h.elim, cell_keep (bt (below_alloc _ _) (below_alloc _ _)) hc0, cell_keep (bt (below_alloc _ _) (below_alloc _ _)) hc1⟩
      | exact ⟨(Below.fr (bt (bt (below_alloc _ _) (below_alloc _ _)) (below_drew _))).mono fun _ _ h => h.elim, cell_keep (bt (bt (below_alloc _ _) (below_alloc _ _)) (below_drew _)) hc0, cell_keep (bt (bt (below_alloc _ _) (below_alloc _ _)) (below_drew _)) hc1⟩
      | exact ⟨(Below.fr hb3).mono fun _ _ h => h.elim, cell_keep hb3 hc0, cell_keep hb3 hc1⟩
      | exact ⟨(Below.fr (bt hb3 (below_alloc _ _))).mono fun _ _ h => h.elim, cell_keep (bt hb3 (below_alloc _ _)) hc0, cell_keep (bt hb3 (below_alloc _ _)) hc1⟩
      | exact ⟨(Below.fr hb4).mono fun _ _ h => h.elim, cell_keep hb4 hc0, cell_keep hb4 hc1⟩
      | exact ⟨(((Below.fr hb4).mono fun _ _ h => h.elim).then (fr_set _ _ _) (fun i hi e => by simp at e; omega)).then (fr_set _ _ _) (fun i hi e => by simp at e; omega), (fr_set _ _ _).cell (by simp) ((fr_set _ _ _).cell (by simp) (cell_keep hb4 hc0)), (fr_set _ _ _).cell (by simp) ((fr_set _ _ _).cell (by simp) (cell_keep hb4 hc1))⟩)
    (first
      | (refine step_copy _ (by rfl) _ _ _ (by rfl) (w.heap.size + 2) _ Try.underlying41 (by rfl) (by
          first
          | exact own_empty_at _ _ _ _ (by first | rfl | exact World.size_alloc _ _) (by have := HSZ.out; omega)
          | exact own_keep (own_empty_at _ _ _ _ (by first | rfl | exact World.size_alloc _ _) (by have := HSZ.out; omega)) (below_drew _)
          | exact own_keep (own_empty_at w0 _ _ _ (by first | rfl | exact World.size_alloc _ _) (by have := HSZ.out; omega)) (below_alloc _ _)
          | exact own_keep (own_empty_at w0 _ _ _ (by first | rfl | exact World.size_alloc _ _) (by have := HSZ.out; omega)) (bt (below_alloc _ _) (below_drew _))) b1 o1 c1 l1 (by rfl) (q1.keep (by first | exact below_drew _ | exact below_alloc _ _ | exact bt (below_alloc _ _) (below_drew _) | exact bt (below_alloc _ _) (below_alloc _ _) | exact bt (bt (below_alloc _ _) (below_alloc _ _)) (below_drew _))) hl1 hp1 (by have := HSZ.out; simp; omega) ?_; intro gg1 cc1 w3 hown3 hf3 hlie3 hlt3;
          have hb3 : Below w0.heap.size w0 w3 := (by first
            | exact (((Below.fr (bt (below_alloc _ _) (below_drew _))).mono fun _ _ h => h.elim).trans hf3).below (Nat.le_refl _) (fun k hk e => by omega)
            | exact (((Below.fr (bt (bt (below_alloc _ _) (below_alloc _ _)) (below_drew _))).mono fun _ _ h => h.elim).trans hf3).below (Nat.le_refl _) (fun k hk e => by omega));
          have hz3 := hb3.size;
          (try have hE := own_kept (own_keep (own_empty_at (w0.alloc (.cells #[] 3)) (w.heap.size + 2) 3 (w0.heap.size + 1) (World.size_alloc _ _) (by have := HSZ.out; omega)) (below_drew _)) hf3 (fun k hk e => by simp [Value.ownBlock] at hk; omega));
          (try have hE := own_kept (own_keep (own_empty_at w0 (w.heap.size + 2) 3 w0.heap.size rfl (by have := HSZ.out; omega)) (bt (below_alloc _ _) (below_drew _))) hf3 (fun k hk e => by simp [Value.ownBlock] at hk; omega)))
      | (refine step_copy _ (by rfl) _ _ _ (by rfl) (w.heap.size + 2) _ Try.underlying41 (by rfl) (by
          first
          | exact own_empty_at _ _ _ _ (by first | rfl | exact World.size_alloc _ _) (by have := HSZ.out; omega)
          | exact hE) b2 o2 c2 l2 (by rfl) (q2.keep (by first | exact hb3 | exact bt hb3 (below_alloc _ _))) hl2 hp2 (by have := HSZ.out; first | omega | (simp; omega)) ?_; intro gg2 cc2 w4 hown4 hf4 hlie4 hlt4;
          have hb4 : Below w0.heap.size w0 w4 := (by first
            | exact (((Below.fr hb3).mono fun _ _ h => h.elim).trans hf4).below (Nat.le_refl _) (fun k hk e => by omega)
            | exact (((Below.fr (bt hb3 (below_alloc _ _))).mono fun _ _ h => h.elim).trans hf4).below (Nat.le_refl _) (fun k hk e => by omega));
          have hA4 := box_keep HA.out hb4;
          have hz4 := hb4.size;
          have hst : OwnSt w4 (w.heap.size + 2) (.slice (some ⟨gg1, 0, none⟩) l1.length cc1) (.slice (some ⟨gg2, 0, none⟩) l2.length cc2) l1 l2 := ⟨(by first | exact own_kept hown3 hf4 (fun k hk e => by simp [Value.ownBlock] at hk; simp at hlie3; omega) | exact own_kept (own_keep hown3 (below_alloc _ _)) hf4 (fun k hk e => by simp [Value.ownBlock] at hk; simp at hlie3; omega)), hown4, (fun k hk hk2 => by simp [Value.ownBlock] at hk hk2; simp at hlie3 hlie4; omega)⟩; have ha0 := box0 hA4; have ha1 := box1 hA4; have haz := boxz hA4 0; have haz1 := boxz hA4 1))
  all_goals
    have HST := Lib.hid hst
    have HB4 := Lib.hid hb4
    clear hst hb4 hb3 hown3 hown4 hf3 hf4 hlie3 hlie4 hA4
    go_wp2
    refine bodyPost_ret (v := .agg #[.slice (some ⟨gg1, 0, none⟩) l1.length cc1, .slice (some ⟨gg2, 0, none⟩) l2.length cc2]) (by simp [results, Try.results206, go_sem, ha0, ha1]) rfl ?_
    have hs2 := HSZ.out
    refine ⟨_, _, rfl, ?_, ?_⟩
    · exact ((HST.out.kept (fr_set _ _ _) (fun k h1 _ e => by simp at e; omega)).kept (fr_set _ _ _) (fun k h1 _ e => by simp at e; omega)).mono (by omega)
    · exact (((((Below.fr hbw).mono (S' := fun k => k = w.heap.size + 1) fun _ _ h => h.elim).thenB HB4.out).then (fr_set _ _ _) (fun i hi e => by simp at e; omega)).then (fr_set _ _ _) (fun i hi e => by simp at e; omega)).below (Nat.le_refl _) (fun k hk e => by omega)
end Go.Proofs.Ytapoillhgimdiaa
namespace Go.Proofs.Ytapoillhgimdiaa
open Go.RowKit
section
variable {w0 w : World} {g q B bA bB : Nat} {v1 v2 : Value} {l1 l2 : List Int}
theorem DrSt.done (h : DrSt w0 w g q B bA bB v1 v2 l1 l2) (hB : bA < B) (hA : w0.heap.size ≤ bA) (hg : g < w0.heap.size) (x y : Value) :
    OwnSt ((w.setCell ⟨bA, 0, none⟩ x).setCell ⟨bA, 1, none⟩ y) B v1 v2 l1 l2 ∧ Rdr ((w.setCell ⟨bA, 0, none⟩ x).setCell ⟨bA, 1, none⟩ y) g q ∧ Fr (fun j => j = g) w0 ((w.setCell ⟨bA, 0, none⟩ x).setCell ⟨bA, 1, none⟩ y) := by
  refine ⟨?_, ?_, ?_⟩
  · exact (h.own.kept (fr_set _ _ _) (fun k h1 _ e => by simp at e; omega)).kept (fr_set _ _ _) (fun k h1 _ e => by simp at e; omega)
  · exact (h.rdr.kept (fr_set _ _ _) (fun k h1 e => by simp at e; omega)).kept (fr_set _ _ _) (fun k h1 e => by simp at e; omega)
  · exact (h.fr.then (fr_set _ _ _) (fun i hi e => by simp at e; omega)).then (fr_set _ _ _) (fun i hi e => by simp at e; omega)
end
theorem own_nil (w : World) (B : Nat) : OwnSt w B (.slice none 0 0) (.slice none 0 0) [] [] :=
  ⟨⟨rfl, .inl ⟨rfl, rfl⟩⟩, ⟨rfl, .inl ⟨rfl, rfl⟩⟩, fun k hk => by simp [Value.ownBlock] at hk⟩

set_option maxHeartbeats 3200000 in
theorem l2Mutate_any (g q : Nat) (v1 v2 : Value) (l1 l2 : List Int) (w : World) (hr : Rdr w g q) (hq : q ≤ 1000000) (h1 : RInts w v1 l1) (h2 : RInts w v2 l2) (hl1 : l1.length = 8) (hl2 : l2.length = 8) :
    Calls Try.prog 141 #[.pointer (some ⟨g, 0, none⟩), .agg #[v1, v2]] w fun e w' => ∃ u1 u2 m1 m2, e = .returned (.agg #[u1, u2]) ∧ m1.length ≤ 9 ∧ m2.length ≤ 9 ∧ OwnSt w' w.heap.size u1 u2 m1 m2 ∧ Rdr w' g (q + 2) ∧ Fr (fun j => j = g) w w' := by
  have hgl := hr.lt
  go_enter Try.func141, Try.ntmps141
  go_wp2_with fail
  refine (l2Copy_any _ _ l1 l2 _ ((h1.alloc _).alloc _) ((h2.alloc _).alloc _) (by omega) (by omega) (by omega) (by omega)).mono ?_
  rintro e w1 ⟨u1, u2, rfl, hst, hb⟩
  obtain ⟨g1, c1, rfl, hg1, hgu1⟩ := own_at hst.one (by omega)
  obtain ⟨g2, c2, rfl, hg2, hgu2⟩ := own_at hst.two (by omega)
  have hz1 : w.heap.size + 1 < w1.heap.size := by have := hb.size; simp at this; omega
  simp at hg1 hg2
  rw [World.size_alloc] at hst
  have D0 := DrSt.start (w := w.alloc (.cells #[v1, v2] 77)) hst (hr.keep (below_alloc _ _)) hb rfl
  simp only [World.size_alloc] at D0
  clear hst hb hr h1 h2
  rw [hl1, hl2] at D0
  rw [hl1, hl2]
  have E8 := Lib.hid hl1
  have E8' := Lib.hid hl2
  clear hl1 hl2
  go_wp2_with fail
  refine (pick_any g q _ _ D0.rdr (by omega) (by omega) (by omega)).mono ?_
  rintro e w2 ⟨k, rfl, hk, hr1, hf1⟩
  have D := D0.drawn hr1 hf1 (by omega) (by omega) (by omega)
  clear D0 hr1 hf1
  have hc0 := box0 D.boxB
  have hc1 := box1 D.boxB
  have hzz := box_lt D.boxB
  have hgl2 := D.rdr.lt
  have ha0 := box0 D.boxA
  have ha1 := box1 D.boxA
  have haz := boxz D.boxA 0
  have haz1 := boxz D.boxA 1
  have HD := Lib.hid D
  clear D
  by_cases k0 : k = 0
  · subst k0
    have hlit := lit_ints w2 [9, -1, 9223372036854775807] (by decide)
    have HLIT := Lib.hid hlit
    have D0 := Lib.hid (show DrSt (w.alloc (.cells #[v1, v2] 77)) w2 g (q + 1) (w.heap.size + 1 + 1) (w.heap.size + 1) w1.heap.size (.slice (some ⟨g1, 0, none⟩) l1.length c1) (.slice (some ⟨g2, 0, none⟩) 8 c2) l1 l2 from by rw [E8.out]; exact HD.out)
    clear hlit HD
    go_wp2
    go_region_held3 (fun w' => w'.cell? ⟨w1.heap.size, 0, none⟩ = some (.slice (some ⟨g1, 0, none⟩) 8 c1))
      (first
        | exact hc0
        | exact cell_keep (bt (below_alloc w2 _) (below_drew _)) hc0
        | (have hh := box0 D6.boxB; rw [E8.out] at hh; rw [World.cell?_of_block (w := w6) (Below.heap_setCell _ _ _ _ (by simp; omega))]; exact hh)
        | (have hh := box0 D6.boxB; rw [E8.out] at hh; exact hh))
      (first
        | (go_at_call 182; refine (num_any g (q + 1) _ [9, -1, 9223372036854775807] _ ((D0.out.keep (bt (below_alloc w2 _) (below_drew _))).rdr) (HLIT.out.keep (below_drew _)) (by omega) (by decide) (by decide) (fun k hk e => by simp [Value.ownBlock] at hk; have := D0.out.rdr.lt; omega)).mono ?_; rintro e w6 ⟨x, _, rfl, hr6, hf6⟩; have D6 := (D0.out.keep (bt (below_alloc w2 _) (below_drew _))).drawn hr6 hf6 (by omega) (by omega) (by omega); obtain ⟨hck6, hfz6⟩ := own_cell D6.own.one 0 (by rw [E8.out]; omega)))
    have D7 := D6.set1 0 x (by simp; omega) (by omega) (by omega) (by omega)
    rw [E8.out] at D7
    have hF := Lib.hid (D7.done (by omega) (by simp) (by simp; omega) (.slice (some ⟨g1, 0, none⟩) 8 c1) (.slice (some ⟨g2, 0, none⟩) 8 c2))
    have hc0 := box0 D7.boxB
    have hc1 := box1 D7.boxB
    have ha0 := box0 D7.boxA
    have ha1 := box1 D7.boxA
    have haz := boxz D7.boxA 0
    have haz1 := boxz D7.boxA 1
    clear D6 D0 D7 hf6 hck6 hfz6 hr6 HLIT
    go_wp2
    refine bodyPost_ret (v := .agg #[.slice (some ⟨g1, 0, none⟩) 8 c1, .slice (some ⟨g2, 0, none⟩) 8 c2]) (by simp [results, Try.results141, go_sem, ha0, ha1]) rfl ?_
    refine ⟨_, _, (l1.set 0 x), l2, rfl, by (try rw [List.length_set]); have := E8.out; omega, by (try rw [List.length_set]); have := E8'.out; omega, hF.out.1.mono (by omega), hF.out.2.1.more (by omega), ?_⟩
    exact ((Below.fr (below_alloc w _)).mono fun _ _ h => h.elim).trans hF.out.2.2
  · have kb0 : ((k : Int) == 0) = false := by simp; omega
    by_cases k1 : k = 1
    · subst k1
      have hlit := lit_ints w2 [9, -2, -1] (by decide)
      have HLIT := Lib.hid hlit
      have D0 := Lib.hid (show DrSt (w.alloc (.cells #[v1, v2] 77)) w2 g (q + 1) (w.heap.size + 1 + 1) (w.heap.size + 1) w1.heap.size (.slice (some ⟨g1, 0, none⟩) 8 c1) (.slice (some ⟨g2, 0, none⟩) l2.length c2) l1 l2 from by rw [E8'.out]; exact HD.out)
      clear hlit HD
      go_wp2
      go_region_held3 (fun w' => w'.cell? ⟨w1.heap.size, 1, none⟩ = some (.slice (some ⟨g2, 0, none⟩) 8 c2))
        (first
          | exact hc1
          | exact cell_keep (bt (below_alloc w2 _) (below_drew _)) hc1
          | (have hh := box1 D6.boxB; rw [E8'.out] at hh; rw [World.cell?_of_block (w := w6) (Below.heap_setCell _ _ _ _ (by simp; omega))]; exact hh)
          | (have hh := box1 D6.boxB; rw [E8'.out] at hh; exact hh))
        (first
          | (go_at_call 182; refine (num_any g (q + 1) _ [9, -2, -1] _ ((D0.out.keep (bt (below_alloc w2 _) (below_drew _))).rdr) (HLIT.out.keep (below_drew _)) (by omega) (by decide) (by decide) (fun k hk e => by simp [Value.ownBlock] at hk; have := D0.out.rdr.lt; omega)).mono ?_; rintro e w6 ⟨x, _, rfl, hr6, hf6⟩; have D6 := (D0.out.keep (bt (below_alloc w2 _) (below_drew _))).drawn hr6 hf6 (by omega) (by omega) (by omega); obtain ⟨hck6, hfz6⟩ := own_cell D6.own.two 0 (by rw [E8'.out]; omega)))
      have D7 := D6.set2 0 x (by simp; omega) (by omega) (by omega) (by omega)
      rw [E8'.out] at D7
      have hF := Lib.hid (D7.done (by omega) (by simp) (by simp; omega) (.slice (some ⟨g1, 0, none⟩) 8 c1) (.slice (some ⟨g2, 0, none⟩) 8 c2))
      have hc0 := box0 D7.boxB
      have hc1 := box1 D7.boxB
      have ha0 := box0 D7.boxA
      have ha1 := box1 D7.boxA
      have haz := boxz D7.boxA 0
      have haz1 := boxz D7.boxA 1
      clear D6 D0 D7 hf6 hck6 hfz6 hr6 HLIT
      go_wp2
      refine bodyPost_ret (v := .agg #[.slice (some ⟨g1, 0, none⟩) 8 c1, .slice (some ⟨g2, 0, none⟩) 8 c2]) (by simp [results, Try.results141, go_sem, ha0, ha1]) rfl ?_
      refine ⟨_, _, l1, (l2.set 0 x), rfl, by (try rw [List.length_set]); have := E8.out; omega, by (try rw [List.length_set]); have := E8'.out; omega, hF.out.1.mono (by omega), hF.out.2.1.more (by omega), ?_⟩
      exact ((Below.fr (below_alloc w _)).mono fun _ _ h => h.elim).trans hF.out.2.2
    · have kb1 : ((k : Int) == 1) = false := by simp; omega
      by_cases k2 : k = 2
      · subst k2
        have hn2 : ¬ w1.heap.size = g2 := by omega
        go_wp2_with (at_builtin; go_must (refine app_int2 _ rfl _ _ rfl (w.heap.size + 1 + 1) _ l2 rfl (own_keep HD.out.own.two (below_alloc _ _)) ⟨w2.heap.size, 0, none⟩ _ rfl (cell_new1 _ _ _) (by have := E8'.out; omega) (by simp; omega) ?_); go_must (intro v' w4 hown4 hf4 hlie4; obtain ⟨g3, c3, rfl, hg3, hgu3⟩ := own_at hown4 (by simp); have hbA4 := box_kept (box_keep HD.out.boxA (below_alloc _ _)) hf4 (fun e => by have e' : _ = g2 := Option.some.inj e; omega); have hbB4 := box_kept (box_keep HD.out.boxB (below_alloc _ _)) hf4 (fun e => by have e' : _ = g2 := Option.some.inj e; omega); have hd0 := box0 hbB4; have hd1 := box1 hbB4; have hdz := boxz hbB4 1; have ha0 := box0 hbA4; have ha1 := box1 hbA4; have haz := boxz hbA4 0; have haz1 := boxz hbA4 1; have H4 := Lib.hid (And.intro hown4 (And.intro hf4 hlie4)); clear hown4 hf4 hlie4))
        refine bodyPost_ret (v := .agg #[.slice (some ⟨g1, 0, none⟩) 8 c1, .slice (some ⟨g3, 0, none⟩) (l2 ++ [-1]).length c3]) (by simp [results, Try.results141, go_sem, ha0, ha1]) rfl ?_
        obtain ⟨hown4, hf4, hlie4⟩ := H4.out
        have hD := HD.out
        have e9 : (l2 ++ [(-1 : Int)]).length ≤ 9 := by have := E8'.out; simp; omega
        have hwf : Fr (fun j => j = g) w w4 := (((Below.fr (below_alloc w _)).mono fun _ _ h => h.elim).trans hD.fr |>.thenB (below_alloc _ _)).then hf4 (fun i hi e => by have e' : i = g2 := Option.some.inj e; omega)
        have hgz : g < w4.heap.size := by have := hf4.size; simp at this; omega
        have hO : OwnSt w4 (w.heap.size + 1 + 1) (.slice (some ⟨g1, 0, none⟩) 8 c1) (.slice (some ⟨g3, 0, none⟩) (l2 ++ [-1]).length c3) l1 (l2 ++ [-1]) :=
          ⟨own_kept (own_keep hD.own.one (below_alloc _ _)) hf4 (fun k hk e => hD.own.apart k hk e), hown4, fun k hk hk3 => by
            have hlt := own_ub hD.own.one k hk
            rcases hlie4 k hk3 with h | h
            · exact hD.own.apart k hk h
            · simp at h; omega⟩
        have hR : Rdr w4 g (q + 1) := (hD.rdr.keep (below_alloc _ _)).kept hf4 (fun k h1 e => by have e' : k = g2 := Option.some.inj e; omega)
        refine ⟨_, _, l1, l2 ++ [-1], rfl, by have := E8.out; omega, e9, ?_, ?_, ?_⟩
        · refine ((OwnSt.kept (w := w4.setCell ⟨w1.heap.size, 1, none⟩ _) ⟨own_kept hO.one (fr_set _ _ _) ?_, own_kept hO.two (fr_set _ _ _) ?_, hO.apart⟩ (fr_set _ _ _) (fun k h1 _ e => by simp at e; omega)).kept (fr_set _ _ _) (fun k h1 _ e => by simp at e; omega)).mono (by omega)
          · intro k hk e
            have hk' : k = g1 := Option.some.inj hk
            simp at e; omega
          · intro k hk e
            simp at e
            rcases hlie4 k hk with h | h
            · have h' : k = g2 := Option.some.inj h
              omega
            · simp at h; omega
        · exact (((hR.kept (fr_set _ _ _) (fun k h1 e => by simp at e; omega)).kept (fr_set _ _ _) (fun k h1 e => by simp at e; omega)).kept (fr_set _ _ _) (fun k h1 e => by simp at e; omega)).more (by omega)
        · exact ((hwf.then (fr_set _ _ _) (fun i hi e => by simp at e; omega)).then (fr_set _ _ _) (fun i hi e => by simp at e; omega)).then (fr_set _ _ _) (fun i hi e => by simp at e; omega)
      · have kb2 : ((k : Int) == 2) = false := by simp; omega
        by_cases k3 : k = 3
        · subst k3
          have hF := Lib.hid (HD.out.done (by omega) (by simp) (by simp; omega) (.slice none 0 0) (.slice none 0 0))
          clear HD
          go_wp2
          refine bodyPost_ret (v := .agg #[.slice none 0 0, .slice none 0 0]) (by simp [results, Try.results141, go_sem, ha0, ha1]) rfl ?_
          refine ⟨_, _, [], [], rfl, by simp, by simp, own_nil _ _, hF.out.2.1.more (by omega), ?_⟩
          exact ((Below.fr (below_alloc w _)).mono fun _ _ h => h.elim).trans hF.out.2.2
        · have kb3 : ((k : Int) == 3) = false := by simp; omega
          have hF := Lib.hid (HD.out.done (by omega) (by simp) (by simp; omega) (.slice (some ⟨g1, 0, none⟩) 8 c1) (.slice (some ⟨g2, 0, none⟩) 8 c2))
          clear HD
          go_wp2
          refine bodyPost_ret (v := .agg #[.slice (some ⟨g1, 0, none⟩) 8 c1, .slice (some ⟨g2, 0, none⟩) 8 c2]) (by simp [results, Try.results141, go_sem, ha0, ha1]) rfl ?_
          refine ⟨_, _, l1, l2, rfl, by have := E8.out; omega, by have := E8'.out; omega, hF.out.1.mono (by omega), hF.out.2.1.more (by omega), ?_⟩
          exact ((Below.fr (below_alloc w _)).mono fun _ _ h => h.elim).trans hF.out.2.2
end Go.Proofs.Ytapoillhgimdiaa
namespace Go.Proofs.Ytapoillhgimdiaa
open Go.RowKit

theorem RBytes.keep {w w' : World} {v : Value} {n : Nat} (h : RBytes w v n) (hb : Below w.heap.size w w') : RBytes w' v n := by
  obtain ⟨c, hr, hc⟩ := h
  exact ⟨c, hr.keep hb, hc⟩

end Go.Proofs.Ytapoillhgimdiaa
/- Walks: draws that pass others on. -/
namespace Go.Proofs.Ytapoillhgimdiaa
open Go.RowKit

end Go.Proofs.Ytapoillhgimdiaa
