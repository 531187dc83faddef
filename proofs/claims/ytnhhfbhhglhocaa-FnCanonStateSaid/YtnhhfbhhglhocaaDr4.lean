/- Walks: copies of states in the reference; changed states. -/
import Derived.Test.YtnhhfbhhglhocaaDr3
import Derived.Test.YtnhhfbhhglhocaaW11
import Derived.Deep.DeepMust
namespace Go.Proofs.Ytnhhfbhhglhocaa
open Go.RowKit

theorem news_of {w : World} {b o n c : Nat} {l : List Int} (h : RInts w (.slice (some ⟨b, o, none⟩) n c) l) : ∀ j u, (ints l)[j]? = some u → w.cell? ((⟨b, o, none⟩ : Addr).add j) = some u := by
  intro j u hj
  have hjl : j < l.length := by
    rcases Nat.lt_or_ge j l.length with h | h
    · exact h
    · rw [List.getElem?_eq_none (by simpa [ints] using h)] at hj; cases hj
  have hu : u = .int .i64 (gi l j) := by
    simp [ints, hjl] at hj; rw [gi_of hjl, ← hj]
  have := (h.at j hjl).2
  have e : (⟨b, o, none⟩ : Addr).add j = ⟨b, o + j, none⟩ := by unfold Addr.add; split <;> simp_all
  rw [e, this, hu]

theorem RInts.news {w : World} {b o c : Nat} {l : List Int} (h : RInts w (.slice (some ⟨b, o, none⟩) l.length c) l) : ∀ j u, (ints l)[j]? = some u → w.cell? ((⟨b, o, none⟩ : Addr).add j) = some u := news_of h

/-- A step: a readable list is appended to an empty row of the call's own. -/
theorem step_copy (w : World) {ops : Array Oper} {o : Oper} {a : Act} {K : Act → World → Prop} {Q : Exit → Act → World → Prop} {E : Prop} (hgd : o.guard = none) (s x : Operand) (t : TypeId)
    (ho : o.op = .call { callee := .builtin .append, args := #[s, x], argTypes := #[t, t] })
    (base e0 : Nat) (ht : Try.prog.underlying t = some (.slice 3)) (hs : a.eval s = .slice (some ⟨e0, 0, none⟩) 0 0)
    (hown : w.ownsRow base 3 1 (.slice (some ⟨e0, 0, none⟩) 0 0) 0 (ints [])) (b oo c : Nat) (l : List Int) (hx : a.eval x = .slice (some ⟨b, oo, none⟩) l.length c)
    (hr : RInts w (.slice (some ⟨b, oo, none⟩) l.length c) l) (hl : l.length ≤ 1048576) (hp : 0 < l.length) (hbase : base ≤ w.heap.size)
    (h : ∀ g cap w', w'.ownsRow base 3 1 (.slice (some ⟨g, 0, none⟩) l.length cap) l.length (ints l) → Fr (fun k => k = e0) w w' → (g = e0 ∨ g = w.heap.size) → g < w'.heap.size → K (a.put o.dst (.slice (some ⟨g, 0, none⟩) l.length cap)) w') :
    if Region.wanted o (yielded ops a.tmps) = true then Oper.wp Try.prog o a w K Q else E := by
  obtain ⟨i0, hi, hz0, hz1, hz2⟩ := info_parts info_int
  refine step_append_lies w hgd s x t ho base 3 i0 (.int .i64 0) 1 8 ht hi hz0 hz1 hz2 rfl (by omega) _ 0 (ints []) hs hown ⟨b, oo, none⟩ l.length c (ints l) hx (by simp [ints]) hr.news ?_ hp (by unfold maxLen; omega) (by omega) hbase _ rfl ?_
  · intro u hu
    simp [ints] at hu
    obtain ⟨_, _, rfl⟩ := hu
    rfl
  · intro g cap w' hown' hgrow hlie hlt
    rw [Nat.zero_add] at hown' ⊢
    have e0' : ints [] ++ ints l = ints l := by simp [ints]
    rw [e0'] at hown'
    refine h g cap w' hown' ((grown_fr hgrow).mono fun k _ hk => by simpa [Value.ownBlock] using hk) ?_ hlt
    rcases hlie with hh | hh
    · left; simpa [Value.ownBlock] using hh.symm
    · exact .inr hh

set_option maxHeartbeats 3200000 in
theorem l2Copy_any (v1 v2 : Value) (l1 l2 : List Int) (w : World) (h1 : RInts w v1 l1) (h2 : RInts w v2 l2) (hl1 : l1.length ≤ 1048576) (hl2 : l2.length ≤ 1048576) (hp1 : 0 < l1.length) (hp2 : 0 < l2.length) :
    Calls Try.prog 138 #[.agg #[v1, v2]] w fun e w' => ∃ u1 u2, e = .returned (.agg #[u1, u2]) ∧ OwnSt w' w.heap.size u1 u2 l1 l2 ∧ Below w.heap.size w w' := by
  obtain ⟨b1, o1, c1, rfl, _, _, hcell1⟩ := h1.ne hp1
  obtain ⟨b2, o2, c2, rfl, _, _, hcell2⟩ := h2.ne hp2
  clear hcell1 hcell2
  have q1 := (h1.alloc (.cells #[.slice (some ⟨b1, o1, none⟩) l1.length c1, .slice (some ⟨b2, o2, none⟩) l2.length c2] 34)).alloc (.cells #[.slice none 0 0, .slice none 0 0] 34)
  have q2 := (h2.alloc (.cells #[.slice (some ⟨b1, o1, none⟩) l1.length c1, .slice (some ⟨b2, o2, none⟩) l2.length c2] 34)).alloc (.cells #[.slice none 0 0, .slice none 0 0] 34)
  go_enter Try.func138, Try.ntmps138
  go_wp2
  generalize hw0 : (w.alloc (.cells #[.slice (some ⟨b1, o1, none⟩) l1.length c1, .slice (some ⟨b2, o2, none⟩) l2.length c2] 34)).alloc (.cells #[.slice none 0 0, .slice none 0 0] 34) = w0 at *
  have hc0 : w0.cell? ⟨w.heap.size, 0, none⟩ = some (.slice (some ⟨b1, o1, none⟩) l1.length c1) := by rw [← hw0]; simp [go_sem]
  have hc1 : w0.cell? ⟨w.heap.size, 1, none⟩ = some (.slice (some ⟨b2, o2, none⟩) l2.length c2) := by rw [← hw0]; simp [go_sem]
  have hA : w0.heap[w.heap.size + 1]? = some (.cells #[.slice none 0 0, .slice none 0 0] 34 (0, 0)) := by
    rw [← hw0]
    have := heap_alloc_new (w.alloc (.cells #[.slice (some ⟨b1, o1, none⟩) l1.length c1, .slice (some ⟨b2, o2, none⟩) l2.length c2] 34)) (.cells #[.slice none 0 0, .slice none 0 0] 34)
    simpa using this
  have hsz : w0.heap.size = w.heap.size + 2 := by rw [← hw0]; simp
  have hbw : Below w.heap.size w w0 := by rw [← hw0]; exact bt (below_alloc _ _) (below_alloc _ _)
  clear hw0 h1 h2
  have HSZ := Lib.hid hsz
  have HA := Lib.hid hA
  clear hsz hA
  go_region_held3 (fun w' => Fr (fun k => k = w.heap.size + 1) w0 w' ∧ w'.cell? ⟨w.heap.size, 0, none⟩ = some (.slice (some ⟨b1, o1, none⟩) l1.length c1) ∧ w'.cell? ⟨w.heap.size, 1, none⟩ = some (.slice (some ⟨b2, o2, none⟩) l2.length c2))
    (first
      | exact ⟨(Below.fr (Below.refl _ _)).mono fun _ _ h => h.elim, hc0, hc1⟩
      | exact ⟨(Below.fr (below_drew _)).mono fun _ _ h => h.elim, hc0, hc1⟩
      | exact ⟨(Below.fr (below_alloc _ _)).mono fun _ _ h => h.elim, cell_keep (below_alloc _ _) hc0, cell_keep (below_alloc _ _) hc1⟩
      | exact ⟨(Below.fr (bt (below_alloc _ _) (below_drew _))).mono fun _ _ h => h.elim, cell_keep (bt (below_alloc _ _) (below_drew _)) hc0, cell_keep (bt (below_alloc _ _) (below_drew _)) hc1⟩
      | exact ⟨(Below.fr (bt (below_alloc _ _) (below_alloc _ _))).mono fun _ _ h => h.elim, cell_keep (bt (below_alloc _ _) (below_alloc _ _)) hc0, cell_keep (bt (below_alloc _ _) (below_alloc _ _)) hc1⟩
      | exact ⟨(Below.fr (bt (bt (below_alloc _ _) (below_alloc _ _)) (below_drew _))).mono fun _ _ h => h.elim, cell_keep (bt (bt (below_alloc _ _) (below_alloc _ _)) (below_drew _)) hc0, cell_keep (bt (bt (below_alloc _ _) (below_alloc _ _)) (below_drew _)) hc1⟩
      | exact ⟨(Below.fr hb3).mono fun _ _ h => h.elim, cell_keep hb3 hc0, cell_keep hb3 hc1⟩
      | exact ⟨(Below.fr (bt hb3 (below_alloc _ _))).mono fun _ _ h => h.elim, cell_keep (bt hb3 (below_alloc _ _)) hc0, cell_keep (bt hb3 (below_alloc _ _)) hc1⟩
      | exact ⟨(Below.fr hb4).mono fun _ _ h => h.elim, cell_keep hb4 hc0, cell_keep hb4 hc1⟩
      | exact ⟨(((Below.fr hb4).mono fun _ _ h => h.elim).then (fr_set _ _ _) (fun i hi e => by simp at e; omega)).then (fr_set _ _ _) (fun i hi e => by simp at e; omega), (fr_set _ _ _).cell (by simp) ((fr_set _ _ _).cell (by simp) (cell_keep hb4 hc0)), (fr_set _ _ _).cell (by simp) ((fr_set _ _ _).cell (by simp) (cell_keep hb4 hc1))⟩)
    (first
      | (refine step_copy _ (by rfl) _ _ _ (by rfl) (w.heap.size + 2) _ Try.underlying29 (by rfl) (by
          first
          | exact own_empty_at _ _ _ _ (by first | rfl | exact World.size_alloc _ _) (by have := HSZ.out; omega)
          | exact own_keep (own_empty_at _ _ _ _ (by first | rfl | exact World.size_alloc _ _) (by have := HSZ.out; omega)) (below_drew _)
          | exact own_keep (own_empty_at w0 _ _ _ (by first | rfl | exact World.size_alloc _ _) (by have := HSZ.out; omega)) (below_alloc _ _)
          | exact own_keep (own_empty_at w0 _ _ _ (by first | rfl | exact World.size_alloc _ _) (by have := HSZ.out; omega)) (bt (below_alloc _ _) (below_drew _))) b1 o1 c1 l1 (by rfl) (q1.keep (by first | exact below_drew _ | exact below_alloc _ _ | exact bt (below_alloc _ _) (below_drew _) | exact bt (below_alloc _ _) (below_alloc _ _) | exact bt (bt (below_alloc _ _) (below_alloc _ _)) (below_drew _))) hl1 hp1 (by have := HSZ.out; simp; omega) ?_; intro gg1 cc1 w3 hown3 hf3 hlie3 hlt3;
          have hb3 : Below w0.heap.size w0 w3 := (by first
            | exact (((Below.fr (bt (below_alloc _ _) (below_drew _))).mono fun _ _ h => h.elim).trans hf3).below (Nat.le_refl _) (fun k hk e => by omega)
            | exact (((Below.fr (bt (bt (below_alloc _ _) (below_alloc _ _)) (below_drew _))).mono fun _ _ h => h.elim).trans hf3).below (Nat.le_refl _) (fun k hk e => by omega));
          have hz3 := hb3.size;
          (try have hE := own_kept (own_keep (own_empty_at (w0.alloc (.cells #[] 3)) (w.heap.size + 2) 3 (w0.heap.size + 1) (World.size_alloc _ _) (by have := HSZ.out; omega)) (below_drew _)) hf3 (fun k hk e => by simp [Value.ownBlock] at hk; omega));
          (try have hE := own_kept (own_keep (own_empty_at w0 (w.heap.size + 2) 3 w0.heap.size rfl (by have := HSZ.out; omega)) (bt (below_alloc _ _) (below_drew _))) hf3 (fun k hk e => by simp [Value.ownBlock] at hk; omega)))
      | (refine step_copy _ (by rfl) _ _ _ (by rfl) (w.heap.size + 2) _ Try.underlying29 (by rfl) (by
          first
          | exact own_empty_at _ _ _ _ (by first | rfl | exact World.size_alloc _ _) (by have := HSZ.out; omega)
          | exact hE) b2 o2 c2 l2 (by rfl) (q2.keep (by first | exact hb3 | exact bt hb3 (below_alloc _ _))) hl2 hp2 (by have := HSZ.out; first | omega | (simp; omega)) ?_; intro gg2 cc2 w4 hown4 hf4 hlie4 hlt4;
          have hb4 : Below w0.heap.size w0 w4 := (by first
            | exact (((Below.fr hb3).mono fun _ _ h => h.elim).trans hf4).below (Nat.le_refl _) (fun k hk e => by omega)
            | exact (((Below.fr (bt hb3 (below_alloc _ _))).mono fun _ _ h => h.elim).trans hf4).below (Nat.le_refl _) (fun k hk e => by omega));
          have hA4 := box_keep HA.out hb4;
          have hz4 := hb4.size;
          have hst : OwnSt w4 (w.heap.size + 2) (.slice (some ⟨gg1, 0, none⟩) l1.length cc1) (.slice (some ⟨gg2, 0, none⟩) l2.length cc2) l1 l2 := ⟨(by first | exact own_kept hown3 hf4 (fun k hk e => by simp [Value.ownBlock] at hk; simp at hlie3; omega) | exact own_kept (own_keep hown3 (below_alloc _ _)) hf4 (fun k hk e => by simp [Value.ownBlock] at hk; simp at hlie3; omega)), hown4, (fun k hk hk2 => by simp [Value.ownBlock] at hk hk2; simp at hlie3 hlie4; omega)⟩; have ha0 := box0 hA4; have ha1 := box1 hA4; have haz := boxz hA4 0; have haz1 := boxz hA4 1))
  all_goals
    have HST := Lib.hid hst
    have HB4 := Lib.hid hb4
    clear hst hb4 hb3 hown3 hown4 hf3 hf4 hlie3 hlie4 hA4
    go_wp2
    refine bodyPost_ret (v := .agg #[.slice (some ⟨gg1, 0, none⟩) l1.length cc1, .slice (some ⟨gg2, 0, none⟩) l2.length cc2]) (by simp [results, Try.results138, go_sem, ha0, ha1]) rfl ?_
    have hs2 := HSZ.out
    refine ⟨_, _, rfl, ?_, ?_⟩
    · exact ((HST.out.kept (fr_set _ _ _) (fun k h1 _ e => by simp at e; omega)).kept (fr_set _ _ _) (fun k h1 _ e => by simp at e; omega)).mono (by omega)
    · exact (((((Below.fr hbw).mono (S' := fun k => k = w.heap.size + 1) fun _ _ h => h.elim).thenB HB4.out).then (fr_set _ _ _) (fun i hi e => by simp at e; omega)).then (fr_set _ _ _) (fun i hi e => by simp at e; omega)).below (Nat.le_refl _) (fun k hk e => by omega)
end Go.Proofs.Ytnhhfbhhglhocaa
