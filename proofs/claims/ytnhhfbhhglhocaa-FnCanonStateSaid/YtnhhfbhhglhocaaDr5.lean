import Derived.Test.YtnhhfbhhglhocaaDr4
import Derived.Deep.DeepMust
namespace Go.Proofs.Ytnhhfbhhglhocaa
open Go.RowKit
section
variable {w0 w : World} {g q B bA bB : Nat} {v1 v2 : Value} {l1 l2 : List Int}
theorem DrSt.done (h : DrSt w0 w g q B bA bB v1 v2 l1 l2) (hB : bA < B) (hA : w0.heap.size ≤ bA) (hg : g < w0.heap.size) (x y : Value) :
    OwnSt ((w.setCell ⟨bA, 0, none⟩ x).setCell ⟨bA, 1, none⟩ y) B v1 v2 l1 l2 ∧ Rdr ((w.setCell ⟨bA, 0, none⟩ x).setCell ⟨bA, 1, none⟩ y) g q ∧ Fr (fun j => j = g) w0 ((w.setCell ⟨bA, 0, none⟩ x).setCell ⟨bA, 1, none⟩ y) := by
  refine ⟨?_, ?_, ?_⟩
  · exact (h.own.kept (fr_set _ _ _) (fun k h1 _ e => by simp at e; omega)).kept (fr_set _ _ _) (fun k h1 _ e => by simp at e; omega)
  · exact (h.rdr.kept (fr_set _ _ _) (fun k h1 e => by simp at e; omega)).kept (fr_set _ _ _) (fun k h1 e => by simp at e; omega)
  · exact (h.fr.then (fr_set _ _ _) (fun i hi e => by simp at e; omega)).then (fr_set _ _ _) (fun i hi e => by simp at e; omega)
end
theorem own_nil (w : World) (B : Nat) : OwnSt w B (.slice none 0 0) (.slice none 0 0) [] [] :=
  ⟨⟨rfl, .inl ⟨rfl, rfl⟩⟩, ⟨rfl, .inl ⟨rfl, rfl⟩⟩, fun k hk => by simp [Value.ownBlock] at hk⟩

set_option maxHeartbeats 3200000 in
theorem l2Mutate_any (g q : Nat) (v1 v2 : Value) (l1 l2 : List Int) (w : World) (hr : Rdr w g q) (hq : q ≤ 1000000) (h1 : RInts w v1 l1) (h2 : RInts w v2 l2) (hl1 : l1.length = 8) (hl2 : l2.length = 8) :
    Calls Try.prog 87 #[.pointer (some ⟨g, 0, none⟩), .agg #[v1, v2]] w fun e w' => ∃ u1 u2 m1 m2, e = .returned (.agg #[u1, u2]) ∧ m1.length ≤ 9 ∧ m2.length ≤ 9 ∧ OwnSt w' w.heap.size u1 u2 m1 m2 ∧ Rdr w' g (q + 2) ∧ Fr (fun j => j = g) w w' := by
  have hgl := hr.lt
  go_enter Try.func87, Try.ntmps87
  go_wp2_with fail
  refine (l2Copy_any _ _ l1 l2 _ ((h1.alloc _).alloc _) ((h2.alloc _).alloc _) (by omega) (by omega) (by omega) (by omega)).mono ?_
  rintro e w1 ⟨u1, u2, rfl, hst, hb⟩
  obtain ⟨g1, c1, rfl, hg1, hgu1⟩ := own_at hst.one (by omega)
  obtain ⟨g2, c2, rfl, hg2, hgu2⟩ := own_at hst.two (by omega)
  have hz1 : w.heap.size + 1 < w1.heap.size := by have := hb.size; simp at this; omega
  simp at hg1 hg2
  rw [World.size_alloc] at hst
  have D0 := DrSt.start (w := w.alloc (.cells #[v1, v2] 34)) hst (hr.keep (below_alloc _ _)) hb rfl
  simp only [World.size_alloc] at D0
  clear hst hb hr h1 h2
  rw [hl1, hl2] at D0
  rw [hl1, hl2]
  have E8 := Lib.hid hl1
  have E8' := Lib.hid hl2
  clear hl1 hl2
  go_wp2_with fail
  refine (pick_any g q _ _ D0.rdr (by omega) (by omega) (by omega)).mono ?_
  rintro e w2 ⟨k, rfl, hk, hr1, hf1⟩
  have D := D0.drawn hr1 hf1 (by omega) (by omega) (by omega)
  clear D0 hr1 hf1
  have hc0 := box0 D.boxB
  have hc1 := box1 D.boxB
  have hzz := box_lt D.boxB
  have hgl2 := D.rdr.lt
  have ha0 := box0 D.boxA
  have ha1 := box1 D.boxA
  have haz := boxz D.boxA 0
  have haz1 := boxz D.boxA 1
  have HD := Lib.hid D
  clear D
  by_cases k0 : k = 0
  · subst k0
    have hlit := lit_ints w2 [9, -1, 9223372036854775807] (by decide)
    have HLIT := Lib.hid hlit
    have D0 := Lib.hid (show DrSt (w.alloc (.cells #[v1, v2] 34)) w2 g (q + 1) (w.heap.size + 1 + 1) (w.heap.size + 1) w1.heap.size (.slice (some ⟨g1, 0, none⟩) l1.length c1) (.slice (some ⟨g2, 0, none⟩) 8 c2) l1 l2 from by rw [E8.out]; exact HD.out)
    clear hlit HD
    go_wp2
    go_region_held3 (fun w' => w'.cell? ⟨w1.heap.size, 0, none⟩ = some (.slice (some ⟨g1, 0, none⟩) 8 c1))
      (first
        | exact hc0
        | exact cell_keep (bt (below_alloc w2 _) (below_drew _)) hc0
        | (have hh := box0 D6.boxB; rw [E8.out] at hh; rw [World.cell?_of_block (w := w6) (Below.heap_setCell _ _ _ _ (by simp; omega))]; exact hh)
        | (have hh := box0 D6.boxB; rw [E8.out] at hh; exact hh))
      (first
        | (go_at_call 86; refine (num_any g (q + 1) _ [9, -1, 9223372036854775807] _ ((D0.out.keep (bt (below_alloc w2 _) (below_drew _))).rdr) (HLIT.out.keep (below_drew _)) (by omega) (by decide) (by decide) (fun k hk e => by simp [Value.ownBlock] at hk; have := D0.out.rdr.lt; omega)).mono ?_; rintro e w6 ⟨x, _, rfl, hr6, hf6⟩; have D6 := (D0.out.keep (bt (below_alloc w2 _) (below_drew _))).drawn hr6 hf6 (by omega) (by omega) (by omega); obtain ⟨hck6, hfz6⟩ := own_cell D6.own.one 0 (by rw [E8.out]; omega)))
    have D7 := D6.set1 0 x (by simp; omega) (by omega) (by omega) (by omega)
    rw [E8.out] at D7
    have hF := Lib.hid (D7.done (by omega) (by simp) (by simp; omega) (.slice (some ⟨g1, 0, none⟩) 8 c1) (.slice (some ⟨g2, 0, none⟩) 8 c2))
    have hc0 := box0 D7.boxB
    have hc1 := box1 D7.boxB
    have ha0 := box0 D7.boxA
    have ha1 := box1 D7.boxA
    have haz := boxz D7.boxA 0
    have haz1 := boxz D7.boxA 1
    clear D6 D0 D7 hf6 hck6 hfz6 hr6 HLIT
    go_wp2
    refine bodyPost_ret (v := .agg #[.slice (some ⟨g1, 0, none⟩) 8 c1, .slice (some ⟨g2, 0, none⟩) 8 c2]) (by simp [results, Try.results87, go_sem, ha0, ha1]) rfl ?_
    refine ⟨_, _, (l1.set 0 x), l2, rfl, by (try rw [List.length_set]); have := E8.out; omega, by (try rw [List.length_set]); have := E8'.out; omega, hF.out.1.mono (by omega), hF.out.2.1.more (by omega), ?_⟩
    exact ((Below.fr (below_alloc w _)).mono fun _ _ h => h.elim).trans hF.out.2.2
  · have kb0 : ((k : Int) == 0) = false := by simp; omega
    by_cases k1 : k = 1
    · subst k1
      have hlit := lit_ints w2 [9, -2, -1] (by decide)
      have HLIT := Lib.hid hlit
      have D0 := Lib.hid (show DrSt (w.alloc (.cells #[v1, v2] 34)) w2 g (q + 1) (w.heap.size + 1 + 1) (w.heap.size + 1) w1.heap.size (.slice (some ⟨g1, 0, none⟩) 8 c1) (.slice (some ⟨g2, 0, none⟩) l2.length c2) l1 l2 from by rw [E8'.out]; exact HD.out)
      clear hlit HD
      go_wp2
      go_region_held3 (fun w' => w'.cell? ⟨w1.heap.size, 1, none⟩ = some (.slice (some ⟨g2, 0, none⟩) 8 c2))
        (first
          | exact hc1
          | exact cell_keep (bt (below_alloc w2 _) (below_drew _)) hc1
          | (have hh := box1 D6.boxB; rw [E8'.out] at hh; rw [World.cell?_of_block (w := w6) (Below.heap_setCell _ _ _ _ (by simp; omega))]; exact hh)
          | (have hh := box1 D6.boxB; rw [E8'.out] at hh; exact hh))
        (first
          | (go_at_call 86; refine (num_any g (q + 1) _ [9, -2, -1] _ ((D0.out.keep (bt (below_alloc w2 _) (below_drew _))).rdr) (HLIT.out.keep (below_drew _)) (by omega) (by decide) (by decide) (fun k hk e => by simp [Value.ownBlock] at hk; have := D0.out.rdr.lt; omega)).mono ?_; rintro e w6 ⟨x, _, rfl, hr6, hf6⟩; have D6 := (D0.out.keep (bt (below_alloc w2 _) (below_drew _))).drawn hr6 hf6 (by omega) (by omega) (by omega); obtain ⟨hck6, hfz6⟩ := own_cell D6.own.two 0 (by rw [E8'.out]; omega)))
      have D7 := D6.set2 0 x (by simp; omega) (by omega) (by omega) (by omega)
      rw [E8'.out] at D7
      have hF := Lib.hid (D7.done (by omega) (by simp) (by simp; omega) (.slice (some ⟨g1, 0, none⟩) 8 c1) (.slice (some ⟨g2, 0, none⟩) 8 c2))
      have hc0 := box0 D7.boxB
      have hc1 := box1 D7.boxB
      have ha0 := box0 D7.boxA
      have ha1 := box1 D7.boxA
      have haz := boxz D7.boxA 0
      have haz1 := boxz D7.boxA 1
      clear D6 D0 D7 hf6 hck6 hfz6 hr6 HLIT
      go_wp2
      refine bodyPost_ret (v := .agg #[.slice (some ⟨g1, 0, none⟩) 8 c1, .slice (some ⟨g2, 0, none⟩) 8 c2]) (by simp [results, Try.results87, go_sem, ha0, ha1]) rfl ?_
      refine ⟨_, _, l1, (l2.set 0 x), rfl, by (try rw [List.length_set]); have := E8.out; omega, by (try rw [List.length_set]); have := E8'.out; omega, hF.out.1.mono (by omega), hF.out.2.1.more (by omega), ?_⟩
      exact ((Below.fr (below_alloc w _)).mono fun _ _ h => h.elim).trans hF.out.2.2
    · have kb1 : ((k : Int) == 1) = false := by simp; omega
      by_cases k2 : k = 2
      · subst k2
        have hn2 : ¬ w1.heap.size = g2 := by omega
        go_wp2_with (at_builtin; go_must (refine app_int2 _ rfl _ _ rfl (w.heap.size + 1 + 1) _ l2 rfl (own_keep HD.out.own.two (below_alloc _ _)) ⟨w2.heap.size, 0, none⟩ _ rfl (cell_new1 _ _ _) (by have := E8'.out; omega) (by simp; omega) ?_); go_must (intro v' w4 hown4 hf4 hlie4; obtain ⟨g3, c3, rfl, hg3, hgu3⟩ := own_at hown4 (by simp); have hbA4 := box_kept (box_keep HD.out.boxA (below_alloc _ _)) hf4 (fun e => by have e' : _ = g2 := Option.some.inj e; omega); have hbB4 := box_kept (box_keep HD.out.boxB (below_alloc _ _)) hf4 (fun e => by have e' : _ = g2 := Option.some.inj e; omega); have hd0 := box0 hbB4; have hd1 := box1 hbB4; have hdz := boxz hbB4 1; have ha0 := box0 hbA4; have ha1 := box1 hbA4; have haz := boxz hbA4 0; have haz1 := boxz hbA4 1; have H4 := Lib.hid (And.intro hown4 (And.intro hf4 hlie4)); clear hown4 hf4 hlie4))
        refine bodyPost_ret (v := .agg #[.slice (some ⟨g1, 0, none⟩) 8 c1, .slice (some ⟨g3, 0, none⟩) (l2 ++ [-1]).length c3]) (by simp [results, Try.results87, go_sem, ha0, ha1]) rfl ?_
        obtain ⟨hown4, hf4, hlie4⟩ := H4.out
        have hD := HD.out
        have e9 : (l2 ++ [(-1 : Int)]).length ≤ 9 := by have := E8'.out; simp; omega
        have hwf : Fr (fun j => j = g) w w4 := (((Below.fr (below_alloc w _)).mono fun _ _ h => h.elim).trans hD.fr |>.thenB (below_alloc _ _)).then hf4 (fun i hi e => by have e' : i = g2 := Option.some.inj e; omega)
        have hgz : g < w4.heap.size := by have := hf4.size; simp at this; omega
        have hO : OwnSt w4 (w.heap.size + 1 + 1) (.slice (some ⟨g1, 0, none⟩) 8 c1) (.slice (some ⟨g3, 0, none⟩) (l2 ++ [-1]).length c3) l1 (l2 ++ [-1]) :=
          ⟨own_kept (own_keep hD.own.one (below_alloc _ _)) hf4 (fun k hk e => hD.own.apart k hk e), hown4, fun k hk hk3 => by
            have hlt := own_ub hD.own.one k hk
            rcases hlie4 k hk3 with h | h
            · exact hD.own.apart k hk h
            · simp at h; omega⟩
        have hR : Rdr w4 g (q + 1) := (hD.rdr.keep (below_alloc _ _)).kept hf4 (fun k h1 e => by have e' : k = g2 := Option.some.inj e; omega)
        refine ⟨_, _, l1, l2 ++ [-1], rfl, by have := E8.out; omega, e9, ?_, ?_, ?_⟩
        · refine ((OwnSt.kept (w := w4.setCell ⟨w1.heap.size, 1, none⟩ _) ⟨own_kept hO.one (fr_set _ _ _) ?_, own_kept hO.two (fr_set _ _ _) ?_, hO.apart⟩ (fr_set _ _ _) (fun k h1 _ e => by simp at e; omega)).kept (fr_set _ _ _) (fun k h1 _ e => by simp at e; omega)).mono (by omega)
          · intro k hk e
            have hk' : k = g1 := Option.some.inj hk
            simp at e; omega
          · intro k hk e
            simp at e
            rcases hlie4 k hk with h | h
            · have h' : k = g2 := Option.some.inj h
              omega
            · simp at h; omega
        · exact (((hR.kept (fr_set _ _ _) (fun k h1 e => by simp at e; omega)).kept (fr_set _ _ _) (fun k h1 e => by simp at e; omega)).kept (fr_set _ _ _) (fun k h1 e => by simp at e; omega)).more (by omega)
        · exact ((hwf.then (fr_set _ _ _) (fun i hi e => by simp at e; omega)).then (fr_set _ _ _) (fun i hi e => by simp at e; omega)).then (fr_set _ _ _) (fun i hi e => by simp at e; omega)
      · have kb2 : ((k : Int) == 2) = false := by simp; omega
        by_cases k3 : k = 3
        · subst k3
          have hF := Lib.hid (HD.out.done (by omega) (by simp) (by simp; omega) (.slice none 0 0) (.slice none 0 0))
          clear HD
          go_wp2
          refine bodyPost_ret (v := .agg #[.slice none 0 0, .slice none 0 0]) (by simp [results, Try.results87, go_sem, ha0, ha1]) rfl ?_
          refine ⟨_, _, [], [], rfl, by simp, by simp, own_nil _ _, hF.out.2.1.more (by omega), ?_⟩
          exact ((Below.fr (below_alloc w _)).mono fun _ _ h => h.elim).trans hF.out.2.2
        · have kb3 : ((k : Int) == 3) = false := by simp; omega
          have hF := Lib.hid (HD.out.done (by omega) (by simp) (by simp; omega) (.slice (some ⟨g1, 0, none⟩) 8 c1) (.slice (some ⟨g2, 0, none⟩) 8 c2))
          clear HD
          go_wp2
          refine bodyPost_ret (v := .agg #[.slice (some ⟨g1, 0, none⟩) 8 c1, .slice (some ⟨g2, 0, none⟩) 8 c2]) (by simp [results, Try.results87, go_sem, ha0, ha1]) rfl ?_
          refine ⟨_, _, l1, l2, rfl, by have := E8.out; omega, by have := E8'.out; omega, hF.out.1.mono (by omega), hF.out.2.1.more (by omega), ?_⟩
          exact ((Below.fr (below_alloc w _)).mono fun _ _ h => h.elim).trans hF.out.2.2
end Go.Proofs.Ytnhhfbhhglhocaa
