/- Walks: whether an assertion implies a fact: the program. -/
import Derived.Test.YthoingdcmdhllaaImp
import Derived.Test.YthoingdcmdhllaaItrB
import Derived.Deep.RegionHeld3
namespace Go.Proofs.Ythoingdcmdhllaa
open Go Go.RowKit

attribute [local go_sem] Oper.semAt_some
/-- One result variable, a cell. -/
theorem res_one {P : Program} {fn : Func} {p : Tmp} (h : fn.results = #[.cell p 4]) {tmps : Array Value} {W : World} {D g : Nat} {b : Bool} (hP : P = Try.prog)
    (hp : tmps.getD p undef = .pointer (some ⟨g, 0, none⟩)) (h2 : W.cell? ⟨g, 0, none⟩ = some (.bool b)) (d1 : ¬ g = D) :
    (results fn tmps).run P (W.putObj D (.deferred none)) = .ok (.bool b) (W.putObj D (.deferred none)) := by
  subst hP
  have hp' : tmps[p]?.getD undef = .pointer (some ⟨g, 0, none⟩) := by simpa using hp
  simp [results, h, hp', asAddr, load_bool ((fr_put W D _).cell d1 h2)]
theorem imp_lt (a : Asn) (f : Fact) : impM a f < 65536 := Nat.or_lt_two_pow (n := 16) (termM_lt (termsM_lt a)) (termM_lt (termM_lt (by decide)))
theorem withT0_any (t : Int) (w : World) : Calls Try.prog 94 #[.int .u16 0, .int .i64 t] w fun e w' => e = .returned (.int .u16 (termM 0 t : Nat)) ∧ w = w' := withT_any 0 t w (by decide)
set_option maxRecDepth 100000 in
set_option maxHeartbeats 6400000 in
theorem impliesI_any {S1 S2 : Nat → Prop} (v1 v2 : Value) (a : Asn) (f : Fact) (w : World) (h1 : RL w S1 v1 a.1) (h2 : RL w S2 v2 a.2) :
    Calls Try.prog 28 #[.agg #[v1, v2], .agg #[.bool f.1, .int .i64 f.2.1, .int .i64 f.2.2]] w fun e w' => e = .returned (.bool (impB a f)) ∧ Below w.heap.size w w' := by
  obtain ⟨xa1, xc1, rfl⟩ := h1.form
  obtain ⟨xa2, xc2, rfl⟩ := h2.form
  obtain ⟨w0, hw0⟩ : ∃ w0, w0 = (((w.alloc (.cells #[.slice xa1 a.1.length xc1, .slice xa2 a.2.length xc2] 34)).alloc (.cells #[.bool f.1, .int .i64 f.2.1, .int .i64 f.2.2] 41)).alloc (.cells #[.bool false] 4)) := ⟨_, rfl⟩
  have hc0 : w0.cell? ⟨w.heap.size, 0, none⟩ = some (.slice xa1 a.1.length xc1) := by rw [hw0]; simp [go_sem]
  have hc1 : w0.cell? ⟨w.heap.size, 1, none⟩ = some (.slice xa2 a.2.length xc2) := by rw [hw0]; simp [go_sem]
  have hf0 : w0.cell? ⟨w.heap.size + 1, 0, none⟩ = some (.bool f.1) := by rw [hw0]; simp [go_sem]
  have hf1 : w0.cell? ⟨w.heap.size + 1, 1, none⟩ = some (.int .i64 f.2.1) := by rw [hw0]; simp [go_sem]
  have hf2 : w0.cell? ⟨w.heap.size + 1, 2, none⟩ = some (.int .i64 f.2.2) := by rw [hw0]; simp [go_sem]
  have hg : w0.heap[w.heap.size + 1 + 1]? = some (.cells #[.bool false] 4 (0, 0)) := by
    rw [hw0]
    have := heap_alloc_new ((w.alloc (.cells #[.slice xa1 a.1.length xc1, .slice xa2 a.2.length xc2] 34)).alloc (.cells #[.bool f.1, .int .i64 f.2.1, .int .i64 f.2.2] 41)) (.cells #[.bool false] 4)
    simpa only [World.size_alloc] using this
  have hz : w0.heap.size = w.heap.size + 1 + 1 + 1 := by rw [hw0]; simp
  have hW : Below w.heap.size w w0 := by rw [hw0]; exact ba (ba (below_alloc _ _) _) _
  have q1 := h1.keep hW
  have q2 := h2.keep hW
  have HZ := Lib.hid (And.intro hz hw0)
  clear hz hw0
  have HEND : ∀ {W : World}, Below w.heap.size w W → Below w.heap.size w (W.setCell ⟨w.heap.size + 1 + 1, 0, none⟩ (.bool false)) := fun hb => hb.setCell (by simp; omega) _
  cases ha : asnB a
  · have HF := Lib.hid (And.intro (show impB a f = false by rw [impB, ha]; rfl) ha)
    clear ha
    go_enter Try.func28, Try.ntmps28
    go_wp2_with fail
    rw [← HZ.out.2]
    refine (cb (asnValidI_any _ _ a _ q1 q2) HF.out.2).mono ?_
    rintro e w1 ⟨rfl, hb⟩
    have hg1 := box_keep hg hb
    have c0 : w1.cell? ⟨w.heap.size + 1 + 1, 0, none⟩ = some (.bool false) := cell_of_row _ _ 0 _ _ _ hg1
    have cz := frozen_of_row _ _ 0 _ _ hg1
    have cl := box_lt hg1
    clear hg1
    go_wp2
    refine bodyPost_ret (v := .bool false) (by simp [results, Try.results28, go_sem, c0]) rfl ?_
    exact ⟨by rw [HF.out.1], HEND (bt hW hb)⟩
  have HVA := Lib.hid ha
  cases hv : factB f
  · have HF := Lib.hid (And.intro (show impB a f = false by rw [impB, ha, hv]; rfl) hv)
    clear ha hv
    go_enter Try.func28, Try.ntmps28
    go_wp2_with fail
    rw [← HZ.out.2]
    refine (cb (asnValidI_any _ _ a _ q1 q2) HVA.out).mono ?_
    rintro e w1 ⟨rfl, hb⟩
    replace hf0 := cell_keep hb hf0; replace hf1 := cell_keep hb hf1; replace hf2 := cell_keep hb hf2
    go_wp2_with fail
    refine (cb (factValidI_any f _) HF.out.2).mono ?_
    rintro e w2 ⟨rfl, hb2⟩
    have hg1 := box_keep (box_keep hg hb) hb2
    have c0 : w2.cell? ⟨w.heap.size + 1 + 1, 0, none⟩ = some (.bool false) := cell_of_row _ _ 0 _ _ _ hg1
    have cz := frozen_of_row _ _ 0 _ _ hg1
    have cl := box_lt hg1
    clear hg1
    go_wp2
    refine bodyPost_ret (v := .bool false) (by simp [results, Try.results28, go_sem, c0]) rfl ?_
    exact ⟨by rw [HF.out.1], HEND (bt hW (bt hb hb2))⟩
  have HVF := Lib.hid hv
  obtain ⟨r, hr⟩ : ∃ r, impB a f = r := ⟨_, rfl⟩
  rw [hr]
  have HR := Lib.hid (show ((casesL (impM a f) a).all fun cl => factC cl f) = r by rw [← hr, impB, ha, hv]; rfl)
  obtain ⟨t1, t2, t3, t4⟩ := factB_le hv
  clear ha hv hr
  refine calls_of_marks Try.func28 rfl ?_
  simp only [Try.ntmps28, List.size_toArray, List.length_cons, List.length_nil, Nat.reduceAdd, Nat.reduceSub, Array.replicate_succ, Array.replicate_zero, List.push_toArray, List.append_toArray, List.nil_append, List.cons_append]
  go_wp2_with fail
  rw [← HZ.out.2]
  refine (cb (asnValidI_any _ _ a _ q1 q2) HVA.out).mono ?_
  rintro e w1 ⟨rfl, hb⟩
  replace hf0 := cell_keep hb hf0; replace hf1 := cell_keep hb hf1; replace hf2 := cell_keep hb hf2; replace hc0 := cell_keep hb hc0; replace hc1 := cell_keep hb hc1
  replace hg := box_keep hg hb
  replace hW := bt hW hb
  go_wp2_with fail
  refine (cb (factValidI_any f _) HVF.out).mono ?_
  rintro e w2 ⟨rfl, hb2⟩
  replace hf0 := cell_keep hb2 hf0; replace hf1 := cell_keep hb2 hf1; replace hf2 := cell_keep hb2 hf2; replace hc0 := cell_keep hb2 hc0; replace hc1 := cell_keep hb2 hc1
  replace hg := box_keep hg hb2
  replace hW := bt hW hb2
  have hz2 : w.heap.size + 1 + 1 + 1 ≤ w2.heap.size := by have := HZ.out.1; have := hb.size; have := hb2.size; omega
  clear hb hb2 q1 q2
  go_upto_region 4 with fail
  go_region_held3 (fun w' => (w'.cell? ⟨w.heap.size, 0, none⟩ = some (.slice xa1 a.1.length xc1) ∧ w'.cell? ⟨w.heap.size, 1, none⟩ = some (.slice xa2 a.2.length xc2)) ∧ (w'.cell? ⟨w.heap.size + 1, 0, none⟩ = some (.bool f.1) ∧ w'.cell? ⟨w.heap.size + 1, 1, none⟩ = some (.int .i64 f.2.1) ∧ w'.cell? ⟨w.heap.size + 1, 2, none⟩ = some (.int .i64 f.2.2)))
    (exact ⟨⟨cell_keep (by repeat (first | exact Below.refl _ _ | with_reducible assumption | exact below_alloc _ _ | (refine Below.setCell ?_ (by first | (simp; done) | (simp; omega) | omega) _) | apply bd | apply ba | apply be)) hc0, cell_keep (by repeat (first | exact Below.refl _ _ | with_reducible assumption | exact below_alloc _ _ | (refine Below.setCell ?_ (by first | (simp; done) | (simp; omega) | omega) _) | apply bd | apply ba | apply be)) hc1⟩, cell_keep (by repeat (first | exact Below.refl _ _ | with_reducible assumption | exact below_alloc _ _ | (refine Below.setCell ?_ (by first | (simp; done) | (simp; omega) | omega) _) | apply bd | apply ba | apply be)) hf0, cell_keep (by repeat (first | exact Below.refl _ _ | with_reducible assumption | exact below_alloc _ _ | (refine Below.setCell ?_ (by first | (simp; done) | (simp; omega) | omega) _) | apply bd | apply ba | apply be)) hf1, cell_keep (by repeat (first | exact Below.refl _ _ | with_reducible assumption | exact below_alloc _ _ | (refine Below.setCell ?_ (by first | (simp; done) | (simp; omega) | omega) _) | apply bd | apply ba | apply be)) hf2⟩)
    (first
      | (go_at_call 94; (with_reducible refine (withT0_any f.2.1 _).mono ?_); rintro e w' ⟨rfl, rfl⟩)
      | (go_at_call 94; (with_reducible refine (withT_any (termM 0 f.2.1) f.2.2 _ (termM_lt (by decide))).mono ?_); rintro e w' ⟨rfl, rfl⟩)
      | (go_at_call 93; go_must (refine (possibleCases_any _ _ a (termM (termM 0 f.2.1) f.2.2) _ (h1.keep (bt hW (by repeat (first | exact Below.refl _ _ | with_reducible assumption | exact below_alloc _ _ | (refine Below.setCell ?_ (by first | (simp; done) | (simp; omega) | omega) _) | apply bd | apply ba | apply be)))) (h2.keep (bt hW (by repeat (first | exact Below.refl _ _ | with_reducible assumption | exact below_alloc _ _ | (refine Below.setCell ?_ (by first | (simp; done) | (simp; omega) | omega) _) | apply bd | apply ba | apply be)))) (termM_lt (termM_lt (by decide)))).mono ?_; rintro e w3 ⟨b1, b2, rfl, hb1, hb2x, c0, c1, c2, hb⟩; have hb3 : Below w2.heap.size w2 w3 := bt (by repeat (first | exact Below.refl _ _ | with_reducible assumption | exact below_alloc _ _ | (refine Below.setCell ?_ (by first | (simp; done) | (simp; omega) | omega) _) | apply bd | apply ba | apply be)) hb)))
  have hz3 : w2.heap.size ≤ w3.heap.size := hb3.size
  have hb1' : w.heap.size + 1 + 1 + 1 ≤ b1 := by simp at hb1; omega
  have hb2' : w.heap.size + 1 + 1 + 1 ≤ b2 := by simp at hb2x; omega
  have HC := Lib.hid (And.intro c0 (And.intro c1 c2))
  have HY := Lib.hid (And.intro (cell_keep hb3 hf0) (And.intro (cell_keep hb3 hf1) (cell_keep hb3 hf2)))
  have HW := Lib.hid (And.intro (bt hW hb3) (box_keep hg hb3))
  clear c0 c1 c2 hb hb1 hb2x hb1' hb2' hc0 hc1 hf0 hf1 hf2 hg hW hb3
  go_wp2
  have hR' : ∀ k : Nat, k < w.heap.size → k < w3.heap.size ∧ k ≠ w.heap.size + 1 + 1 := fun k hk => ⟨by omega, by omega⟩
  have HR' := Lib.hid hR'
  refine wp_rangeW (xs := casesL (impM a f) a) (R := fun k => k < w3.heap.size ∧ k ≠ w.heap.size + 1 + 1) (w0 := w3) rfl (enters_of Try.func173 (by kernel_rfl) rfl)
    (cases_seq b1 b2 _ _ a _ w3 HC.out.1 HC.out.2.1 HC.out.2.2 ((h1.lt.keep HW.out.1).more fun k _ hk => HR'.out k hk) ((h2.lt.keep HW.out.1).more fun k _ hk => HR'.out k hk)
      (fun k hk => hk.1) HVA.out (imp_lt a f) (fun j hj => by rw [impM, Nat.testBit_or, one_bit, hj]; rfl)) (Below.refl _ _) (fun k hk => hk.1) (fun _ => rfl)
    (fun X pre W => (∀ x ∈ pre, factC x f = true) ∧ (∀ k, X k → w3.heap.size ≤ k) ∧ (W.cell? ⟨w.heap.size + 1, 0, none⟩ = some (.bool f.1) ∧ W.cell? ⟨w.heap.size + 1, 1, none⟩ = some (.int .i64 f.2.1) ∧ W.cell? ⟨w.heap.size + 1, 2, none⟩ = some (.int .i64 f.2.2)) ∧
      W.heap[w.heap.size + 1 + 1]? = some (.cells #[.bool false] 4 (0, 0)) ∧ Below w.heap.size w W)
    (fun c pre W => ∃ q x, c = .ret ∧ pre = q ++ [x] ∧ factC x f = false ∧ W.cell? ⟨w.heap.size + 1 + 1, 0, none⟩ = some (.bool false) ∧ Below w.heap.size w W)
    ?hI ?hIx ⟨fun _ h => by (cases h), fun _ h => h.elim, HY.out, HW.out.2, HW.out.1⟩ ?hround ?hdone ?hstop
  case hI =>
    rintro X X' pre A B ⟨hp, hX, ⟨e0, e1, e2⟩, h1, hb⟩ hf hz' hX'
    have hn : ∀ k, k < w3.heap.size → ¬ (X k ∨ k = w3.heap.size ∨ k = w3.heap.size + 1) := fun k hk e => by
      rcases e with h | h | h
      · have := hX _ h; omega
      · omega
      · omega
    refine ⟨hp, fun k hk => ?_, ⟨hf.cell (hn _ (by simp; omega)) e0, hf.cell (hn _ (by simp; omega)) e1, hf.cell (hn _ (by simp; omega)) e2⟩, box_kept h1 hf (hn _ (by omega)), hb.trans (hf.below hb.size fun k hk => hn k (by omega))⟩
    rcases hX' k hk with h | h
    · exact hX k h
    · omega
  case hIx =>
    rintro c pre A B ⟨q, x, rfl, rfl, hx, h2, hb⟩ hf
    refine ⟨q, x, rfl, rfl, hx, hf.cell ?_ h2, hb.trans (hf.below hb.size fun k hk e => ?_)⟩
    · rintro (h | h) <;> (simp only at h; omega)
    · rcases e with h | h <;> omega
  case hround =>
    rintro m X pre x W hzW hX hpre ⟨hp, hX2, ⟨y0, y1, y2⟩, hg1, hb⟩
    obtain ⟨x0, x1, x2, x3, x4, x5, x6, x7, x8, rfl⟩ := len9 (cases_len (pre_mem hpre))
    have HG := Lib.hid (And.intro hg1 (And.intro hb (And.intro hX (And.intro hp hX2))))
    have HY2 := Lib.hid (And.intro y0 (And.intro y1 y2))
    clear hpre hX hX2 hg1 hb y0 y1 y2 hp
    gi_wp2
    refine ⟨(fr_al _ _).mono fun _ _ h => h.elim, fun w4 hf4 => ?_⟩
    have hfw : Fr (fun k => k = w3.heap.size + 1) W w4 := ((fr_al W (.cells #[.int .i64 x0, .int .i64 x1, .int .i64 x2, .int .i64 x3, .int .i64 x4, .int .i64 x5, .int .i64 x6, .int .i64 x7, .int .i64 x8] 124)).mono fun _ _ h => h.elim).trans hf4
    have hx := box_kept (heap_alloc_new W (.cells #[.int .i64 x0, .int .i64 x1, .int .i64 x2, .int .i64 x3, .int .i64 x4, .int .i64 x5, .int .i64 x6, .int .i64 x7, .int .i64 x8] 124)) hf4 (by omega)
    have hq := box_kept HG.out.1 hfw (by omega)
    have y0 := hfw.cell (by show ¬ w.heap.size + 1 = _; omega) HY2.out.1
    have y1 := hfw.cell (by show ¬ w.heap.size + 1 = _; omega) HY2.out.2.1
    have y2 := hfw.cell (by show ¬ w.heap.size + 1 = _; omega) HY2.out.2.2
    have hb4 := HG.out.2.1.trans (hfw.below HG.out.2.1.size fun k hk e => by omega)
    have HH := Lib.hid (And.intro hq (And.intro hb4 (And.intro y0 (And.intro y1 y2))))
    have q0 : w4.cell? ⟨w.heap.size + 1 + 1, 0, none⟩ = some (.bool false) := cell_of_row _ _ 0 _ _ _ hq
    have qz := frozen_of_row _ _ 0 _ _ hq
    have hwz := World.block_lt_of_cell? w4 _ y0
    simp only at hwz
    obtain ⟨b, hbb⟩ : ∃ b, factC [x0, x1, x2, x3, x4, x5, x6, x7, x8] f = b := ⟨_, rfl⟩
    have HM := Lib.hid (cb (factHoldsC_any W.heap.size [x0, x1, x2, x3, x4, x5, x6, x7, x8] f w4 (rarr_row' hx rfl) HVF.out) hbb)
    have HB := Lib.hid hbb
    have hx9 := box_lt hx
    clear hx hq hfw hf4 hb4 hbb
    cases b with
    | true =>
      gi_wp2_with (refine ⟨trivial, fun h => (by cases h), ?_⟩; gi_at_call 95; refine (CallsIn.inRound _ (callsIn_wide.2 HM.out)).mono ?_; rintro e w5 ⟨rfl, hb5⟩)
      have hff := Below.fr hb5
      refine ⟨hff.mono fun _ _ h => h.elim, ?_, HG.out.2.2.2.2, ⟨cell_keep hb5 HH.out.2.2.1, cell_keep hb5 HH.out.2.2.2.1, cell_keep hb5 HH.out.2.2.2.2⟩, box_keep HH.out.1 hb5, bt HH.out.2.1 hb5⟩
      intro y hy
      rcases List.mem_append.1 hy with h | h
      · exact HG.out.2.2.2.1 y h
      · rw [List.mem_singleton.1 h]; exact HB.out
    | false =>
      gi_wp2_with (refine ⟨trivial, fun h => (by cases h), ?_⟩; gi_at_call 95; refine (CallsIn.inRound _ (callsIn_wide.2 HM.out)).mono ?_; rintro e w5 ⟨rfl, hb5⟩; have hq5 := box_keep HH.out.1 hb5; have q0 : w5.cell? ⟨w.heap.size + 1 + 1, 0, none⟩ = some (.bool false) := cell_of_row _ _ 0 _ _ _ hq5; have qz := frozen_of_row _ _ 0 _ _ hq5; have H5 := Lib.hid (And.intro hq5 hb5); clear hq5 hb5)
      have hb5 := bt HH.out.2.1 H5.out.2
      refine ⟨?_, pre, [x0, x1, x2, x3, x4, x5, x6, x7, x8], rfl, rfl, HB.out, ?_, ?_⟩
      · exact ((Below.fr H5.out.2).mono fun _ _ h => h.elim).trans ((fr_set _ _ _).mono fun k _ e => by simp at e; omega)
      · exact World.cell?_setCell_same' _ _ _ (by have hcc := cell_of_row _ _ 0 _ _ _ H5.out.1; exact Option.isSome_iff_exists.2 ⟨_, hcc⟩)
      · exact hb5.setCell (p := ⟨w.heap.size + 1 + 1, 0, none⟩) (by simp; omega) _
  case hdone =>
    rintro W ⟨hp, _, _, hg1, hb⟩ hK
    have HN := Lib.hid (show r = true by rw [← HR.out, List.all_eq_true]; exact hp)
    have HH := Lib.hid (And.intro hg1 (And.intro hb hK))
    have q0 : W.cell? ⟨w.heap.size + 1 + 1, 0, none⟩ = some (.bool false) := cell_of_row _ _ 0 _ _ _ hg1
    have qz := frozen_of_row _ _ 0 _ _ hg1
    clear hg1 hb hK hp
    go_wp2
    have hff := fr_set W ⟨w.heap.size + 1 + 1, 0, none⟩ (.bool true)
    refine marks_ret rfl (fr_blk hff HH.out.2.2 (by simp; omega)) (res_one rfl rfl rfl (World.cell?_setCell_same' _ _ _ (by have hcc := cell_of_row _ _ 0 _ _ _ HH.out.1; exact Option.isSome_iff_exists.2 ⟨_, hcc⟩)) (by omega)) ?_
    exact ⟨by rw [HN.out], (HH.out.2.1.trans (hff.below HH.out.2.1.size fun k hk e => by simp at e; omega)).trans ((fr_put _ _ _).below (by have := hff.size; have := HH.out.2.1.size; omega) fun k hk e => by omega)⟩
  case hstop =>
    rintro c pre W hpre ⟨q, x, rfl, rfl, hx, hc1, hb⟩ hK
    refine wp_ret ?_
    have HN := Lib.hid (show r = false by
      rw [← HR.out, List.all_eq_false]
      exact ⟨x, pre_mem hpre, by rw [hx]; decide⟩)
    refine marks_ret rfl hK (res_one rfl rfl rfl hc1 (by omega)) ?_
    exact ⟨by rw [HN.out], hb.trans ((fr_put W _ _).below hb.size fun k hk e => by omega)⟩
end Go.Proofs.Ythoingdcmdhllaa
