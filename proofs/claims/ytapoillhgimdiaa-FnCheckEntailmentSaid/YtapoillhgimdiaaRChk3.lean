/- Walks: the check of the proofs of all cases: the program. -/
import Derived.Test.YtapoillhgimdiaaRChkA
import Derived.Test.YtapoillhgimdiaaRImpA
import Derived.Test.YtapoillhgimdiaaRCase14
import Derived.Test.YtapoillhgimdiaaRRndA
namespace Go.Proofs.Ytapoillhgimdiaa
open Go Go.RowKit

theorem sameInts_extB (v1 v2 : Value) (l1 l2 : List Int) (w : World) (h1 : RInts w v1 l1) (h2 : RInts w v2 l2) :
    Calls Try.prog 119 #[v1, v2] w fun e w' => e = .returned (.bool (decide (l1 = l2))) ∧ Below w.heap.size w w' :=
  (sameInts_any v1 v2 l1 l2 w h1 h2).mono fun e w' h => ⟨h.1, by rw [← h.2]; exact Below.refl _ _⟩
theorem chk_short {a b : Asn} {ps : List CPf} (h : ps.length < (casesL (bothM a b) a).length) : chkL a b ps = false := by
  rw [chkL, Bool.and_eq_false_iff]
  left
  rw [decide_eq_false_iff_not]
  intro e
  have := congrArg List.length e
  rw [List.length_map] at this
  omega
attribute [local go_sem] Oper.semAt_some
set_option maxRecDepth 100000 in
set_option maxHeartbeats 6400000 in
theorem checkEntI_any {S1 S2 S3 S4 S5 : Nat → Prop} (v1 v2 u1 u2 pv : Value) (a b : Asn) (ps : List CPf) (w : World) (h1 : RL w S1 v1 a.1) (h2 : RL w S2 v2 a.2) (k1 : RL w S3 u1 b.1) (k2 : RL w S4 u2 b.2) (j : RL w S5 pv ps) :
    Calls Try.prog 39 #[.agg #[v1, v2], .agg #[u1, u2], pv] w fun e w' => e = .returned (.bool (chkE a b ps)) ∧ Below w.heap.size w w' := by
  obtain ⟨xa1, xc1, rfl⟩ := h1.form
  obtain ⟨xa2, xc2, rfl⟩ := h2.form
  obtain ⟨ya1, yc1, rfl⟩ := k1.form
  obtain ⟨ya2, yc2, rfl⟩ := k2.form
  obtain ⟨pa, pc, rfl⟩ := j.form
  have hpm := j.len
  unfold maxLen at hpm
  obtain ⟨w0, hw0⟩ : ∃ w0, w0 = ((((w.alloc (.cells #[.slice xa1 a.1.length xc1, .slice xa2 a.2.length xc2] 33)).alloc (.cells #[.slice ya1 b.1.length yc1, .slice ya2 b.2.length yc2] 33)).alloc (.cells #[.slice pa ps.length pc] 27)).alloc (.cells #[.bool false] 4)) := ⟨_, rfl⟩
  have hc0 : w0.cell? ⟨w.heap.size, 0, none⟩ = some (.slice xa1 a.1.length xc1) := by rw [hw0]; simp [go_sem]
  have hc1 : w0.cell? ⟨w.heap.size, 1, none⟩ = some (.slice xa2 a.2.length xc2) := by rw [hw0]; simp [go_sem]
  have hd0 : w0.cell? ⟨w.heap.size + 1, 0, none⟩ = some (.slice ya1 b.1.length yc1) := by rw [hw0]; simp [go_sem]
  have hd1 : w0.cell? ⟨w.heap.size + 1, 1, none⟩ = some (.slice ya2 b.2.length yc2) := by rw [hw0]; simp [go_sem]
  have he0 : w0.cell? ⟨w.heap.size + 1 + 1, 0, none⟩ = some (.slice pa ps.length pc) := by rw [hw0]; simp [go_sem]
  have hg : w0.heap[w.heap.size + 1 + 1 + 1]? = some (.cells #[.bool false] 4 (0, 0)) := by
    rw [hw0]
    have := heap_alloc_new (((w.alloc (.cells #[.slice xa1 a.1.length xc1, .slice xa2 a.2.length xc2] 33)).alloc (.cells #[.slice ya1 b.1.length yc1, .slice ya2 b.2.length yc2] 33)).alloc (.cells #[.slice pa ps.length pc] 27)) (.cells #[.bool false] 4)
    simpa only [World.size_alloc] using this
  have hz : w0.heap.size = w.heap.size + 4 := by rw [hw0]; simp
  have hW : Below w.heap.size w w0 := by rw [hw0]; exact ba (ba (ba (below_alloc _ _) _) _) _
  have q1 := h1.keep hW
  have q2 := h2.keep hW
  have q3 := k1.keep hW
  have q4 := k2.keep hW
  have HZ := Lib.hid (And.intro hz hw0)
  clear hz hw0
  have HEND : ∀ {W : World}, Below w.heap.size w W → Below w.heap.size w (W.setCell ⟨w.heap.size + 1 + 1 + 1, 0, none⟩ (.bool false)) := fun hb => hb.setCell (by simp; omega) _
  cases ha : asnB a
  · have HF := Lib.hid (And.intro (show chkE a b ps = false by rw [chkE, ha]; rfl) ha)
    clear ha
    go_enter Try.func39, Try.ntmps39
    go_wp2_with fail
    rw [← HZ.out.2]
    refine (cb (asnValidI_any _ _ a _ q1 q2) HF.out.2).mono ?_
    rintro e w1 ⟨rfl, hb⟩
    have hg1 := box_keep hg hb
    have c0 : w1.cell? ⟨w.heap.size + 1 + 1 + 1, 0, none⟩ = some (.bool false) := cell_of_row _ _ 0 _ _ _ hg1
    have cz := frozen_of_row _ _ 0 _ _ hg1
    have cl := box_lt hg1
    clear hg1
    go_wp2
    refine bodyPost_ret (v := .bool false) (by simp [results, Try.results39, go_sem, c0]) rfl ?_
    exact ⟨by rw [HF.out.1], HEND (bt hW hb)⟩
  have HVA := Lib.hid ha
  cases hv : asnB b
  · have HF := Lib.hid (And.intro (show chkE a b ps = false by rw [chkE, ha, hv]; rfl) hv)
    clear ha hv
    go_enter Try.func39, Try.ntmps39
    go_wp2_with fail
    rw [← HZ.out.2]
    refine (cb (asnValidI_any _ _ a _ q1 q2) HVA.out).mono ?_
    rintro e w1 ⟨rfl, hb⟩
    replace hd0 := cell_keep hb hd0; replace hd1 := cell_keep hb hd1
    go_wp2_with fail
    refine (cb (asnValidI_any _ _ b _ (q3.keep hb) (q4.keep hb)) HF.out.2).mono ?_
    rintro e w2 ⟨rfl, hb2⟩
    have hg1 := box_keep (box_keep hg hb) hb2
    have c0 : w2.cell? ⟨w.heap.size + 1 + 1 + 1, 0, none⟩ = some (.bool false) := cell_of_row _ _ 0 _ _ _ hg1
    have cz := frozen_of_row _ _ 0 _ _ hg1
    have cl := box_lt hg1
    clear hg1
    go_wp2
    refine bodyPost_ret (v := .bool false) (by simp [results, Try.results39, go_sem, c0]) rfl ?_
    exact ⟨by rw [HF.out.1], HEND (bt hW (bt hb hb2))⟩
  have HVB := Lib.hid hv
  obtain ⟨r, hr⟩ : ∃ r, chkE a b ps = r := ⟨_, rfl⟩
  rw [hr]
  have HR := Lib.hid (show chkL a b ps = r by rw [← hr, chkE, ha, hv]; rfl)
  have htm := termsM_lt b
  clear ha hv hr
  refine calls_of_marks Try.func39 rfl ?_
  simp only [Try.ntmps39, List.size_toArray, List.length_cons, List.length_nil, Nat.reduceAdd, Nat.reduceSub, Array.replicate_succ, Array.replicate_zero, List.push_toArray, List.append_toArray, List.nil_append, List.cons_append]
  go_wp2_with fail
  rw [← HZ.out.2]
  refine (cb (asnValidI_any _ _ a _ q1 q2) HVA.out).mono ?_
  rintro e w1 ⟨rfl, hb⟩
  replace hc0 := cell_keep hb hc0; replace hc1 := cell_keep hb hc1; replace hd0 := cell_keep hb hd0; replace hd1 := cell_keep hb hd1; replace he0 := cell_keep hb he0
  replace hg := box_keep hg hb
  replace hW := bt hW hb
  replace q3 := q3.keep hb; replace q4 := q4.keep hb
  go_wp2_with fail
  refine (cb (asnValidI_any _ _ b _ q3 q4) HVB.out).mono ?_
  rintro e w2 ⟨rfl, hb2⟩
  replace hc0 := cell_keep hb2 hc0; replace hc1 := cell_keep hb2 hc1; replace hd0 := cell_keep hb2 hd0; replace hd1 := cell_keep hb2 hd1; replace he0 := cell_keep hb2 he0
  replace hg := box_keep hg hb2
  replace hW := bt hW hb2
  have hz2 : w.heap.size + 4 ≤ w2.heap.size := by have := HZ.out.1; have := hb.size; have := hb2.size; omega
  clear hb hb2 q1 q2 q3 q4
  go_upto_region 4 with fail
  have hgn := heap_alloc_new w2 (.cells #[.int .i64 0] 3)
  have hbn := below_alloc w2 (.cells #[.int .i64 0] 3)
  have hzn : (w2.alloc (.cells #[.int .i64 0] 3)).heap.size = w2.heap.size + 1 := by simp
  generalize w2.alloc (.cells #[.int .i64 0] 3) = wN at hgn hbn hzn ⊢
  replace hc0 := cell_keep hbn hc0; replace hc1 := cell_keep hbn hc1; replace hd0 := cell_keep hbn hd0; replace hd1 := cell_keep hbn hd1; replace he0 := cell_keep hbn he0
  replace hg := box_keep hg hbn
  replace hW := bt hW hbn
  obtain ⟨nx, hnx⟩ : ∃ nx, w2.heap.size = nx := ⟨_, rfl⟩
  rw [hnx] at hgn hzn hz2 ⊢
  clear hbn hnx
  go_region_held3 (fun w' => (w'.cell? ⟨w.heap.size, 0, none⟩ = some (.slice xa1 a.1.length xc1) ∧ w'.cell? ⟨w.heap.size, 1, none⟩ = some (.slice xa2 a.2.length xc2)) ∧ (w'.cell? ⟨w.heap.size + 1, 0, none⟩ = some (.slice ya1 b.1.length yc1) ∧ w'.cell? ⟨w.heap.size + 1, 1, none⟩ = some (.slice ya2 b.2.length yc2)))
    (exact ⟨⟨cell_keep Bl hc0, cell_keep Bl hc1⟩, cell_keep Bl hd0, cell_keep Bl hd1⟩)
    (first
      | (go_at_call 92; (with_reducible refine (termsIn_any _ _ b _ (k1.keep (bt hW Bl)) (k2.keep (bt hW Bl))).mono ?_); rintro e w5 ⟨rfl, hb5'⟩; have hb5 : Below wN.heap.size wN w5 := bt Bl hb5')
      | (go_at_call 91; go_must (refine (possibleCases_any _ _ a (termsM b) _ (h1.keep (bt hW (bt hb5 Bl))) (h2.keep (bt hW (bt hb5 Bl))) htm).mono ?_; rintro e w3 ⟨b1, b2, rfl, hb1, hb2x, c0, c1, c2, hb⟩; have hb3 : Below wN.heap.size wN w3 := bt (bt hb5 Bl) hb)))
  have hz3 : wN.heap.size ≤ w3.heap.size := hb3.size
  have hzz5 := hb5.size
  have hb1' : nx + 1 ≤ b1 := by first | omega | (simp at hb1; omega)
  have hb2' : nx + 1 ≤ b2 := by first | omega | (simp at hb2x; omega)
  have HC := Lib.hid (And.intro c0 (And.intro c1 c2))
  have HY := Lib.hid (And.intro (And.intro (cell_keep hb3 hc0) (cell_keep hb3 hc1)) (And.intro (And.intro (cell_keep hb3 hd0) (cell_keep hb3 hd1)) (cell_keep hb3 he0)))
  have HW := Lib.hid (And.intro (bt hW hb3) (And.intro (box_keep hg hb3) (box_keep hgn hb3)))
  clear c0 c1 c2 hb hb1 hb2x hc0 hc1 hd0 hd1 he0 hg hgn hW hb3 hb5 hb5'
  go_wp2
  have hR' : ∀ k : Nat, k < w.heap.size → k < w3.heap.size ∧ k ≠ w.heap.size + 1 + 1 + 1 ∧ k ≠ nx := fun k hk => ⟨by omega, by omega, by omega⟩
  have HR' := Lib.hid hR'
  refine wp_rangeW (xs := casesL (bothM a b) a) (R := fun k => k < w3.heap.size ∧ k ≠ w.heap.size + 1 + 1 + 1 ∧ k ≠ nx) (w0 := w3) rfl (enters_of Try.func174 (by kernel_rfl) rfl)
    (cases_seq b1 b2 _ _ a _ w3 HC.out.1 HC.out.2.1 HC.out.2.2 ((h1.lt.keep HW.out.1).more fun k _ hk => HR'.out k hk) ((h2.lt.keep HW.out.1).more fun k _ hk => HR'.out k hk)
      (fun k hk => hk.1) HVA.out (Nat.or_lt_two_pow (n := 16) (termM_lt (termsM_lt a)) htm) (cov_both a b)) (Below.refl _ _) (fun k hk => hk.1) (fun _ => rfl)
    (fun X pre W => (pre.length ≤ ps.length ∧ (ps.take pre.length).map Prod.fst = pre ∧ (ps.take pre.length).all (checkC a b) = true) ∧ (∀ k, X k → w3.heap.size ≤ k) ∧ ((W.cell? ⟨w.heap.size, 0, none⟩ = some (.slice xa1 a.1.length xc1) ∧ W.cell? ⟨w.heap.size, 1, none⟩ = some (.slice xa2 a.2.length xc2)) ∧ (W.cell? ⟨w.heap.size + 1, 0, none⟩ = some (.slice ya1 b.1.length yc1) ∧ W.cell? ⟨w.heap.size + 1, 1, none⟩ = some (.slice ya2 b.2.length yc2)) ∧ W.cell? ⟨w.heap.size + 1 + 1, 0, none⟩ = some (.slice pa ps.length pc)) ∧
      W.heap[w.heap.size + 1 + 1 + 1]? = some (.cells #[.bool false] 4 (0, 0)) ∧ W.heap[nx]? = some (.cells #[.int .i64 (pre.length : Int)] 3 (0, 0)) ∧ Below w.heap.size w W)
    (fun c pre W => ∃ q x, c = .ret ∧ pre = q ++ [x] ∧ chkL a b ps = false ∧ W.cell? ⟨w.heap.size + 1 + 1 + 1, 0, none⟩ = some (.bool false) ∧ Below w.heap.size w W)
    ?hI ?hIx ⟨⟨by simp, by simp, by simp⟩, fun _ h => h.elim, ⟨HY.out.1, HY.out.2.1, HY.out.2.2⟩, HW.out.2.1, HW.out.2.2, HW.out.1⟩ ?hround ?hdone ?hstop
  case hI =>
    rintro X X' pre A B ⟨hp, hX, ⟨⟨e0, e1⟩, ⟨e2, e3⟩, e4⟩, h1, h2, hb⟩ hf hz' hX'
    have hn : ∀ k, k < w3.heap.size → ¬ (X k ∨ k = w3.heap.size ∨ k = w3.heap.size + 1) := fun k hk e => by
      rcases e with h | h | h
      · have := hX _ h; omega
      · omega
      · omega
    refine ⟨hp, fun k hk => ?_, ⟨⟨hf.cell (hn _ (by simp; omega)) e0, hf.cell (hn _ (by simp; omega)) e1⟩, ⟨hf.cell (hn _ (by simp; omega)) e2, hf.cell (hn _ (by simp; omega)) e3⟩, hf.cell (hn _ (by simp; omega)) e4⟩, box_kept h1 hf (hn _ (by omega)), box_kept h2 hf (hn _ (by omega)), hb.trans (hf.below hb.size fun k hk => hn k (by omega))⟩
    rcases hX' k hk with h | h
    · exact hX k h
    · omega
  case hIx =>
    rintro c pre A B ⟨q, x, rfl, rfl, hx, h2, hb⟩ hf
    refine ⟨q, x, rfl, rfl, hx, hf.cell ?_ h2, hb.trans (hf.below hb.size fun k hk e => ?_)⟩
    · rintro (h | h) <;> (simp only at h; omega)
    · rcases e with h | h <;> omega
  case hround =>
    rintro m X pre x W hzW hX hpre ⟨hp, hX2, ⟨⟨y0, y1⟩, ⟨y2, y3⟩, y4⟩, hg1, hg2, hb⟩
    obtain ⟨x0, x1, x2, x3, x4, x5, x6, x7, x8, rfl⟩ := len9 (cases_len (pre_mem hpre))
    have HG := Lib.hid (And.intro hg1 (And.intro hg2 (And.intro hb (And.intro hX (And.intro hp hX2)))))
    have HY2 := Lib.hid (And.intro (And.intro y0 y1) (And.intro (And.intro y2 y3) y4))
    have HPRE := Lib.hid hpre
    clear hpre hX hX2 hg1 hg2 hb y0 y1 y2 y3 y4 hp
    gi_wp2
    refine ⟨(fr_al _ _).mono fun _ _ h => h.elim, fun w4 hf4 => ?_⟩
    have hfw : Fr (fun k => k = w3.heap.size + 1) W w4 := ((fr_al W (.cells #[.int .i64 x0, .int .i64 x1, .int .i64 x2, .int .i64 x3, .int .i64 x4, .int .i64 x5, .int .i64 x6, .int .i64 x7, .int .i64 x8] 116)).mono fun _ _ h => h.elim).trans hf4
    have hx := box_kept (heap_alloc_new W (.cells #[.int .i64 x0, .int .i64 x1, .int .i64 x2, .int .i64 x3, .int .i64 x4, .int .i64 x5, .int .i64 x6, .int .i64 x7, .int .i64 x8] 116)) hf4 (by omega)
    have hq := box_kept HG.out.1 hfw (by omega)
    have hqn := box_kept HG.out.2.1 hfw (by omega)
    have y0 := hfw.cell (by show ¬ w.heap.size = _; omega) HY2.out.1.1
    have y1 := hfw.cell (by show ¬ w.heap.size = _; omega) HY2.out.1.2
    have y2 := hfw.cell (by show ¬ w.heap.size + 1 = _; omega) HY2.out.2.1.1
    have y3 := hfw.cell (by show ¬ w.heap.size + 1 = _; omega) HY2.out.2.1.2
    have y4 := hfw.cell (by show ¬ w.heap.size + 1 + 1 = _; omega) HY2.out.2.2
    have hb4 := HG.out.2.2.1.trans (hfw.below HG.out.2.2.1.size fun k hk e => by omega)
    have q0 : w4.cell? ⟨w.heap.size + 1 + 1 + 1, 0, none⟩ = some (.bool false) := cell_of_row _ _ 0 _ _ _ hq
    have qz := frozen_of_row _ _ 0 _ _ hq
    have n0 : w4.cell? ⟨nx, 0, none⟩ = some (.int .i64 (pre.length : Int)) := cell_of_row _ _ 0 _ _ _ hqn
    have nzz := frozen_of_row _ _ 0 _ _ hqn
    have zn := box_lt hqn
    have zr := box_lt hq
    have zx := box_lt hx
    have zy := World.block_lt_of_cell? w4 _ y0
    have zz := World.block_lt_of_cell? w4 _ y4
    have zy1 := World.block_lt_of_cell? w4 _ y2
    simp only at zy zz zy1
    have hxI : RInts w4 (.slice (some ⟨W.heap.size, 0, none⟩) 9 9) [x0, x1, x2, x3, x4, x5, x6, x7, x8] :=
      .inr ⟨W.heap.size, 0, 9, rfl, by simp, by unfold maxLen; omega, fun i hi => by rw [Nat.zero_add]; exact (rarr_row' hx rfl).2.2 i (by simpa using hi)⟩
    have HXI := Lib.hid hxI
    obtain ⟨k, hkk⟩ : ∃ k, pre.length = k := ⟨_, rfl⟩
    rw [hkk] at n0
    have HKK := Lib.hid hkk
    have HQ := Lib.hid (And.intro hq (And.intro hqn (And.intro hb4 hfw)))
    clear hq hqn hxI hx hfw hf4 hkk
    by_cases hend : k = ps.length
    · have HN := Lib.hid (show chkL a b ps = false from chk_short (by
        have h2 := HPRE.out.length_le
        have h3 := HKK.out
        simp only [List.length_append, List.length_cons, List.length_nil] at h2
        omega))
      have heq : ((k : Int) == (ps.length : Int)) = true := by simp [hend]
      clear hend
      refine wpIn_block ?_
      refine wpIn_seq ?_
      refine wpIn_seq ?_
      refine wpIn_region_extR (by kernel_rfl) (by kernel_rfl) (by kernel_rfl) ?_
      repeat (go_big_quiet_step ((fail)))
      refine wpQuiet_nil ?_
      intro w5 hb5
      have hq5 := box_keep HQ.out.1 hb5
      have q0 : w5.cell? ⟨w.heap.size + 1 + 1 + 1, 0, none⟩ = some (.bool false) := cell_of_row _ _ 0 _ _ _ hq5
      have qz := frozen_of_row _ _ 0 _ _ hq5
      have H5 := Lib.hid (And.intro hq5 hb5)
      clear hq5 hb5
      gi_wp2
      have hb5 := bt HQ.out.2.2.1 H5.out.2
      refine ⟨?_, pre, [x0, x1, x2, x3, x4, x5, x6, x7, x8], rfl, rfl, HN.out, ?_, ?_⟩
      · exact ((Below.fr H5.out.2).mono fun _ _ h => h.elim).trans ((fr_set _ _ _).mono fun k _ e => by simp at e; omega)
      · exact World.cell?_setCell_same' _ _ _ (by have hcc := cell_of_row _ _ 0 _ _ _ H5.out.1; exact Option.isSome_iff_exists.2 ⟨_, hcc⟩)
      · exact hb5.setCell (p := ⟨w.heap.size + 1 + 1 + 1, 0, none⟩) (by simp; omega) _
    · have hk8 : k < ps.length := by have := HG.out.2.2.2.2.1.1; have := HKK.out; omega
      have heq : ((k : Int) == (ps.length : Int)) = false := by rw [beq_eq_false_iff_ne]; omega
      have i1 : (k : Int) < (ps.length : Int) := by omega
      have i2 : ¬ ((k : Int) = (ps.length : Int)) := by omega
      obtain ⟨pa', pc', hpe, _, _, hpf⟩ := (j.keep HQ.out.2.2.1).cpfAt
      simp only [Value.slice.injEq] at hpe
      obtain ⟨rfl, _, rfl⟩ := hpe
      obtain ⟨b3, o3, s1, s2, rfl, _, hz1, hp1, hp2, r1, r2⟩ := hpf k hk8
      obtain ⟨s1a, s1c, rfl⟩ := r1.form
      obtain ⟨s2a, s2c, rfl⟩ := r2.form
      have q1 := h1.keep HQ.out.2.2.1
      have q2 := h2.keep HQ.out.2.2.1
      have q3 := k1.keep HQ.out.2.2.1
      have q4 := k2.keep HQ.out.2.2.1
      have hgk : k < (casesL (bothM a b) a).length ∧ gd (casesL (bothM a b) a) k = [x0, x1, x2, x3, x4, x5, x6, x7, x8] := by
        obtain ⟨t, ht⟩ := HPRE.out
        have hk2 := HKK.out
        rw [← ht]
        refine ⟨by simp; omega, ?_⟩
        subst hk2
        rw [gd_of (by simp)]
        simp
      have HGK := Lib.hid hgk
      clear hpf hend hgk
      by_cases he : (gd ps k).1 = [x0, x1, x2, x3, x4, x5, x6, x7, x8]
      rotate_left
      · have HEQ := Lib.hid (show decide ((gd ps k).1 = [x0, x1, x2, x3, x4, x5, x6, x7, x8]) = false from decide_eq_false he)
        have HN := Lib.hid (show chkL a b ps = false from chk_ne hk8 HGK.out.1 (by rw [HGK.out.2]; exact he))
        clear he
        refine wpIn_block ?_
        refine wpIn_seq ?_
        refine wpIn_seq ?_
        refine wpIn_region_extR (by kernel_rfl) (by kernel_rfl) (by kernel_rfl) ?_
        repeat (go_big_quiet_step ((first
          | (go_at_call 119; exact ext_c (cb (sameInts_extB _ _ (gd ps k).1 [x0, x1, x2, x3, x4, x5, x6, x7, x8] _ (r1.keep Bl).ints (HXI.out.keep Bl)) HEQ.out)))))
        refine wpQuiet_nil ?_
        intro w5 hb5
        have hq5 := box_keep HQ.out.1 hb5
        have q0 : w5.cell? ⟨w.heap.size + 1 + 1 + 1, 0, none⟩ = some (.bool false) := cell_of_row _ _ 0 _ _ _ hq5
        have qz := frozen_of_row _ _ 0 _ _ hq5
        have H5 := Lib.hid (And.intro hq5 hb5)
        clear hq5 hb5
        gi_wp2
        have hb5 := bt HQ.out.2.2.1 H5.out.2
        refine ⟨?_, pre, [x0, x1, x2, x3, x4, x5, x6, x7, x8], rfl, rfl, HN.out, ?_, ?_⟩
        · exact ((Below.fr H5.out.2).mono fun _ _ h => h.elim).trans ((fr_set _ _ _).mono fun k _ e => by simp at e; omega)
        · exact World.cell?_setCell_same' _ _ _ (by have hcc := cell_of_row _ _ 0 _ _ _ H5.out.1; exact Option.isSome_iff_exists.2 ⟨_, hcc⟩)
        · exact hb5.setCell (p := ⟨w.heap.size + 1 + 1 + 1, 0, none⟩) (by simp; omega) _
      have HEQ := Lib.hid (show decide ((gd ps k).1 = [x0, x1, x2, x3, x4, x5, x6, x7, x8]) = true from decide_eq_true he)
      have HEE := Lib.hid he
      cases hck : checkC a b (gd ps k) with
      | false =>
        have HCK := Lib.hid hck
        have HN := Lib.hid (show chkL a b ps = false from chk_no hk8 hck)
        clear he hck
        refine wpIn_block ?_
        refine wpIn_seq ?_
        refine wpIn_seq ?_
        refine wpIn_region_extR (by kernel_rfl) (by kernel_rfl) (by kernel_rfl) ?_
        repeat (go_big_quiet_step ((first
          | (go_at_call 119; exact ext_c (cb (sameInts_extB _ _ (gd ps k).1 [x0, x1, x2, x3, x4, x5, x6, x7, x8] _ (r1.keep Bl).ints (HXI.out.keep Bl)) HEQ.out))
          | (go_at_call 32; exact ext_c (cb (checkCaseI_any _ _ _ _ _ _ a b (gd ps k) _ (q1.keep Bl) (q2.keep Bl) (q3.keep Bl) (q4.keep Bl) (r1.keep Bl) (r2.keep Bl)) HCK.out)))))
        refine wpQuiet_nil ?_
        intro w5 hb5
        have hq5 := box_keep HQ.out.1 hb5
        have q0 : w5.cell? ⟨w.heap.size + 1 + 1 + 1, 0, none⟩ = some (.bool false) := cell_of_row _ _ 0 _ _ _ hq5
        have qz := frozen_of_row _ _ 0 _ _ hq5
        have H5 := Lib.hid (And.intro hq5 hb5)
        clear hq5 hb5
        gi_wp2
        have hb5 := bt HQ.out.2.2.1 H5.out.2
        refine ⟨?_, pre, [x0, x1, x2, x3, x4, x5, x6, x7, x8], rfl, rfl, HN.out, ?_, ?_⟩
        · exact ((Below.fr H5.out.2).mono fun _ _ h => h.elim).trans ((fr_set _ _ _).mono fun k _ e => by simp at e; omega)
        · exact World.cell?_setCell_same' _ _ _ (by have hcc := cell_of_row _ _ 0 _ _ _ H5.out.1; exact Option.isSome_iff_exists.2 ⟨_, hcc⟩)
        · exact hb5.setCell (p := ⟨w.heap.size + 1 + 1 + 1, 0, none⟩) (by simp; omega) _
      | true =>
        have HCK := Lib.hid hck
        have HN := Lib.hid (show (pre ++ [[x0, x1, x2, x3, x4, x5, x6, x7, x8]]).length ≤ ps.length ∧ (ps.take (pre ++ [[x0, x1, x2, x3, x4, x5, x6, x7, x8]]).length).map Prod.fst = pre ++ [[x0, x1, x2, x3, x4, x5, x6, x7, x8]] ∧ (ps.take (pre ++ [[x0, x1, x2, x3, x4, x5, x6, x7, x8]]).length).all (checkC a b) = true by
          have hkk := HKK.out
          have hp := HG.out.2.2.2.2.1
          rw [List.length_append, List.length_singleton, hkk]
          rw [hkk] at hp
          exact ⟨by omega, by rw [map_take_gd hk8, hp.2.1, he], by rw [all_take_gd hk8, hp.2.2, hck]; rfl⟩)
        clear he hck
        refine wpIn_block ?_
        refine wpIn_seq ?_
        refine wpIn_seq ?_
        refine wpIn_region_extR (by kernel_rfl) (by kernel_rfl) (by kernel_rfl) ?_
        repeat (go_big_quiet_step ((first
          | (go_at_call 119; exact ext_c (cb (sameInts_extB _ _ (gd ps k).1 [x0, x1, x2, x3, x4, x5, x6, x7, x8] _ (r1.keep Bl).ints (HXI.out.keep Bl)) HEQ.out))
          | (go_at_call 32; exact ext_c (cb (checkCaseI_any _ _ _ _ _ _ a b (gd ps k) _ (q1.keep Bl) (q2.keep Bl) (q3.keep Bl) (q4.keep Bl) (r1.keep Bl) (r2.keep Bl)) HCK.out)))))
        refine wpQuiet_nil ?_
        intro w5 hb5
        have hq5 := box_keep HQ.out.2.1 hb5
        have q0 : w5.cell? ⟨nx, 0, none⟩ = some (.int .i64 (k : Int)) := by have := cell_of_row _ _ 0 _ _ _ hq5; rw [HKK.out] at this; exact this
        have qz := frozen_of_row _ _ 0 _ _ hq5
        have H5 := Lib.hid (And.intro hq5 hb5)
        clear hq5 hb5
        gi_wp2
        have hfs := fr_set w5 ⟨nx, 0, none⟩ (.int .i64 ((k : Int) + 1))
        have hck : ∀ {p : Addr} {v : Value}, w4.cell? p = some v → p.block ≠ nx → (w5.setCell ⟨nx, 0, none⟩ (.int .i64 ((k : Int) + 1))).cell? p = some v := fun h hn => hfs.cell (fun e => hn e) (cell_keep H5.out.2 h)
        refine ⟨((Below.fr H5.out.2).mono fun _ _ h => h.elim).trans (hfs.mono fun j _ e => ?_), HN.out, HG.out.2.2.2.2.2, ⟨⟨hck y0 ?_, hck y1 ?_⟩, ⟨hck y2 ?_, hck y3 ?_⟩, hck y4 ?_⟩, box_other (box_keep HQ.out.1 H5.out.2) _ _ ?_, ?_, (bt HQ.out.2.2.1 H5.out.2).setCell (p := ⟨nx, 0, none⟩) ?_ _⟩
        · have e' : j = nx := e
          subst e'
          refine ⟨fun hx => ?_, fun hx => hx.2.2 rfl, by omega, by omega⟩
          have := (HG.out.2.2.2.1 _ hx).1
          omega
        · simp; omega
        · simp; omega
        · simp; omega
        · simp; omega
        · simp; omega
        · simp; omega
        · rw [heap_setCell_same w5 nx 0 _ _ _ H5.out.1, List.length_append, List.length_singleton, HKK.out]
          rfl
        · simp; omega
  case hdone =>
    rintro W ⟨hp, _, ⟨_, _, he⟩, hg1, hg2, hb⟩ hK
    obtain ⟨n, hn⟩ : ∃ n, (casesL (bothM a b) a).length = n := ⟨_, rfl⟩
    have HN := Lib.hid (show r = decide (ps.length = n) by
      rw [← HR.out, ← hn]
      by_cases e : ps.length = (casesL (bothM a b) a).length
      · have h2 := hp.2
        rw [← e, List.take_length] at h2
        rw [chkL, h2.2, Bool.and_true, decide_eq_true e]
        exact decide_eq_true h2.1
      · rw [decide_eq_false e, chkL, Bool.and_eq_false_iff]
        left
        rw [decide_eq_false_iff_not]
        intro e2
        have := congrArg List.length e2
        rw [List.length_map] at this
        exact e this)
    rw [hn] at hg2
    have HE := Lib.hid (show ((n : Int) == (ps.length : Int)) = decide (ps.length = n) by
      by_cases e : ps.length = n
      · simp [e]
      · rw [decide_eq_false e, beq_eq_false_iff_ne]; omega)
    have HH := Lib.hid (And.intro hg1 (And.intro hb hK))
    have q0 : W.cell? ⟨w.heap.size + 1 + 1 + 1, 0, none⟩ = some (.bool false) := cell_of_row _ _ 0 _ _ _ hg1
    have qz := frozen_of_row _ _ 0 _ _ hg1
    have n0 : W.cell? ⟨nx, 0, none⟩ = some (.int .i64 (n : Int)) := cell_of_row _ _ 0 _ _ _ hg2
    have nz := box_lt hg2
    have rz := box_lt hg1
    clear hg1 hg2 hb hK hp hn
    go_wp2
    have hff := fr_set W ⟨w.heap.size + 1 + 1 + 1, 0, none⟩ (.bool ((n : Int) == (ps.length : Int)))
    refine marks_ret rfl (fr_blk hff HH.out.2.2 (by simp; omega)) (res_one rfl rfl rfl (World.cell?_setCell_same' _ _ _ (by have hcc := cell_of_row _ _ 0 _ _ _ HH.out.1; exact Option.isSome_iff_exists.2 ⟨_, hcc⟩)) (by omega)) ?_
    exact ⟨by rw [HN.out, ← HE.out], (HH.out.2.1.trans (hff.below HH.out.2.1.size fun k hk e => by simp at e; omega)).trans ((fr_put _ _ _).below (by have := hff.size; have := HH.out.2.1.size; omega) fun k hk e => by omega)⟩
  case hstop =>
    rintro c pre W hpre ⟨q, x, rfl, rfl, hx, hc1, hb⟩ hK
    refine wp_ret ?_
    have HN := Lib.hid (show r = false by rw [← HR.out]; exact hx)
    refine marks_ret rfl hK (res_one rfl rfl rfl hc1 (by omega)) ?_
    exact ⟨by rw [HN.out], hb.trans ((fr_put W _ _).below hb.size fun k hk e => by omega)⟩
end Go.Proofs.Ytapoillhgimdiaa
