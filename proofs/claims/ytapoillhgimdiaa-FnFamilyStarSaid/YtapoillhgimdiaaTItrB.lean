/- ItrB: texts Itr3, Itr4 in one. -/
import Derived.Test.YtapoillhgimdiaaTItrA
import Derived.Test.YtapoillhgimdiaaTMtcA
import Derived.Test.YtapoillhgimdiaaTCsA
/- Walks: the first case; the first case in which an entailment fails; consistency, entailment: the program. -/
namespace Go.Proofs.Ytapoillhgimdiaa
open Go Go.RowKit

attribute [local go_sem] Oper.semAt_some
theorem len9 {cl : List Int} (h : cl.length = 9) : ∃ x0 x1 x2 x3 x4 x5 x6 x7 x8, cl = [x0, x1, x2, x3, x4, x5, x6, x7, x8] := by
  match cl, h with
  | [x0, x1, x2, x3, x4, x5, x6, x7, x8], _ => exact ⟨x0, x1, x2, x3, x4, x5, x6, x7, x8, rfl⟩
theorem cases_len {M : Nat} {a : Asn} {cl : List Int} (h : cl ∈ casesL M a) : cl.length = 9 := by
  have := (mem_cases.1 h).1
  rw [shapeC, Bool.and_eq_true, beq_iff_eq] at this
  exact this.1
theorem pre_mem {α : Type} {pre xs : List α} {x : α} (h : pre ++ [x] <+: xs) : x ∈ xs := h.subset (by simp)
theorem cells9 {W : World} {g : Nat} {T : TypeId} {a0 a1 a2 a3 a4 a5 a6 a7 a8 : Value} (h : W.heap[g]? = some (.cells #[a0, a1, a2, a3, a4, a5, a6, a7, a8] T (0, 0))) :
    (W.cell? ⟨g, 0, none⟩ = some a0 ∧ W.cell? ⟨g, 1, none⟩ = some a1 ∧ W.cell? ⟨g, 2, none⟩ = some a2 ∧ W.cell? ⟨g, 3, none⟩ = some a3 ∧ W.cell? ⟨g, 4, none⟩ = some a4 ∧ W.cell? ⟨g, 5, none⟩ = some a5 ∧ W.cell? ⟨g, 6, none⟩ = some a6 ∧ W.cell? ⟨g, 7, none⟩ = some a7 ∧ W.cell? ⟨g, 8, none⟩ = some a8) ∧ ∀ i, W.frozen? ⟨g, i, none⟩ = false :=
  ⟨⟨cell_of_row _ _ 0 _ _ _ h, cell_of_row _ _ 1 _ _ _ h, cell_of_row _ _ 2 _ _ _ h, cell_of_row _ _ 3 _ _ _ h, cell_of_row _ _ 4 _ _ _ h, cell_of_row _ _ 5 _ _ _ h, cell_of_row _ _ 6 _ _ _ h, cell_of_row _ _ 7 _ _ _ h, cell_of_row _ _ 8 _ _ _ h⟩, fun i => frozen_of_row _ _ i _ _ h⟩
theorem there_row {W : World} {g : Nat} {T : TypeId} {cs : Array Value} (h : W.heap[g]? = some (.cells cs T (0, 0))) : W.there g 0 cs.size := fun j hj => by
  rw [Nat.zero_add, cell_of_row _ _ j _ _ _ h, frozen_of_row _ _ j _ _ h]
  simp [hj]
theorem fr_setCells {g : Nat} : ∀ (cs : List Value) (o : Nat) (w : World), Fr (fun k => k = g) w (w.setCells g o cs)
  | [], _, w => Fr.refl _ w
  | c :: cs, o, w => (fr_set w ⟨g, o, none⟩ c).trans (fr_setCells cs (o + 1) _)
theorem results_cells2 {P : Program} {fn : Func} {p q : Tmp} {ty u : TypeId} (h : fn.results = #[.cell p ty, .cell q u]) {tmps : Array Value} {w : World} {a b : Addr} {v1 v2 : Value}
    (hp : tmps.getD p undef = .pointer (some a)) (hq : tmps.getD q undef = .pointer (some b)) (h1 : (loadVar ty a).run P w = .ok v1 w) (h2 : (loadVar u b).run P w = .ok v2 w) : (results fn tmps).run P w = .ok (.tuple #[v1, v2]) w := by
  have hp' : tmps[p]?.getD undef = .pointer (some a) := by simpa using hp
  have hq' : tmps[q]?.getD undef = .pointer (some b) := by simpa using hq
  simp [results, h, hp', hq', asAddr, h1, h2]
theorem load_bool {W : World} {g : Nat} {b : Bool} (h : W.cell? ⟨g, 0, none⟩ = some (.bool b)) : (loadVar 4 ⟨g, 0, none⟩).run Try.prog W = .ok (.bool b) W := by
  simp [go_sem, h]
theorem load9r {W : World} {g : Nat} {q : List Int} (h : W.rangeAt g 0 (ints q)) (hq : q.length = 9) : (loadVar 116 ⟨g, 0, none⟩).run Try.prog W = .ok (.agg (iarr q)) W :=
  run_loadVar_mid (P := Try.prog) W g 0 116 (ints q) _ h Try.underlying116 rfl (by rw [sizeC]; simp [hq])
/-- The two result variables behind a loop: a case, a bool. -/
theorem res_put {P : Program} {fn : Func} {p q : Tmp} (h : fn.results = #[.cell p 116, .cell q 4]) {tmps : Array Value} {W : World} {D g1 g2 : Nat} {cl : List Int} {b : Bool} (hP : P = Try.prog)
    (hp : tmps.getD p undef = .pointer (some ⟨g1, 0, none⟩)) (hq : tmps.getD q undef = .pointer (some ⟨g2, 0, none⟩)) (h1 : W.rangeAt g1 0 (ints cl)) (h9 : cl.length = 9) (h2 : W.cell? ⟨g2, 0, none⟩ = some (.bool b)) (d1 : ¬ g1 = D) (d2 : ¬ g2 = D) :
    (results fn tmps).run P (W.putObj D (.deferred none)) = .ok (.tuple #[.agg (iarr cl), .bool b]) (W.putObj D (.deferred none)) := by
  subst hP
  exact results_cells2 h hp hq (load9r (fun j v hj => (fr_put W D _).cell d1 (h1 j v hj)) h9) (load_bool ((fr_put W D _).cell d2 h2))
/-- The first of the cases. -/
def firstO (M : Nat) (a : Asn) : Option (List Int) := (casesL M a).head?
set_option maxRecDepth 100000 in
set_option maxHeartbeats 3200000 in
theorem firstCase_any {S1 S2 : Nat → Prop} (v1 v2 : Value) (a : Asn) (r : Option (List Int)) (w : World) (h1 : RL w S1 v1 a.1) (h2 : RL w S2 v2 a.2) (ha : asnB a = true) (hr : firstO (termM (termsM a) 0) a = r) :
    Calls Try.prog 120 #[.agg #[v1, v2]] w fun e w' => ∃ tl : List Int, tl.length = 9 ∧ (∀ cl, r = some cl → tl = cl) ∧ e = .returned (.tuple #[.agg (iarr tl), .bool r.isSome]) ∧ Below w.heap.size w w' := by
  obtain ⟨xa1, xc1, rfl⟩ := h1.form
  obtain ⟨xa2, xc2, rfl⟩ := h2.form
  have HA := Lib.hid ha
  have HR := Lib.hid hr
  clear ha hr
  refine calls_of_marks Try.func120 rfl ?_
  simp only [Try.ntmps120, List.size_toArray, List.length_cons, List.length_nil, Nat.reduceAdd, Nat.reduceSub, Array.replicate_succ, Array.replicate_zero, List.push_toArray, List.append_toArray, List.nil_append, List.cons_append]
  go_wp2_with fail
  refine (possibleCases_any _ _ a 0 _ (h1.keep Bl) (h2.keep Bl) (by decide)).mono ?_
  rintro e w1 ⟨b1, b2, rfl, hb1, hb2, c0, c1, c2, hb⟩
  rw [Nat.or_zero] at c2
  have HB := Lib.hid hb
  have HC := Lib.hid (And.intro c0 (And.intro c1 c2))
  have hW := bt (a := w) Bl hb
  have hz := hb.size
  simp only [World.size_alloc] at hz
  have hg0 : w1.heap[w.heap.size + 1]? = some (.cells #[.int .i64 0, .int .i64 0, .int .i64 0, .int .i64 0, .int .i64 0, .int .i64 0, .int .i64 0, .int .i64 0, .int .i64 0] 116 (0, 0)) := box_keep (box_keep (by have := heap_alloc_new (w.alloc (.cells #[.slice xa1 a.1.length xc1, .slice xa2 a.2.length xc2] 33)) (.cells #[.int .i64 0, .int .i64 0, .int .i64 0, .int .i64 0, .int .i64 0, .int .i64 0, .int .i64 0, .int .i64 0, .int .i64 0] 116); rwa [World.size_alloc] at this) (below_alloc _ _)) hb
  have hg1 : w1.heap[w.heap.size + 1 + 1]? = some (.cells #[.bool false] 4 (0, 0)) := box_keep (by have := heap_alloc_new ((w.alloc (.cells #[.slice xa1 a.1.length xc1, .slice xa2 a.2.length xc2] 33)).alloc (.cells #[.int .i64 0, .int .i64 0, .int .i64 0, .int .i64 0, .int .i64 0, .int .i64 0, .int .i64 0, .int .i64 0, .int .i64 0] 116)) (.cells #[.bool false] 4); simp only [World.size_alloc] at this; exact this) hb
  have HW := Lib.hid (And.intro hW (And.intro hg0 hg1))
  clear c0 c1 c2 hb hW hg0 hg1
  simp only [World.size_alloc] at hb1 hb2
  go_wp2
  refine wp_rangeW (xs := casesL (termM (termsM a) 0) a) (R := fun k => k < w1.heap.size ∧ k ≠ w.heap.size + 1 ∧ k ≠ w.heap.size + 1 + 1) (w0 := w1) rfl (enters_of Try.func174 (by kernel_rfl) rfl)
    (cases_seq b1 b2 _ _ a _ w1 HC.out.1 HC.out.2.1 HC.out.2.2 ((h1.lt.keep HW.out.1).more fun k _ hk => ⟨by have : k < w.heap.size := hk; omega, by have : k < w.heap.size := hk; omega, by have : k < w.heap.size := hk; omega⟩)
      ((h2.lt.keep HW.out.1).more fun k _ hk => ⟨by have : k < w.heap.size := hk; omega, by have : k < w.heap.size := hk; omega, by have : k < w.heap.size := hk; omega⟩) (fun k hk => hk.1) HA.out (termM_lt (termsM_lt a)) (fun j hj => by rw [one_bit, hj]; rfl)) (Below.refl _ _) (fun k hk => hk.1) (fun _ => rfl)
    (fun X pre W => pre = [] ∧ (∀ k, X k → w1.heap.size ≤ k) ∧ W.heap[w.heap.size + 1]? = some (.cells #[.int .i64 0, .int .i64 0, .int .i64 0, .int .i64 0, .int .i64 0, .int .i64 0, .int .i64 0, .int .i64 0, .int .i64 0] 116 (0, 0)) ∧ W.heap[w.heap.size + 1 + 1]? = some (.cells #[.bool false] 4 (0, 0)) ∧ Below w.heap.size w W)
    (fun c pre W => ∃ x, c = .ret ∧ pre = [x] ∧ x.length = 9 ∧ W.rangeAt (w.heap.size + 1) 0 (ints x) ∧ W.cell? ⟨w.heap.size + 1 + 1, 0, none⟩ = some (.bool true) ∧ Below w.heap.size w W)
    ?hI ?hIx ⟨rfl, fun _ h => h.elim, HW.out.2.1, HW.out.2.2, HW.out.1⟩ ?hround ?hdone ?hstop
  case hI =>
    rintro X X' pre A B ⟨rfl, hX, h1, h2, hb⟩ hf hz' hX'
    refine ⟨rfl, fun k hk => ?_, box_kept h1 hf ?_, box_kept h2 hf ?_, hb.trans (hf.below hb.size fun k hk e => ?_)⟩
    · rcases hX' k hk with h | h
      · exact hX k h
      · omega
    · rintro (h | h | h)
      · have := hX _ h; omega
      · omega
      · omega
    · rintro (h | h | h)
      · have := hX _ h; omega
      · omega
      · omega
    · rcases e with h | h | h
      · have := hX _ h; omega
      · omega
      · omega
  case hIx =>
    rintro c pre A B ⟨x, rfl, rfl, h9, h1, h2, hb⟩ hf
    refine ⟨x, rfl, rfl, h9, fun j v hj => hf.cell ?_ (h1 j v hj), hf.cell ?_ h2, hb.trans (hf.below hb.size fun k hk e => ?_)⟩
    · rintro (h | h) <;> (simp only at h; omega)
    · rintro (h | h) <;> (simp only at h; omega)
    · rcases e with h | h <;> omega
  case hround =>
    rintro m X pre x W hzW hX hpre ⟨rfl, hX2, hg0, hg1, hb⟩
    obtain ⟨x0, x1, x2, x3, x4, x5, x6, x7, x8, rfl⟩ := len9 (cases_len (pre_mem hpre))
    have HG := Lib.hid (And.intro hg0 (And.intro hg1 (And.intro hb hX)))
    clear hpre hX hX2 hg0 hg1 hb
    gi_wp2
    refine ⟨(fr_al _ _).mono fun _ _ h => h.elim, fun w2 hf2 => ?_⟩
    have hfw : Fr (fun k => k = w1.heap.size + 1) W w2 := ((fr_al W (.cells #[.int .i64 x0, .int .i64 x1, .int .i64 x2, .int .i64 x3, .int .i64 x4, .int .i64 x5, .int .i64 x6, .int .i64 x7, .int .i64 x8] 116)).mono fun _ _ h => h.elim).trans hf2
    have hx := box_kept (heap_alloc_new W (.cells #[.int .i64 x0, .int .i64 x1, .int .i64 x2, .int .i64 x3, .int .i64 x4, .int .i64 x5, .int .i64 x6, .int .i64 x7, .int .i64 x8] 116)) hf2 (by omega)
    have hg := box_kept HG.out.1 hfw (by omega)
    have hq := box_kept HG.out.2.1 hfw (by omega)
    have HH := Lib.hid (And.intro (there_row hg) (And.intro hq (HG.out.2.2.1.trans (hfw.below HG.out.2.2.1.size fun k hk e => by omega))))
    obtain ⟨⟨d0, d1, d2, d3, d4, d5, d6, d7, d8⟩, _⟩ := cells9 hx
    obtain ⟨⟨e0, e1, e2, e3, e4, e5, e6, e7, e8⟩, ez⟩ := cells9 hg
    have q0 : w2.cell? ⟨w.heap.size + 1 + 1, 0, none⟩ = some (.bool false) := cell_of_row _ _ 0 _ _ _ hq
    have qz := frozen_of_row _ _ 0 _ _ hq
    clear hx hg hq hfw hf2
    gi_wp2
    have hfs := fr_setCells (g := w.heap.size + 1) [.int .i64 x0, .int .i64 x1, .int .i64 x2, .int .i64 x3, .int .i64 x4, .int .i64 x5, .int .i64 x6, .int .i64 x7, .int .i64 x8] 0 w2
    have hra := World.rangeAt_setCells_same w2 (w.heap.size + 1) 0 [.int .i64 x0, .int .i64 x1, .int .i64 x2, .int .i64 x3, .int .i64 x4, .int .i64 x5, .int .i64 x6, .int .i64 x7, .int .i64 x8] HH.out.1
    have hq2 := box_kept HH.out.2.1 hfs (by omega)
    refine ⟨?_, _, rfl, rfl, rfl, fun j v hj => cell_set_other (hra j v hj) (by simp), ?_, ?_⟩
    · exact (hfs.mono (S' := fun k => k ≠ w1.heap.size ∧ k ≠ w1.heap.size + 1) fun k _ e => by omega).trans ((fr_set _ _ _).mono fun k _ e => by simp at e; omega)
    · exact World.cell?_setCell_same' _ _ _ (by have hcc := cell_of_row _ _ 0 _ _ _ hq2; exact Option.isSome_iff_exists.2 ⟨_, hcc⟩)
    · exact (HH.out.2.2.trans (hfs.below HH.out.2.2.size fun k hk e => by omega)).setCell (p := ⟨w.heap.size + 1 + 1, 0, none⟩) (by simp; omega) _
  case hdone =>
    rintro W ⟨hnil, _, hg0, hg1, hb⟩ hK
    have HN := Lib.hid (show r = none by rw [← HR.out, firstO, hnil]; rfl)
    have HH := Lib.hid (And.intro (there_row hg0) (And.intro hg1 (And.intro hb hK)))
    obtain ⟨⟨e0, e1, e2, e3, e4, e5, e6, e7, e8⟩, ez⟩ := cells9 hg0
    have q0 : W.cell? ⟨w.heap.size + 1 + 1, 0, none⟩ = some (.bool false) := cell_of_row _ _ 0 _ _ _ hg1
    have qz := frozen_of_row _ _ 0 _ _ hg1
    clear hg0 hg1 hb hK hnil
    go_wp2
    have hfs := fr_setCells (g := w.heap.size + 1) [.int .i64 0, .int .i64 0, .int .i64 0, .int .i64 0, .int .i64 0, .int .i64 0, .int .i64 0, .int .i64 0, .int .i64 0] 0 W
    have hra := World.rangeAt_setCells_same W (w.heap.size + 1) 0 [.int .i64 0, .int .i64 0, .int .i64 0, .int .i64 0, .int .i64 0, .int .i64 0, .int .i64 0, .int .i64 0, .int .i64 0] HH.out.1
    have hff := (hfs.mono (S' := fun k => k = w.heap.size + 1 ∨ k = w.heap.size + 1 + 1) fun k _ e => .inl e).trans ((fr_set _ ⟨w.heap.size + 1 + 1, 0, none⟩ (.bool false)).mono fun k _ e => .inr e)
    have hq2 := box_kept HH.out.2.1 hfs (by omega)
    refine marks_ret rfl (fr_blk hff HH.out.2.2.2 (by omega)) (res_put rfl rfl rfl rfl (fun j v hj => cell_set_other (hra j v hj) (by simp)) (cl := [0, 0, 0, 0, 0, 0, 0, 0, 0]) rfl (World.cell?_setCell_same' _ _ _ (by have hcc := cell_of_row _ _ 0 _ _ _ hq2; exact Option.isSome_iff_exists.2 ⟨_, hcc⟩)) (by omega) (by omega)) ?_
    exact ⟨[0, 0, 0, 0, 0, 0, 0, 0, 0], rfl, fun cl e => (by rw [HN.out] at e; cases e), by rw [HN.out]; rfl, (HH.out.2.2.1.trans (hff.below HH.out.2.2.1.size fun k hk e => by omega)).trans ((fr_put _ _ _).below (by have := hff.size; have := HH.out.2.2.1.size; omega) fun k hk e => by omega)⟩
  case hstop =>
    rintro c pre W hpre ⟨x, rfl, rfl, h9, hra, hc1, hb⟩ hK
    refine wp_ret ?_
    have HN := Lib.hid (show r = some x by rw [← HR.out, firstO]; obtain ⟨t, ht⟩ := hpre; rw [← ht]; rfl)
    refine marks_ret rfl hK (res_put rfl rfl rfl rfl hra h9 hc1 (by omega) (by omega)) ?_
    exact ⟨x, h9, fun cl e => by rw [HN.out] at e; injection e, by rw [HN.out]; rfl, hb.trans ((fr_put W _ _).below hb.size fun k hk e => by omega)⟩
end Go.Proofs.Ytapoillhgimdiaa
/- Walks: consistency, entailment: the program. -/
namespace Go.Proofs.Ytapoillhgimdiaa
open Go Go.RowKit

end Go.Proofs.Ytapoillhgimdiaa
