/- Walks: the check of a case: the program. -/
import Derived.Test.YtapoillhgimdiaaRCaseC
import Derived.Deep.Cut
import Derived.Deep.RegionHeld3
import Derived.Deep.MidRow
namespace Go.Proofs.Ytapoillhgimdiaa
open Go.RowKit

/-- The case that is read, written out. -/
theorem readCase9_any {S1 S2 : Nat → Prop} (v1 v2 v : Value) (a : Asn) (m : Nat) (cl : List Int) (rb : Bool) (w : World) (h1 : RL w S1 v1 a.1) (h2 : RL w S2 v2 a.2) (hv : RInts w v cl) (ha : asnB a = true) (hm : m < 65536) (hr : readC m a cl = rb) :
    Calls Try.prog 104 #[.agg #[v1, v2], .int .u16 m, v] w fun e w' => ∃ x0 x1 x2 x3 x4 x5 x6 x7 x8 : Int, (rb = true → [x0, x1, x2, x3, x4, x5, x6, x7, x8] = cl) ∧ e = .returned (.tuple #[.agg #[.int .i64 x0, .int .i64 x1, .int .i64 x2, .int .i64 x3, .int .i64 x4, .int .i64 x5, .int .i64 x6, .int .i64 x7, .int .i64 x8], .bool rb]) ∧ Below w.heap.size w w' := by
  subst hr
  refine (readCase_any v1 v2 v a m cl w h1 h2 hv ha hm).mono ?_
  rintro e w' ⟨tl, h9, htl, rfl, hb⟩
  match tl, h9 with
  | [x0, x1, x2, x3, x4, x5, x6, x7, x8], _ => exact ⟨x0, x1, x2, x3, x4, x5, x6, x7, x8, htl, rfl, hb⟩
theorem cntM_zero (n : Nat) : cntM n 0 = 0 := by
  unfold cntM
  rw [List.length_eq_zero_iff, List.filter_eq_nil_iff]
  intro x _; simp
theorem cntM_le (n m : Nat) : cntM n m ≤ n := by
  unfold cntM
  exact Nat.le_trans (List.length_filter_le _ _) (by simp)
/-- A new block of nine noughts, behind a call. -/
theorem zero9 {w w' : World} {g : Nat} (hg : w.heap[g]? = some (.cells #[.int .i64 0, .int .i64 0, .int .i64 0, .int .i64 0, .int .i64 0, .int .i64 0, .int .i64 0, .int .i64 0, .int .i64 0] 116 (0, 0))) (hb : Below w.heap.size w w') : (∀ i, i < 9 → w'.cell? ⟨g, i, none⟩ = some (.int .i64 0)) ∧ (∀ i, w'.frozen? ⟨g, i, none⟩ = false) := by
  have h := box_keep hg hb
  refine ⟨fun i hi => ?_, fun i => frozen_of_row _ _ i _ _ h⟩
  rw [cell_of_row _ _ i _ _ _ h]
  match i, hi with
  | 0, _ => rfl
  | 1, _ => rfl
  | 2, _ => rfl
  | 3, _ => rfl
  | 4, _ => rfl
  | 5, _ => rfl
  | 6, _ => rfl
  | 7, _ => rfl
  | 8, _ => rfl
theorem there9 {w : World} {g : Nat} (h : (∀ i, i < 9 → w.cell? ⟨g, i, none⟩ = some (.int .i64 0)) ∧ (∀ i, w.frozen? ⟨g, i, none⟩ = false)) : w.there g 0 9 := fun j hj => by
  rw [Nat.zero_add, h.1 j hj, h.2 j]; exact ⟨rfl, rfl⟩
theorem there9n (w : World) : (w.alloc (.cells #[.int .i64 0, .int .i64 0, .int .i64 0, .int .i64 0, .int .i64 0, .int .i64 0, .int .i64 0, .int .i64 0, .int .i64 0] 116)).there w.heap.size 0 9 := there9 (zero9 (heap_alloc_new w _) (Below.refl _ _))
theorem size9 (x0 x1 x2 x3 x4 x5 x6 x7 x8 : Int) : (Try.prog.info? 116).map (·.size) = some ([.int .i64 x0, .int .i64 x1, .int .i64 x2, .int .i64 x3, .int .i64 x4, .int .i64 x5, .int .i64 x6, .int .i64 x7, .int .i64 x8] : List Value).length := by rw [sizeC]; rfl
theorem one9 (x0 x1 x2 x3 x4 x5 x6 x7 x8 : Int) : ∀ u ∈ ([.int .i64 x0, .int .i64 x1, .int .i64 x2, .int .i64 x3, .int .i64 x4, .int .i64 x5, .int .i64 x6, .int .i64 x7, .int .i64 x8] : List Value), u.oneCell' = true := by
  intro u hu
  simp at hu
  rcases hu with rfl | rfl | rfl | rfl | rfl | rfl | rfl | rfl | rfl <;> rfl
theorem arr_of_range {w : World} {g : Nat} {x0 x1 x2 x3 x4 x5 x6 x7 x8 : Int} (h : w.rangeAt g 0 [.int .i64 x0, .int .i64 x1, .int .i64 x2, .int .i64 x3, .int .i64 x4, .int .i64 x5, .int .i64 x6, .int .i64 x7, .int .i64 x8]) : RArr w g [x0, x1, x2, x3, x4, x5, x6, x7, x8] := by
  have hc : ∀ i v, ([.int .i64 x0, .int .i64 x1, .int .i64 x2, .int .i64 x3, .int .i64 x4, .int .i64 x5, .int .i64 x6, .int .i64 x7, .int .i64 x8] : List Value)[i]? = some v → w.cell? ⟨g, i, none⟩ = some v := fun i v hv => by
    have := h i v hv
    rwa [Nat.zero_add] at this
  refine ⟨rfl, by have := World.block_lt_of_cell? w _ (hc 0 _ rfl); simpa using this, fun i hi => ?_⟩
  match i, hi with
  | 0, _ => exact hc 0 _ rfl
  | 1, _ => exact hc 1 _ rfl
  | 2, _ => exact hc 2 _ rfl
  | 3, _ => exact hc 3 _ rfl
  | 4, _ => exact hc 4 _ rfl
  | 5, _ => exact hc 5 _ rfl
  | 6, _ => exact hc 6 _ rfl
  | 7, _ => exact hc 7 _ rfl
  | 8, _ => exact hc 8 _ rfl
theorem new9 (w : World) (o : Obj) : (w.alloc o).drew.heap[w.heap.size]? = some o := heap_alloc_new w o
theorem new9' (w : World) (o : Obj) : (w.drew.alloc o).heap[w.heap.size]? = some o := heap_alloc_new w o
set_option maxRecDepth 100000 in
set_option maxHeartbeats 6400000 in
theorem checkCaseI_any {S1 S2 S3 S4 S5 S6 : Nat → Prop} (v1 v2 u1 u2 p1 p2 : Value) (a b : Asn) (p : CPf) (w : World) (h1 : RL w S1 v1 a.1) (h2 : RL w S2 v2 a.2) (k1 : RL w S3 u1 b.1) (k2 : RL w S4 u2 b.2) (j1 : RL w S5 p1 p.1) (j2 : RL w S6 p2 p.2) :
    Calls Try.prog 32 #[.agg #[v1, v2], .agg #[u1, u2], .agg #[p1, p2]] w fun e w' => e = .returned (.bool (checkC a b p)) ∧ Below w.heap.size w w' := by
  obtain ⟨cl, us⟩ := p
  simp only at j1 j2
  obtain ⟨xa1, xc1, rfl⟩ := h1.form
  obtain ⟨xa2, xc2, rfl⟩ := h2.form
  obtain ⟨ya1, yc1, rfl⟩ := k1.form
  obtain ⟨ya2, yc2, rfl⟩ := k2.form
  obtain ⟨za1, zc1, rfl⟩ := j1.form
  obtain ⟨za2, zc2, rfl⟩ := j2.form
  have hmu := j2.len
  unfold maxLen at hmu
  have hW : Below w.heap.size w (((w.alloc (.cells #[.slice xa1 a.1.length xc1, .slice xa2 a.2.length xc2] 33)).alloc (.cells #[.slice ya1 b.1.length yc1, .slice ya2 b.2.length yc2] 33)).alloc (.cells #[.slice za1 cl.length zc1, .slice za2 us.length zc2] 46)) := ba (ba (below_alloc _ _) _) _
  have hc0 : (((w.alloc (.cells #[.slice xa1 a.1.length xc1, .slice xa2 a.2.length xc2] 33)).alloc (.cells #[.slice ya1 b.1.length yc1, .slice ya2 b.2.length yc2] 33)).alloc (.cells #[.slice za1 cl.length zc1, .slice za2 us.length zc2] 46)).cell? ⟨w.heap.size, 0, none⟩ = some (.slice xa1 a.1.length xc1) := by simp [go_sem]
  have hc1 : (((w.alloc (.cells #[.slice xa1 a.1.length xc1, .slice xa2 a.2.length xc2] 33)).alloc (.cells #[.slice ya1 b.1.length yc1, .slice ya2 b.2.length yc2] 33)).alloc (.cells #[.slice za1 cl.length zc1, .slice za2 us.length zc2] 46)).cell? ⟨w.heap.size, 1, none⟩ = some (.slice xa2 a.2.length xc2) := by simp [go_sem]
  have hd0 : (((w.alloc (.cells #[.slice xa1 a.1.length xc1, .slice xa2 a.2.length xc2] 33)).alloc (.cells #[.slice ya1 b.1.length yc1, .slice ya2 b.2.length yc2] 33)).alloc (.cells #[.slice za1 cl.length zc1, .slice za2 us.length zc2] 46)).cell? ⟨w.heap.size + 1, 0, none⟩ = some (.slice ya1 b.1.length yc1) := by simp [go_sem]
  have hd1 : (((w.alloc (.cells #[.slice xa1 a.1.length xc1, .slice xa2 a.2.length xc2] 33)).alloc (.cells #[.slice ya1 b.1.length yc1, .slice ya2 b.2.length yc2] 33)).alloc (.cells #[.slice za1 cl.length zc1, .slice za2 us.length zc2] 46)).cell? ⟨w.heap.size + 1, 1, none⟩ = some (.slice ya2 b.2.length yc2) := by simp [go_sem]
  have he0 : (((w.alloc (.cells #[.slice xa1 a.1.length xc1, .slice xa2 a.2.length xc2] 33)).alloc (.cells #[.slice ya1 b.1.length yc1, .slice ya2 b.2.length yc2] 33)).alloc (.cells #[.slice za1 cl.length zc1, .slice za2 us.length zc2] 46)).cell? ⟨w.heap.size + 1 + 1, 0, none⟩ = some (.slice za1 cl.length zc1) := by simp [go_sem]
  have he1 : (((w.alloc (.cells #[.slice xa1 a.1.length xc1, .slice xa2 a.2.length xc2] 33)).alloc (.cells #[.slice ya1 b.1.length yc1, .slice ya2 b.2.length yc2] 33)).alloc (.cells #[.slice za1 cl.length zc1, .slice za2 us.length zc2] 46)).cell? ⟨w.heap.size + 1 + 1, 1, none⟩ = some (.slice za2 us.length zc2) := by simp [go_sem]
  have HX := Lib.hid (And.intro (And.intro hc0 hc1) (And.intro (And.intro hd0 hd1) (And.intro (And.intro he0 he1) hW)))
  clear hc0 hc1 hd0 hd1 he0 he1 hW
  cases ha : asnB a
  · have HV := Lib.hid ha
    have HR := Lib.hid (show checkC a b (cl, us) = false by rw [checkC, ha]; rfl)
    clear ha
    go_enter Try.func32, Try.ntmps32
    go_wp2_with fail
    generalize ((w.alloc (.cells #[.slice xa1 a.1.length xc1, .slice xa2 a.2.length xc2] 33)).alloc (.cells #[.slice ya1 b.1.length yc1, .slice ya2 b.2.length yc2] 33)).alloc (.cells #[.slice za1 cl.length zc1, .slice za2 us.length zc2] 46) = w0 at HX ⊢
    have hc0 := HX.out.1.1
    have hc1 := HX.out.1.2
    have hd0 := HX.out.2.1.1
    have hd1 := HX.out.2.1.2
    have he0 := HX.out.2.2.1.1
    have he1 := HX.out.2.2.1.2
    have hW := HX.out.2.2.2
    refine (cb (asnValidI_any _ _ a _ (h1.keep hW) (h2.keep hW)) HV.out).mono ?_
    rintro e w1 ⟨rfl, hb⟩
    go_wp2
    go_ret
    exact ⟨by rw [HR.out]; rfl, bt hW hb⟩
  cases hb0 : asnB b
  · have HV := Lib.hid (And.intro ha hb0)
    have HR := Lib.hid (show checkC a b (cl, us) = false by rw [checkC, ha, hb0]; rfl)
    clear ha hb0
    go_enter Try.func32, Try.ntmps32
    go_wp2_with fail
    generalize ((w.alloc (.cells #[.slice xa1 a.1.length xc1, .slice xa2 a.2.length xc2] 33)).alloc (.cells #[.slice ya1 b.1.length yc1, .slice ya2 b.2.length yc2] 33)).alloc (.cells #[.slice za1 cl.length zc1, .slice za2 us.length zc2] 46) = w0 at HX ⊢
    have hc0 := HX.out.1.1
    have hc1 := HX.out.1.2
    have hd0 := HX.out.2.1.1
    have hd1 := HX.out.2.1.2
    have he0 := HX.out.2.2.1.1
    have he1 := HX.out.2.2.1.2
    have hW := HX.out.2.2.2
    refine (cb (asnValidI_any _ _ a _ (h1.keep hW) (h2.keep hW)) HV.out.1).mono ?_
    rintro e w1 ⟨rfl, hb⟩
    replace hc0 := cell_keep hb hc0; replace hc1 := cell_keep hb hc1; replace hd0 := cell_keep hb hd0; replace hd1 := cell_keep hb hd1; replace he0 := cell_keep hb he0; replace he1 := cell_keep hb he1; replace hW := bt hW hb; clear hb
    go_wp2_with fail
    refine (cb (asnValidI_any _ _ b _ (k1.keep hW) (k2.keep hW)) HV.out.2).mono ?_
    rintro e w1 ⟨rfl, hb⟩
    go_wp2
    go_ret
    exact ⟨by rw [HR.out]; rfl, bt hW hb⟩
  have hfa : ((a.1.all factB = true ∧ a.2.all atomB = true) ∧ a.2.length ≤ 6) ∧ ((b.1.all factB = true ∧ b.2.all atomB = true) ∧ b.2.length ≤ 6) := by
    have ha' := ha
    have hb' := hb0
    simp only [asnB, factsB, Bool.and_eq_true, decide_eq_true_eq] at ha' hb'
    exact ⟨⟨⟨ha'.1.2, ha'.2.2⟩, ha'.2.1⟩, ⟨⟨hb'.1.2, hb'.2.2⟩, hb'.2.1⟩⟩
  have HFA := Lib.hid hfa
  obtain ⟨rb, hrb⟩ : ∃ r, readC (termsM b) a cl = r := ⟨_, rfl⟩
  obtain ⟨fb, hfb⟩ : ∃ r, b.1.all (factC cl) = r := ⟨_, rfl⟩
  obtain ⟨left, hleft⟩ : ∃ l, filledL cl a.2 = l := ⟨_, rfl⟩
  obtain ⟨right, hright⟩ : ∃ l, filledL cl b.2 = l := ⟨_, rfl⟩
  have hchk : checkC a b (cl, us) = (rb && (fb && (decide (us.length = right.length) && fullO left.length (checkO left right us 0)))) := by
    rw [checkC, ha, hb0, hrb, hfb, hleft, hright]; rfl
  have hn6 : left.length ≤ 6 := by rw [← hleft]; exact Nat.le_trans (filledL_len _ _) hfa.1.2
  have HCHK := Lib.hid hchk
  have HV := Lib.hid (And.intro ha hb0)
  have HRB := Lib.hid hrb
  have HFB := Lib.hid hfb
  have HLE := Lib.hid (And.intro hleft hright)
  have htm := termsM_lt b
  clear ha hb0 hfa hrb hfb hleft hright hchk
  go_enter Try.func32, Try.ntmps32
  go_wp2_with fail
  generalize ((w.alloc (.cells #[.slice xa1 a.1.length xc1, .slice xa2 a.2.length xc2] 33)).alloc (.cells #[.slice ya1 b.1.length yc1, .slice ya2 b.2.length yc2] 33)).alloc (.cells #[.slice za1 cl.length zc1, .slice za2 us.length zc2] 46) = w0 at HX ⊢
  have hc0 := HX.out.1.1
  have hc1 := HX.out.1.2
  have hd0 := HX.out.2.1.1
  have hd1 := HX.out.2.1.2
  have he0 := HX.out.2.2.1.1
  have he1 := HX.out.2.2.1.2
  have hW := HX.out.2.2.2
  refine (cb (asnValidI_any _ _ a _ (h1.keep hW) (h2.keep hW)) HV.out.1).mono ?_
  rintro e w1 ⟨rfl, hb⟩
  replace hc0 := cell_keep hb hc0; replace hc1 := cell_keep hb hc1; replace hd0 := cell_keep hb hd0; replace hd1 := cell_keep hb hd1; replace he0 := cell_keep hb he0; replace he1 := cell_keep hb he1; replace hW := bt hW hb; clear hb
  go_wp2_with fail
  refine (cb (asnValidI_any _ _ b _ (k1.keep hW) (k2.keep hW)) HV.out.2).mono ?_
  rintro e w1 ⟨rfl, hb⟩
  replace hc0 := cell_keep hb hc0; replace hc1 := cell_keep hb hc1; replace hd0 := cell_keep hb hd0; replace hd1 := cell_keep hb hd1; replace he0 := cell_keep hb he0; replace he1 := cell_keep hb he1; replace hW := bt hW hb; clear hb
  go_upto_region 3 with fail
  have HW1 := Lib.hid (And.intro (And.intro hc0 hc1) (And.intro (And.intro hd0 hd1) (And.intro (And.intro he0 he1) hW)))
  go_cut [7, 8] from 34 (fun pp ok wc => ∃ (g : Nat) (tl : List Int), pp = .pointer (some ⟨g, 0, none⟩) ∧ ok = .bool rb ∧ RArr wc g tl ∧ (rb = true → tl = cl) ∧ (wc.cell? ⟨w.heap.size, 1, none⟩ = some (.slice xa2 a.2.length xc2)) ∧ (wc.cell? ⟨w.heap.size + 1, 0, none⟩ = some (.slice ya1 b.1.length yc1) ∧ wc.cell? ⟨w.heap.size + 1, 1, none⟩ = some (.slice ya2 b.2.length yc2)) ∧ (wc.cell? ⟨w.heap.size + 1 + 1, 1, none⟩ = some (.slice za2 us.length zc2)) ∧ Below w.heap.size w wc)
  case first =>
    have l0 : w.heap.size < w1.heap.size := World.block_lt_of_cell? w1 _ hc0
    have l1 : w.heap.size + 1 < w1.heap.size := World.block_lt_of_cell? w1 _ hd0
    have l2 : w.heap.size + 1 + 1 < w1.heap.size := World.block_lt_of_cell? w1 _ he0
    have m0 : ¬ w.heap.size = w1.heap.size := Nat.ne_of_lt l0
    have m1 : ¬ w.heap.size + 1 = w1.heap.size := Nat.ne_of_lt l1
    have m2 : ¬ w.heap.size + 1 + 1 = w1.heap.size := Nat.ne_of_lt l2
    have hu9 := Try.underlying116
    go_region_held3 (fun w' => (w'.cell? ⟨w.heap.size, 0, none⟩ = some (.slice xa1 a.1.length xc1) ∧ w'.cell? ⟨w.heap.size, 1, none⟩ = some (.slice xa2 a.2.length xc2)) ∧ (w'.cell? ⟨w.heap.size + 1, 0, none⟩ = some (.slice ya1 b.1.length yc1) ∧ w'.cell? ⟨w.heap.size + 1, 1, none⟩ = some (.slice ya2 b.2.length yc2)) ∧ (w'.cell? ⟨w.heap.size + 1 + 1, 0, none⟩ = some (.slice za1 cl.length zc1) ∧ w'.cell? ⟨w.heap.size + 1 + 1, 1, none⟩ = some (.slice za2 us.length zc2)))
      (first | exact ⟨⟨cell_setCells (Nat.ne_of_lt (by show w.heap.size < _; omega)) (cell_keep Bl f0), cell_setCells (Nat.ne_of_lt (by show w.heap.size < _; omega)) (cell_keep Bl f1)⟩, ⟨cell_setCells (Nat.ne_of_lt (by show w.heap.size + 1 < _; omega)) (cell_keep Bl f2), cell_setCells (Nat.ne_of_lt (by show w.heap.size + 1 < _; omega)) (cell_keep Bl f3)⟩, ⟨cell_setCells (Nat.ne_of_lt (by show w.heap.size + 1 + 1 < _; omega)) (cell_keep Bl f4), cell_setCells (Nat.ne_of_lt (by show w.heap.size + 1 + 1 < _; omega)) (cell_keep Bl f5)⟩⟩ | exact ⟨⟨cell_keep Bl hc0, cell_keep Bl hc1⟩, ⟨cell_keep Bl hd0, cell_keep Bl hd1⟩, ⟨cell_keep Bl he0, cell_keep Bl he1⟩⟩)
      (first
        | (go_at_call 92; (with_reducible refine (termsIn_any _ _ b _ (k1.keep (bt hW Bl)) (k2.keep (bt hW Bl))).mono ?_); rintro e w2 ⟨rfl, hb2'⟩; have hb2 : Below w1.heap.size w1 w2 := bt Bl hb2'; have hsz2 := hb2.size; (try have hz2 := zero9 (new9 _ _) hb2'); (try have hz2 := zero9 (new9' _ _) hb2'); (try have hz2 := zero9 (heap_alloc_new _ _) hb2'))
        | (go_at_call 104; (with_reducible refine (readCase9_any _ _ _ a _ cl rb _ (h1.keep (bt hW Bl)) (h2.keep (bt hW Bl)) (j1.ints.keep (bt hW Bl)) HV.out.1 htm HRB.out).mono ?_); rintro e w3 ⟨x0, x1, x2, x3, x4, x5, x6, x7, x8, hx, rfl, hb3'⟩; have hb3 : Below w1.heap.size w1 w3 := bt (bt hb2 Bl) hb3'; have hsz3 := hb3.size; (try have ht3 := there9 (And.intro (fun i (hi : i < 9) => cell_keep hb3' (hz2.1 i hi)) (fun i => (hb3'.frozen (p := ⟨w1.heap.size, i, none⟩) (World.block_lt_of_cell? w2 ⟨w1.heap.size, 0, none⟩ (hz2.1 0 (by decide)))).trans (hz2.2 i)))); (try have ht3 := there9 (zero9 (new9 _ _) hb3')); (try have ht3 := there9 (zero9 (new9' _ _) hb3')); (try have ht3 := there9 (zero9 (heap_alloc_new _ _) hb3')); have htc := there9n w3; have hs9 := size9 x0 x1 x2 x3 x4 x5 x6 x7 x8; have h19 := one9 x0 x1 x2 x3 x4 x5 x6 x7 x8; have hn9 : ([.int .i64 x0, .int .i64 x1, .int .i64 x2, .int .i64 x3, .int .i64 x4, .int .i64 x5, .int .i64 x6, .int .i64 x7, .int .i64 x8] : List Value).length = 9 := rfl; have f0 := cell_keep hb3 HW1.out.1.1; have f1 := cell_keep hb3 HW1.out.1.2; have f2 := cell_keep hb3 HW1.out.2.1.1; have f3 := cell_keep hb3 HW1.out.2.1.2; have f4 := cell_keep hb3 HW1.out.2.2.1.1; have f5 := cell_keep hb3 HW1.out.2.2.1.2))
    all_goals
      have HZ := Lib.hid (And.intro hx (And.intro hb3 (And.intro f1 (And.intro (And.intro f2 f3) f5))))
      go_wp2
      go_meet
      case rel =>
        refine ⟨_, [x0, x1, x2, x3, x4, x5, x6, x7, x8], rfl, rfl, ?_, HZ.out.1, ?_, ⟨?_, ?_⟩, ?_, ?_⟩
        · exact arr_of_range (World.rangeAt_setCells_same _ _ 0 [.int .i64 x0, .int .i64 x1, .int .i64 x2, .int .i64 x3, .int .i64 x4, .int .i64 x5, .int .i64 x6, .int .i64 x7, .int .i64 x8] (by first | exact htc | exact ht3))
        · exact cell_setCells (Nat.ne_of_lt (by show w.heap.size < _; omega)) (cell_keep (w := w3) Bl f1)
        · exact cell_setCells (Nat.ne_of_lt (by show w.heap.size + 1 < _; omega)) (cell_keep (w := w3) Bl f2)
        · exact cell_setCells (Nat.ne_of_lt (by show w.heap.size + 1 < _; omega)) (cell_keep (w := w3) Bl f3)
        · exact cell_setCells (Nat.ne_of_lt (by show w.heap.size + 1 + 1 < _; omega)) (cell_keep (w := w3) Bl f5)
        · exact below_setCells (B := w.heap.size) (by omega) _ _ _ (bt HW1.out.2.2.2 (bt HZ.out.2.1 Bl))
  case rest =>
    obtain ⟨g, tl, rfl, rfl, hA, htl, hc1, ⟨hd0, hd1⟩, he1, hW⟩ := hcut
    cases rb with
    | false =>
      go_wp2
      go_ret
      exact ⟨by rw [HCHK.out]; rfl, hW⟩
    | true =>
      obtain rfl : tl = cl := htl rfl
      go_wp2_with fail
      refine (cb (factsHoldC_any g tl _ b.1 _ hA (k1.keep hW) HFA.out.2.1.1) HFB.out).mono ?_
      rintro e w4 ⟨rfl, hb⟩
      replace hA := hA.keep hb
      replace hc1 := cell_keep hb hc1; replace hd0 := cell_keep hb hd0; replace hd1 := cell_keep hb hd1; replace he1 := cell_keep hb he1; replace hW := bt hW hb; clear hb
      cases fb with
      | false =>
        go_wp2
        go_ret
        exact ⟨by rw [HCHK.out]; rfl, hW⟩
      | true =>
        go_wp2
        go_region_held3 (fun w' => w'.cell? ⟨w.heap.size, 1, none⟩ = some (.slice xa2 a.2.length xc2) ∧ w'.cell? ⟨w.heap.size + 1, 1, none⟩ = some (.slice ya2 b.2.length yc2))
          (exact ⟨cell_keep Bl hc1, cell_keep Bl hd1⟩)
          (first
            | (go_at_call 110; (with_reducible refine (filledC_any g tl (.slice xa2 a.2.length xc2) a.2 _ (hA.keep Bl) (h2.keep (bt hW Bl)) HFA.out.1.1.2 (by have := HFA.out.1.2; omega)).mono ?_); rintro e w5 ⟨vL, rfl, hL, hb5'⟩; rw [HLE.out.1] at hL; have hLr := hL.rl; obtain ⟨la, lc, rfl⟩ := hLr.form; have hb5 : Below w4.heap.size w4 w5 := bt Bl hb5')
            | (go_at_call 110; (with_reducible refine (filledC_any g tl (.slice ya2 b.2.length yc2) b.2 _ (hA.keep Bl) (k2.keep (bt hW Bl)) HFA.out.2.1.2 (by have := HFA.out.2.2; omega)).mono ?_); rintro e w6 ⟨vR, rfl, hR, hb6'⟩; rw [HLE.out.2] at hR; have hRr := hR.rl; obtain ⟨ra, rc, rfl⟩ := hRr.form; have hb6 : Below w4.heap.size w4 w6 := bt (bt hb5 Bl) hb6'; have hLr6 := hLr.keep (bt (by exact Below.refl _ _ : Below w5.heap.size w5 w5) hb6')))
        all_goals
          have hLR := Lib.hid (And.intro hLr6.any hRr.any)
          have hrm := hRr.len
          have hlm := hLr.len
          unfold maxLen at hrm hlm
          replace he1 := cell_keep hb6 he1
          replace hW := bt hW hb6
          clear hb5 hb5' hb6 hb6' hL hR hLr hRr hLr6 hA hc1 hd0 hd1
          by_cases hll : us.length = right.length
          rotate_left
          · have hnl : ((us.length : Int) != (right.length : Int)) = true := by simp; omega
            have HF := Lib.hid (show decide (us.length = right.length) = false by simpa using hll)
            clear hll
            go_wp2
            go_ret
            exact ⟨by rw [HCHK.out, HF.out]; rfl, hW⟩
          have hnl : ((us.length : Int) != (right.length : Int)) = false := by simp; omega
          have HF := Lib.hid (show checkC a b (tl, us) = fullO left.length (checkO left right us 0) by rw [HCHK.out, hll]; simp)
          have HLL := Lib.hid hll
          clear hll
          have hgU := heap_alloc_new w6 (.cells #[.bool false, .bool false, .bool false, .bool false, .bool false, .bool false] 134)
          have HGU := Lib.hid hgU
          clear hgU
          have hl2 : w.heap.size + 1 + 1 < w6.heap.size := World.block_lt_of_cell? w6 _ he1
          have hm2 : ¬ w.heap.size + 1 + 1 = w6.heap.size := Nat.ne_of_lt hl2
          have hb7 : Below w6.heap.size w6 (w6.alloc (.cells #[.bool false, .bool false, .bool false, .bool false, .bool false, .bool false] 134)) := below_alloc _ _
          have HB7 := Lib.hid hb7
          obtain ⟨ua', uc', hua, _, _, huf⟩ := (j2.keep hW).listAt
          simp only [Value.slice.injEq] at hua
          obtain ⟨rfl, _, rfl⟩ := hua
          have HUF := Lib.hid huf
          clear huf
          clear hb7
          go_wp2
          go_loopg [12, 57] us.length (fun q x i wr => ∃ (k m : Nat), k + q = us.length ∧ i = .int .i64 k ∧ x = .int .i64 (cntM left.length m) ∧ checkO left right us 0 = checkO left (right.drop k) (us.drop k) m ∧ wr.heap[w6.heap.size]? = some (.cells (boolsN 6 m).toArray 134 (0, 0)) ∧ Below w6.heap.size w6 wr)
          case atStart => exact ⟨0, 0, by omega, rfl, by rw [cntM_zero]; rfl, rfl, HGU.out, HB7.out⟩
          case round =>
            obtain ⟨k, m, hk, rfl, rfl, hch, hrow, hb⟩ := hrel
            have HK := Lib.hid hk
            have HCH := Lib.hid hch
            have HROW := Lib.hid hrow
            have hgw := box_lt hrow
            have hbw := bt hW hb
            clear hk hch hrow
            by_cases hk8 : k < us.length
            · have hki : (k : Int) < (us.length : Int) := by omega
              have hkr : k < right.length := by rw [← HLL.out]; exact hk8
              have hki' : (k : Int) < (right.length : Int) := by omega
              obtain ⟨b2, o2, lv, rfl, hs2, hzu, hq, hlv⟩ := HUF.out k hk8
              replace hq := cell_keep hb hq
              have hzu : b2 < wr.heap.size := World.block_lt_of_cell? wr _ hq
              obtain ⟨lva, lvc, rfl⟩ := hlv.form
              have hlm2 := hlv.len
              unfold maxLen at hlm2
              have HLV := Lib.hid hlv
              obtain ⟨u, hu⟩ : ∃ u, gd us k = u := ⟨_, rfl⟩
              rw [hu] at HLV hlm2 hq
              have HU := Lib.hid hu
              obtain ⟨gO, hgO⟩ : ∃ x, x = gk := ⟨_, rfl⟩
              have HGO := Lib.hid hgO
              obtain ⟨wo, rfl⟩ : ∃ wo : World, wo = wr := ⟨_, rfl⟩
              clear hlv hs2 hu hgO
              go_wp2
              go_loopg [12, 64] u.length (fun q x i wr => ∃ (j n : Nat), j + q = u.length ∧ i = .int .i64 j ∧ x = .int .i64 (cntM left.length n) ∧ markM left.length u m = markM left.length (u.drop j) n ∧ (∀ z ∈ u.take j, 0 ≤ z ∧ z < left.length) ∧ wr.heap[w6.heap.size]? = some (.cells (boolsN 6 n).toArray 134 (0, 0)) ∧ Below w6.heap.size w6 wr)
              case atStart => exact ⟨0, m, by omega, rfl, rfl, rfl, by simp, HROW.out, hb⟩
              case round =>
                clear hb hbw hq hgw
                obtain ⟨j, n, hj, rfl, rfl, hmk, hin, hrow, hb⟩ := hrel
                have HJ := Lib.hid hj
                have HMK := Lib.hid hmk
                have HIN := Lib.hid hin
                have HROW := Lib.hid hrow
                have hgw := box_lt hrow
                have hbw := bt hW hb
                have hbo : RInts wr (.slice lva u.length lvc) u := (HLV.out.keep hb).ints
                clear hj hmk hin hrow
                by_cases hj8 : j < u.length
                · have hji : (j : Int) < (u.length : Int) := by omega
                  obtain ⟨vb, vo, vcap, hfe, _, _, hcell⟩ := hbo.ne (by omega)
                  simp only [Value.slice.injEq] at hfe
                  obtain ⟨rfl, hh, rfl⟩ := hfe
                  clear hh
                  have hck := hcell j hj8
                  have hzv : vb < wr.heap.size := World.block_lt_of_cell? wr _ hck
                  obtain ⟨I, hI⟩ : ∃ x, gi u j = x := ⟨_, rfl⟩
                  have hst := drop_gi hj8
                  rw [hI] at hck hst
                  rw [hst, markM] at HMK
                  clear hcell
                  by_cases hI0 : I < 0
                  · have HF0 := Lib.hid (show fullO left.length (checkO left right us 0) = false by rw [HCH.out, checkO_stop (by omega) hk8 (by rw [HU.out, stepO, HMK.out, if_pos (Or.inl hI0)])]; rfl)
                    go_wp2
                    go_ret
                    exact ⟨by rw [HF.out, HF0.out]; rfl, hbw⟩
                  by_cases hI1 : (left.length : Int) ≤ I
                  · have HF0 := Lib.hid (show fullO left.length (checkO left right us 0) = false by rw [HCH.out, checkO_stop (by omega) hk8 (by rw [HU.out, stepO, HMK.out, if_pos (Or.inr hI1)])]; rfl)
                    go_wp2
                    go_ret
                    exact ⟨by rw [HF.out, HF0.out]; rfl, hbw⟩
                  obtain ⟨c, rfl⟩ := Int.eq_ofNat_of_zero_le (show 0 ≤ I by omega)
                  have hcl : c < left.length := by omega
                  have hc6 : (c : Int) < 6 := by omega
                  have hmk := HMK.out
                  rw [if_neg (by omega), Int.toNat_natCast] at hmk
                  have hbc : wr.cell? ⟨w6.heap.size, c, none⟩ = some (.bool (n.testBit c)) := by
                    rw [cell_of_row wr _ c _ _ _ HROW.out]
                    have := bools_at (n := 6) (m := n) (k := c) (by omega)
                    simpa using this
                  have hfz := frozen_of_row wr w6.heap.size c _ _ HROW.out
                  obtain ⟨qb, hqb⟩ : ∃ q, n.testBit c = q := ⟨_, rfl⟩
                  rw [hqb] at hbc hmk
                  cases qb with
                  | true =>
                    have HF0 := Lib.hid (show fullO left.length (checkO left right us 0) = false by rw [HCH.out, checkO_stop (by omega) hk8 (by rw [HU.out, stepO, hmk]; rfl)]; rfl)
                    clear hmk hqb
                    go_wp2
                    go_ret
                    exact ⟨by rw [HF.out, HF0.out]; rfl, hbw⟩
                  | false =>
                    rw [if_neg (by decide)] at hmk
                    have HMK2 := Lib.hid hmk
                    have hcs := cntM_set hcl hqb
                    have hcle := cntM_le left.length n
                    have hwr : IntKind.i64.wrap ((cntM left.length n : Int) + 1) = (cntM left.length n : Int) + 1 := IntWalk.i64_in _ (by omega)
                    have HCS := Lib.hid hcs
                    have hrow2 : (wr.setCell ⟨w6.heap.size, c, none⟩ (.bool true)).heap[w6.heap.size]? = some (.cells (boolsN 6 (n ||| 2 ^ c)).toArray 134 (0, 0)) := by
                      rw [heap_setCell_same wr w6.heap.size c _ _ _ HROW.out, ← bools_set (n := 6) (m := n) (k := c) (by omega)]
                      simp
                    have HR2 := Lib.hid hrow2
                    have HIN2 := Lib.hid (show ∀ z ∈ u.take (j + 1), 0 ≤ z ∧ z < (left.length : Int) by
                      intro z hz
                      rw [List.take_succ_eq_append_getElem hj8, List.mem_append, List.mem_singleton] at hz
                      rcases hz with hz | rfl
                      · exact HIN.out z hz
                      · rw [← gi_of hj8, hI]; omega)
                    clear hmk hqb hcs hrow2
                    go_wp2
                    go_roundg (gk - 1)
                    case rel => exact ⟨j + 1, n ||| 2 ^ c, by have := HJ.out; omega, by go_num, by rw [HCS.out]; go_num, HMK2.out, HIN2.out, HR2.out, hb.setCell (by simp) _⟩
                    case measure => have := HJ.out; omega
                · obtain rfl : j = u.length := by have := HJ.out; omega
                  have hmk := HMK.out
                  rw [List.drop_length, markM] at hmk
                  have hin := HIN.out
                  rw [List.take_length] at hin
                  have hL2 := hLR.out.1.keep hb
                  have hR2 := hLR.out.2.keep hb
                  obtain ⟨ra', rc', hra, _, _, hrf⟩ := hR2.atomAt
                  simp only [Value.slice.injEq] at hra
                  obtain ⟨rfl, _, rfl⟩ := hra
                  obtain ⟨b1, o1, rfl, _, hzc, hp1, hp2, hp3⟩ := hrf k (by omega)
                  obtain ⟨ab, hab⟩ : ∃ x, allowB left (gd right k) u = x := ⟨_, rfl⟩
                  have HAB := Lib.hid hab
                  have hso : stepO left (gd right k) m (gd us k) = if ab = true then some n else none := by rw [HU.out, stepO, hmk, hab]
                  have HSO := Lib.hid hso
                  have HHI := Lib.hid hin
                  have HL2 := Lib.hid hL2
                  clear hmk hin hrf hab hso hR2 hL2
                  cases ab with
                  | false =>
                    have HF0 := Lib.hid (show fullO left.length (checkO left right us 0) = false by rw [HCH.out, checkO_stop (by omega) hk8 HSO.out]; rfl)
                    go_wp2_with fail
                    refine (cb (useAllowed_any _ _ left (gd right k) u _ HL2.out hbo HHI.out) HAB.out).mono ?_
                    rintro e w9 ⟨rfl, hb9⟩
                    go_wp2
                    go_ret
                    exact ⟨by rw [HF.out, HF0.out]; rfl, bt hbw hb9⟩
                  | true =>
                    have HN := Lib.hid (show checkO left right us 0 = checkO left (right.drop (k + 1)) (us.drop (k + 1)) n by rw [HCH.out, checkO_next (by omega) hk8 HSO.out])
                    go_wp2_with fail
                    refine (cb (useAllowed_any _ _ left (gd right k) u _ HL2.out hbo HHI.out) HAB.out).mono ?_
                    rintro e w9 ⟨rfl, hb9⟩
                    go_wp2
                    go_roundg (gO - 1)
                    case rel => exact ⟨k + 1, n, by have := HK.out; have := HGO.out; omega, by go_num, rfl, HN.out, box_keep HROW.out hb9, bt hb hb9⟩
                    case measure => have := HK.out; have := HGO.out; omega
            · obtain rfl : k = us.length := by have := HK.out; omega
              have hE := HCH.out
              rw [HLL.out, checkO_end] at hE
              have hca := cntM_all left.length m
              have HE := Lib.hid (show checkC a b (tl, us) = ((cntM left.length m : Int) == (left.length : Int)) by
                rw [HF.out, hE]
                show ((List.range left.length).all fun k => m.testBit k) = _
                rw [← hca, Bool.eq_iff_iff, beq_iff_eq, beq_iff_eq]; omega)
              clear hE hca
              go_wp2
              go_ret
              exact ⟨by rw [HE.out]; rfl, hbw⟩
end Go.Proofs.Ytapoillhgimdiaa
