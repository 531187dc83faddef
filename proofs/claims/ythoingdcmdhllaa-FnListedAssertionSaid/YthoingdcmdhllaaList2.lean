/- Walks: cells made segments where this is entailed. -/
import Derived.Test.YthoingdcmdhllaaList1
import Derived.Test.YthoingdcmdhllaaEnt1
import Derived.Test.YthoingdcmdhllaaData2
namespace Go.Proofs.Ythoingdcmdhllaa
open Go.RowKit

theorem cells3 (W : World) (n : Nat) (hn : n = W.heap.size) (x y z : Value) (T : TypeId) : (W.alloc (.cells #[x, y, z] T)).cell? ⟨n, 0, none⟩ = some x ∧ (W.alloc (.cells #[x, y, z] T)).cell? ⟨n, 1, none⟩ = some y ∧ (W.alloc (.cells #[x, y, z] T)).cell? ⟨n, 2, none⟩ = some z := by
  subst hn; simp
/-- The atom k is made a segment. -/
def kindL (l : List Atom) (k : Nat) : List Atom := l.set k (2, (gd l k).2)
/-- The atoms after k of them have been tried. -/
def listK (a : Asn) : Nat → List Atom
  | 0 => a.2
  | k + 1 => if entB a (a.1, kindL (listK a k) k) = true then kindL (listK a k) k else listK a k
def listA (a : Asn) : Asn := if asnB a = true then (a.1, listK a a.2.length) else ([], [])
theorem kindL_len (l : List Atom) (k : Nat) : (kindL l k).length = l.length := List.length_set
theorem listK_len (a : Asn) : ∀ k, (listK a k).length = a.2.length
  | 0 => rfl
  | k + 1 => by
    rw [listK]; split
    · rw [kindL_len]; exact listK_len a k
    · exact listK_len a k
theorem kindL_back {l : List Atom} {k : Nat} (hk : k < l.length) : (kindL l k).set k ((gd l k).1, (gd l k).2.1, (gd l k).2.2) = l := by
  rw [kindL, List.set_set, gd_of hk]
  exact List.set_getElem_self hk
theorem listA_size {a : Asn} (h : Mk.size a ≤ 1048576) : Mk.size (listA a) ≤ 1048576 := by
  rw [listA]; split
  · rename_i ha
    have := asn_sz ha
    have hf := (asn_all' ha)
    have h1 : Mk.size a = Mk.size a.1 + Mk.size a.2 := rfl
    have h2 : Mk.size (a.1, listK a a.2.length) = Mk.size a.1 + Mk.size (listK a a.2.length) := rfl
    have h3 : ∀ l : List Atom, Mk.size l = l.length := fun l => rfl
    rw [h2, h3, listK_len, ← h3 a.2, ← h1]; exact h
  · exact Nat.zero_le _
set_option maxRecDepth 100000 in
set_option maxHeartbeats 6400000 in
theorem listedI_any {S1 S2 : Nat → Prop} (v1 v2 : Value) (a : Asn) (w : World) (h1 : RL w S1 v1 a.1) (h2 : RL w S2 v2 a.2) :
    Calls Try.prog 38 #[.agg #[v1, v2]] w fun e w' => ∃ x1 x2, e = .returned (.tuple #[.agg #[x1, x2], .bool (asnB a)]) ∧ OA w' w.heap.size x1 x2 (listA a) ∧ Below w.heap.size w w' := by
  obtain ⟨p1, c1, rfl⟩ := h1.form
  obtain ⟨p2, c2, rfl⟩ := h2.form
  obtain ⟨w0, hw0⟩ : ∃ w0, w0 = ((w.alloc (.cells #[.slice p1 a.1.length c1, .slice p2 a.2.length c2] 34)).alloc (.cells #[.slice none 0 0, .slice none 0 0] 34)) := ⟨_, rfl⟩
  have hc0 : w0.cell? ⟨w.heap.size, 0, none⟩ = some (.slice p1 a.1.length c1) := by rw [hw0]; simp [go_sem]
  have hc1 : w0.cell? ⟨w.heap.size, 1, none⟩ = some (.slice p2 a.2.length c2) := by rw [hw0]; simp [go_sem]
  have hA : w0.heap[w.heap.size + 1]? = some (.cells #[.slice none 0 0, .slice none 0 0] 34 (0, 0)) := by
    rw [hw0]
    have := heap_alloc_new (w.alloc (.cells #[.slice p1 a.1.length c1, .slice p2 a.2.length c2] 34)) (.cells #[.slice none 0 0, .slice none 0 0] 34)
    simpa using this
  have hz : w0.heap.size = w.heap.size + 2 := by rw [hw0]; simp
  have hW : Below w.heap.size w w0 := by rw [hw0]; exact ba (below_alloc _ _) _
  have q1 := h1.keep hW
  have q2 := h2.keep hW
  have HZ := Lib.hid (And.intro hz hw0)
  clear hz hw0
  obtain ⟨av, hav⟩ : ∃ x, asnB a = x := ⟨_, rfl⟩
  have HAV := Lib.hid hav
  clear hav
  go_enter Try.func38, Try.ntmps38
  go_wp2_with fail
  rw [← HZ.out.2]
  refine (cb (asnValidI_any _ _ a _ q1 q2) HAV.out).mono ?_
  rintro e w1 ⟨rfl, hb⟩
  have hlt := HZ.out.1
  have hsz1 := hb.size
  replace hc0 := cell_keep hb hc0
  replace hc1 := cell_keep hb hc1
  replace hA := box_keep hA hb
  replace q1 := q1.keep hb
  replace q2 := q2.keep hb
  replace hW := bt hW hb
  clear hb
  cases av with
  | false =>
    have hL : listA a = ([], []) := by rw [listA, HAV.out]; rfl
    have ha0 := box0 hA
    have ha1 := box1 hA
    have haz : ∀ i, w1.frozen? ⟨w.heap.size + 1, i, none⟩ = false := boxz hA
    have hl8 := box_lt hA
    have r := box_two (.slice none 0 0) (.slice none 0 0) ha0 ha1
    have hbb := (hW.setCell (p := ⟨w.heap.size + 1, 0, none⟩) (by simp) (.slice none 0 0)).setCell (p := ⟨w.heap.size + 1, 1, none⟩) (by simp) (.slice none 0 0)
    have HL := Lib.hid hL
    clear hL
    go_wp2
    refine bodyPost_ret (v := .tuple #[.agg #[.slice none 0 0, .slice none 0 0], .bool false]) (by simp [results, Try.results38, go_sem, r.1, r.2]) rfl ?_
    exact ⟨_, _, by rw [HAV.out], by rw [HL.out]; exact oa_nil _ _, hbb⟩
  | true =>
    have hsz := asn_sz HAV.out
    have HSZ := Lib.hid hsz
    have HLA := Lib.hid (show listA a = (a.1, listK a a.2.length) by rw [listA, HAV.out]; rfl)
    have hl20 : a.2.length ≤ 1048576 := HSZ.out.2
    clear hsz
    go_wp2_with fail
    refine (copyAssertion_any _ _ a _ q1 q2 HSZ.out.1 HSZ.out.2).mono ?_
    rintro e w2 ⟨x1, x2, rfl, ⟨f1, f2, o1, o2, hn⟩, hb⟩
    obtain ⟨ao, hf2⟩ := o2.AO
    obtain ⟨xa1, xc1, rfl⟩ := o1.read.form
    obtain ⟨ga, gcap, rfl, hga⟩ := ao.form
    have hgt : ∀ g, ga = some ⟨g, 0, none⟩ → w1.heap.size ≤ g ∧ g < w2.heap.size ∧ ¬ g ∈ f1 := fun g hg => by
      subst hg
      have hin : g ∈ f2 := by rw [hf2]; simp [Value.ownBlock]
      exact ⟨(o2.lt g hin).1, (o2.lt g hin).2, fun h1 => (List.nodup_append.1 hn).2.2 g h1 g hin rfl⟩
    have hl1 := hb.size
    have HN := Lib.hid (And.intro hf2 hn)
    clear hf2 hn o2
    replace hc0 := cell_keep hb hc0
    replace hc1 := cell_keep hb hc1
    replace hA := box_keep hA hb
    replace hW := bt hW hb
    clear hb q1 q2
    have t0 : (w2.alloc (.cells #[.slice xa1 a.1.length xc1, .slice ga a.2.length gcap] 34)).cell? ⟨w2.heap.size, 0, none⟩ = some (.slice xa1 a.1.length xc1) := by simp
    have t1 : (w2.alloc (.cells #[.slice xa1 a.1.length xc1, .slice ga a.2.length gcap] 34)).cell? ⟨w2.heap.size, 1, none⟩ = some (.slice ga a.2.length gcap) := by simp
    have hbA : Below w2.heap.size w2 (w2.alloc (.cells #[.slice xa1 a.1.length xc1, .slice ga a.2.length gcap] 34)) := below_alloc _ _
    have H0 := Lib.hid (And.intro (And.intro (cell_keep hbA hc0) (cell_keep hbA hc1)) (And.intro (And.intro t0 t1) (And.intro (box_keep hA hbA) (And.intro (o1.keep hbA) (And.intro (ao.keep hbA) (bt hW hbA))))))
    have HGT := Lib.hid hgt
    have HGA := Lib.hid hga
    clear t0 t1 hbA hc0 hc1 hA o1 ao hW hgt hga
    go_wp2
    go_loopg [16] a.2.length (fun q i wr => ∃ k : Nat, k + q = a.2.length ∧ i = .int .i64 k ∧ (wr.cell? ⟨w.heap.size, 0, none⟩ = some (.slice p1 a.1.length c1) ∧ wr.cell? ⟨w.heap.size, 1, none⟩ = some (.slice p2 a.2.length c2)) ∧ (wr.cell? ⟨w2.heap.size, 0, none⟩ = some (.slice xa1 a.1.length xc1) ∧ wr.cell? ⟨w2.heap.size, 1, none⟩ = some (.slice ga a.2.length gcap)) ∧ wr.heap[w.heap.size + 1]? = some (.cells #[.slice none 0 0, .slice none 0 0] 34 (0, 0)) ∧ OL wr w1.heap.size (.slice xa1 a.1.length xc1) a.1 f1 ∧ AO wr w1.heap.size (.slice ga a.2.length gcap) (listK a k) ∧ Below w.heap.size w wr)
    case atStart => exact ⟨0, by omega, rfl, H0.out⟩
    case round =>
      obtain ⟨k, hk, rfl, ⟨hc0, hc1⟩, ⟨t0, t1⟩, hA, o1, ao, hW⟩ := hrel
      have HK := Lib.hid hk
      clear hk
      by_cases hk8 : k < a.2.length
      · obtain ⟨g, rfl⟩ := HGA.out k hk8
        obtain ⟨hg1, hg2, hgf⟩ := HGT.out g rfl
        have hki : (k : Int) < (a.2.length : Int) := by omega
        have hkl : k < (listK a k).length := by rw [listK_len]; exact hk8
        obtain ⟨⟨m0, m1, m2⟩, hfz⟩ := ao.at (listK_len a k).symm hkl
        have hzg : g < wr.heap.size := World.block_lt_of_cell? wr _ m0
        have hzt : w2.heap.size < wr.heap.size := World.block_lt_of_cell? wr _ t0
        have n0 : ¬ w.heap.size = g := by omega
        have n1 : ¬ w2.heap.size = g := by omega
        have n2 : ¬ wr.heap.size = g := by omega
        have n3 : ¬ w.heap.size + 1 = g := by omega
        obtain ⟨L, hL⟩ : ∃ L, listK a k = L := ⟨_, rfl⟩
        have HL := Lib.hid hL
        rw [hL] at m0 m1 m2 ao hkl
        clear hL
        obtain ⟨t, ht⟩ : ∃ t, entB a (a.1, kindL L k) = t := ⟨_, rfl⟩
        have HT := Lib.hid ht
        clear ht
        have HLN := Lib.hid (show a.2.length = L.length by rw [← HL.out, listK_len])
        have o1' := o1.okept (fr_set wr ⟨g, k * 3, none⟩ (.int .i64 2)) fun j hj e => hgf (by have e' : j = g := e; rw [← e']; exact hj)
        have ao' := ao.set1 HLN.out hkl 2
        have hbX := below_alloc (wr.setCell ⟨g, k * 3, none⟩ (.int .i64 2)) (.cells #[.int .i64 (gd L k).1, .int .i64 (gd L k).2.1, .int .i64 (gd L k).2.2] 142)
        have x0 : ((wr.setCell ⟨g, k * 3, none⟩ (.int .i64 2)).alloc (.cells #[.int .i64 (gd L k).1, .int .i64 (gd L k).2.1, .int .i64 (gd L k).2.2] 142)).cell? ⟨wr.heap.size, 0, none⟩ = some (.int .i64 (gd L k).1) := (cells3 _ _ (World.size_setCell _ _ _).symm _ _ _ _).1
        have x1 : ((wr.setCell ⟨g, k * 3, none⟩ (.int .i64 2)).alloc (.cells #[.int .i64 (gd L k).1, .int .i64 (gd L k).2.1, .int .i64 (gd L k).2.2] 142)).cell? ⟨wr.heap.size, 1, none⟩ = some (.int .i64 (gd L k).2.1) := (cells3 _ _ (World.size_setCell _ _ _).symm _ _ _ _).2.1
        have x2 : ((wr.setCell ⟨g, k * 3, none⟩ (.int .i64 2)).alloc (.cells #[.int .i64 (gd L k).1, .int .i64 (gd L k).2.1, .int .i64 (gd L k).2.2] 142)).cell? ⟨wr.heap.size, 2, none⟩ = some (.int .i64 (gd L k).2.2) := (cells3 _ _ (World.size_setCell _ _ _).symm _ _ _ _).2.2
        have e0 := cell_keep hbX (cell_set_other (r := ⟨g, k * 3, none⟩) (u := .int .i64 2) hc0 n0)
        have e1 := cell_keep hbX (cell_set_other (r := ⟨g, k * 3, none⟩) (u := .int .i64 2) hc1 n0)
        have e2 := cell_keep hbX (cell_set_other (r := ⟨g, k * 3, none⟩) (u := .int .i64 2) t0 n1)
        have e3 := cell_keep hbX (cell_set_other (r := ⟨g, k * 3, none⟩) (u := .int .i64 2) t1 n1)
        have hA' := box_keep (box_other hA ⟨g, k * 3, none⟩ (.int .i64 2) n3) hbX
        replace o1' := o1'.keep hbX
        replace ao' := ao'.keep hbX
        have hW' := bt (hW.setCell (p := ⟨g, k * 3, none⟩) (by simp only; omega) (.int .i64 2)) hbX
        have HF := Lib.hid (And.intro (And.intro x0 (And.intro x1 x2)) (And.intro (And.intro e0 e1) (And.intro (And.intro e2 e3) (And.intro hA' (And.intro o1' (And.intro ao' hW'))))))
        clear x0 x1 x2 hA' o1' ao' hW' hbX o1 ao hA hW
        go_wp2_with fail
        generalize (wr.setCell ⟨g, k * 3, none⟩ (.int .i64 2)).alloc (.cells #[.int .i64 (gd L k).1, .int .i64 (gd L k).2.1, .int .i64 (gd L k).2.2] 142) = W1 at HF e0 e1 e2 e3 ⊢
        clear e0 e1 e2 e3
        obtain ⟨⟨x0, x1, x2⟩, ⟨e0, e1⟩, ⟨e2, e3⟩, hA, o1, ao, hW⟩ := HF.out
        refine (cb (entailsI_any _ _ _ _ a (a.1, kindL L k) _ (h1.keep hW) (h2.keep hW) o1.read ao.rl) HT.out).mono ?_
        rintro e w5 ⟨rfl, hb⟩
        replace x0 := cell_keep hb x0; replace x1 := cell_keep hb x1; replace x2 := cell_keep hb x2
        replace e0 := cell_keep hb e0; replace e1 := cell_keep hb e1; replace e2 := cell_keep hb e2; replace e3 := cell_keep hb e3
        replace hA := box_keep hA hb
        replace o1 := o1.keep hb
        replace ao := ao.keep hb
        replace hW := bt hW hb
        clear hb hc0 hc1 t0 t1 m0 m1 m2 HF
        cases t with
        | true =>
          have HR := Lib.hid (And.intro hA (And.intro o1 (And.intro ao hW)))
          clear hA o1 ao hW
          go_wp2
          go_roundg (gk - 1)
          case rel => exact ⟨k + 1, by have := HK.out; omega, by go_num, ⟨e0, e1⟩, ⟨e2, e3⟩, HR.out.1, HR.out.2.1, by rw [listK, HL.out, if_pos HT.out]; exact HR.out.2.2.1, HR.out.2.2.2⟩
          case measure => have := HK.out; omega
        | false =>
          have ao : AO w5 _ _ (kindL L k) := ao
          obtain ⟨⟨m0, m1, m2⟩, hfz5⟩ := ao.at (by rw [kindL_len]; exact HLN.out) (k := k) (by rw [kindL_len]; exact hkl)
          have ao2 := ao.set3 (by rw [kindL_len]; exact HLN.out) (k := k) (by rw [kindL_len]; exact hkl) (gd L k).1 (gd L k).2.1 (gd L k).2.2
          rw [kindL_back hkl] at ao2
          have hnf : ∀ (j : Nat), j ∈ f1 → ¬ j = g := fun j hj e => hgf (by rw [← e]; exact hj)
          have o2 := ((o1.okept (fr_set _ ⟨g, k * 3, none⟩ (.int .i64 (gd L k).1)) hnf).okept (fr_set _ ⟨g, k * 3 + 1, none⟩ (.int .i64 (gd L k).2.1)) hnf).okept (fr_set _ ⟨g, k * 3 + 2, none⟩ (.int .i64 (gd L k).2.2)) hnf
          have hA2 := box_other (box_other (box_other hA ⟨g, k * 3, none⟩ (.int .i64 (gd L k).1) n3) ⟨g, k * 3 + 1, none⟩ (.int .i64 (gd L k).2.1) n3) ⟨g, k * 3 + 2, none⟩ (.int .i64 (gd L k).2.2) n3
          have hW2 := ((hW.setCell (p := ⟨g, k * 3, none⟩) (by simp only; omega) (.int .i64 (gd L k).1)).setCell (p := ⟨g, k * 3 + 1, none⟩) (by simp only; omega) (.int .i64 (gd L k).2.1)).setCell (p := ⟨g, k * 3 + 2, none⟩) (by simp only; omega) (.int .i64 (gd L k).2.2)
          have y0 := cell_set_other (r := ⟨g, k * 3 + 2, none⟩) (u := .int .i64 (gd L k).2.2) (cell_set_other (r := ⟨g, k * 3 + 1, none⟩) (u := .int .i64 (gd L k).2.1) (cell_set_other (r := ⟨g, k * 3, none⟩) (u := .int .i64 (gd L k).1) e0 n0) n0) n0
          have y1 := cell_set_other (r := ⟨g, k * 3 + 2, none⟩) (u := .int .i64 (gd L k).2.2) (cell_set_other (r := ⟨g, k * 3 + 1, none⟩) (u := .int .i64 (gd L k).2.1) (cell_set_other (r := ⟨g, k * 3, none⟩) (u := .int .i64 (gd L k).1) e1 n0) n0) n0
          have y2 := cell_set_other (r := ⟨g, k * 3 + 2, none⟩) (u := .int .i64 (gd L k).2.2) (cell_set_other (r := ⟨g, k * 3 + 1, none⟩) (u := .int .i64 (gd L k).2.1) (cell_set_other (r := ⟨g, k * 3, none⟩) (u := .int .i64 (gd L k).1) e2 n1) n1) n1
          have y3 := cell_set_other (r := ⟨g, k * 3 + 2, none⟩) (u := .int .i64 (gd L k).2.2) (cell_set_other (r := ⟨g, k * 3 + 1, none⟩) (u := .int .i64 (gd L k).2.1) (cell_set_other (r := ⟨g, k * 3, none⟩) (u := .int .i64 (gd L k).1) e3 n1) n1) n1
          have HR := Lib.hid (And.intro (And.intro y0 y1) (And.intro (And.intro y2 y3) (And.intro hA2 (And.intro o2 (And.intro ao2 hW2)))))
          have hz5 : g < w5.heap.size := World.block_lt_of_cell? w5 _ m0
          have hfza := hfz5 (k * 3)
          have hfzb := hfz5 (k * 3 + 1)
          have hfzc := hfz5 (k * 3 + 2)
          clear hA2 o2 ao2 hW2 y0 y1 y2 y3 hA o1 ao hW hfz5
          go_wp2
          go_roundg (gk - 1)
          case rel => exact ⟨k + 1, by have := HK.out; omega, by go_num, HR.out.1, HR.out.2.1, HR.out.2.2.1, HR.out.2.2.2.1, by rw [listK, HL.out, if_neg (by rw [HT.out]; decide)]; exact HR.out.2.2.2.2.1, HR.out.2.2.2.2.2⟩
          case measure => have := HK.out; omega
      · obtain rfl : k = a.2.length := by have := HK.out; omega
        have ha0 := box0 hA
        have ha1 := box1 hA
        have haz : ∀ i, wr.frozen? ⟨w.heap.size + 1, i, none⟩ = false := boxz hA
        have hl8 := box_lt hA
        have r := box_two (.slice xa1 a.1.length xc1) (.slice ga a.2.length gcap) ha0 ha1
        have hoa : OA wr w1.heap.size (.slice xa1 a.1.length xc1) (.slice ga a.2.length gcap) (a.1, listK a a.2.length) := ⟨f1, _, o1, ao.OL, by rw [← HN.out.1]; exact HN.out.2⟩
        have HO := Lib.hid (hoa.res (w := w) (R := w.heap.size + 1) (by omega) (by omega) hW (.slice xa1 a.1.length xc1) (.slice ga a.2.length gcap))
        clear hoa o1 ao hA hW
        go_wp2
        refine bodyPost_ret (v := .tuple #[.agg #[.slice xa1 a.1.length xc1, .slice ga a.2.length gcap], .bool true]) (by simp [results, Try.results38, go_sem, r.1, r.2]) rfl ?_
        exact ⟨_, _, by rw [HAV.out], by rw [HLA.out]; exact HO.out.1, HO.out.2⟩
set_option maxRecDepth 100000 in
set_option maxHeartbeats 6400000 in
theorem listedS_any {S1 S2 : Nat → Prop} (v1 v2 : Value) (a : Asn) (w : World) (h1 : RL w S1 v1 a.1) (h2 : RL w S2 v2 a.2) :
    Calls Try.prog 39 #[.agg #[v1, v2]] w fun e w' => ∃ x1 x2, e = .returned (.tuple #[.agg #[x1, x2], .bool (asnB a)]) ∧ (RL w' (fun k => w.heap.size ≤ k) x1 (listA a).1 ∧ RL w' (fun k => w.heap.size ≤ k) x2 (listA a).2) ∧ Below w.heap.size w w' := by
  obtain ⟨p1, c1, rfl⟩ := h1.form
  obtain ⟨p2, c2, rfl⟩ := h2.form
  obtain ⟨w0, hw0⟩ : ∃ w0, w0 = ((w.alloc (.cells #[.slice p1 a.1.length c1, .slice p2 a.2.length c2] 34)).alloc (.cells #[.slice none 0 0, .slice none 0 0] 34)) := ⟨_, rfl⟩
  have hc0 : w0.cell? ⟨w.heap.size, 0, none⟩ = some (.slice p1 a.1.length c1) := by rw [hw0]; simp [go_sem]
  have hc1 : w0.cell? ⟨w.heap.size, 1, none⟩ = some (.slice p2 a.2.length c2) := by rw [hw0]; simp [go_sem]
  have hA : w0.heap[w.heap.size + 1]? = some (.cells #[.slice none 0 0, .slice none 0 0] 34 (0, 0)) := by
    rw [hw0]
    have := heap_alloc_new (w.alloc (.cells #[.slice p1 a.1.length c1, .slice p2 a.2.length c2] 34)) (.cells #[.slice none 0 0, .slice none 0 0] 34)
    simpa using this
  have hz : w0.heap.size = w.heap.size + 2 := by rw [hw0]; simp
  have hW : Below w.heap.size w w0 := by rw [hw0]; exact ba (below_alloc _ _) _
  have q1 := h1.keep hW
  have q2 := h2.keep hW
  have HZ := Lib.hid (And.intro hz hw0)
  clear hz hw0
  obtain ⟨av, hav⟩ : ∃ x, asnB a = x := ⟨_, rfl⟩
  have HAV := Lib.hid hav
  clear hav
  go_enter Try.func39, Try.ntmps39
  go_wp2_with fail
  rw [← HZ.out.2]
  refine (cb (asnValidS_any _ _ a _ q1 q2) HAV.out).mono ?_
  rintro e w1 ⟨rfl, hb⟩
  have hlt := HZ.out.1
  have hsz1 := hb.size
  replace hc0 := cell_keep hb hc0
  replace hc1 := cell_keep hb hc1
  replace hA := box_keep hA hb
  replace q1 := q1.keep hb
  replace q2 := q2.keep hb
  replace hW := bt hW hb
  clear hb
  cases av with
  | false =>
    have hL : listA a = ([], []) := by rw [listA, HAV.out]; rfl
    have ha0 := box0 hA
    have ha1 := box1 hA
    have haz : ∀ i, w1.frozen? ⟨w.heap.size + 1, i, none⟩ = false := boxz hA
    have hl8 := box_lt hA
    have r := box_two (.slice none 0 0) (.slice none 0 0) ha0 ha1
    have hbb := (hW.setCell (p := ⟨w.heap.size + 1, 0, none⟩) (by simp) (.slice none 0 0)).setCell (p := ⟨w.heap.size + 1, 1, none⟩) (by simp) (.slice none 0 0)
    have HL := Lib.hid hL
    clear hL
    go_wp2
    refine bodyPost_ret (v := .tuple #[.agg #[.slice none 0 0, .slice none 0 0], .bool false]) (by simp [results, Try.results39, go_sem, r.1, r.2]) rfl ?_
    exact ⟨_, _, by rw [HAV.out], by rw [HL.out]; exact ⟨.inl ⟨_, _, rfl, rfl, by decide, by simp⟩, .inl ⟨_, _, rfl, rfl, by decide, by simp⟩⟩, hbb⟩
  | true =>
    have hsz := asn_sz HAV.out
    have HSZ := Lib.hid hsz
    have HLA := Lib.hid (show listA a = (a.1, listK a a.2.length) by rw [listA, HAV.out]; rfl)
    have hl20 : a.2.length ≤ 1048576 := HSZ.out.2
    clear hsz
    go_wp2_with fail
    refine (l3Copy_any _ _ a _ q1 q2 HSZ.out).mono ?_
    rintro e w2 ⟨x1, x2, rfl, r1, r2, hb⟩
    obtain ⟨xa1, xc1, rfl⟩ := r1.form
    obtain ⟨xa2, xc2, rfl⟩ := r2.form
    have hl1 := hb.size
    replace hc0 := cell_keep hb hc0
    replace hc1 := cell_keep hb hc1
    replace hA := box_keep hA hb
    replace hW := bt hW hb
    clear hb q1 q2
    have hT := heap_alloc_new w2 (.cells #[.slice xa1 a.1.length xc1, .slice xa2 a.2.length xc2] 34)
    have hbA : Below w2.heap.size w2 (w2.alloc (.cells #[.slice xa1 a.1.length xc1, .slice xa2 a.2.length xc2] 34)) := below_alloc _ _
    have r1' := (r1.more (S' := fun j => w.heap.size + 1 < j ∧ ¬ j = w2.heap.size) fun k hk h => ⟨by omega, by omega⟩).keep hbA
    have r2' := (r2.more (S' := fun j => w.heap.size + 1 < j ∧ ¬ j = w2.heap.size) fun k hk h => ⟨by omega, by omega⟩).keep hbA
    have H0 := Lib.hid (And.intro (And.intro (cell_keep hbA hc0) (cell_keep hbA hc1)) (And.intro hT (And.intro (box_keep hA hbA) (And.intro r1' (And.intro r2' (bt hW hbA))))))
    clear hT hbA hc0 hc1 hA r1 r2 r1' r2' hW
    go_wp2
    go_loopg [5] a.2.length (fun q i wr => ∃ (k : Nat) (d1 d2 : Option Addr) (m1 m2 : Nat), k + q = a.2.length ∧ i = .int .i64 k ∧ (wr.cell? ⟨w.heap.size, 0, none⟩ = some (.slice p1 a.1.length c1) ∧ wr.cell? ⟨w.heap.size, 1, none⟩ = some (.slice p2 a.2.length c2)) ∧ wr.heap[w2.heap.size]? = some (.cells #[.slice d1 a.1.length m1, .slice d2 a.2.length m2] 34 (0, 0)) ∧ wr.heap[w.heap.size + 1]? = some (.cells #[.slice none 0 0, .slice none 0 0] 34 (0, 0)) ∧ RL wr (fun j => w.heap.size + 1 < j ∧ ¬ j = w2.heap.size) (.slice d1 a.1.length m1) a.1 ∧ RL wr (fun j => w.heap.size + 1 < j ∧ ¬ j = w2.heap.size) (.slice d2 a.2.length m2) (listK a k) ∧ Below w.heap.size w wr)
    case atStart => exact ⟨0, _, _, _, _, by omega, rfl, H0.out⟩
    case round =>
      obtain ⟨k, d1, d2, m1, m2, hk, rfl, ⟨hc0, hc1⟩, hT, hA, r1, r2, hW⟩ := hrel
      have HK := Lib.hid hk
      clear hk
      have t0 := box0 hT
      have t1 := box1 hT
      have htz := boxz hT
      have htl := box_lt hT
      have hwz : w.heap.size < wr.heap.size := World.block_lt_of_cell? wr _ hc0
      by_cases hk8 : k < a.2.length
      · have hki : (k : Int) < (a.2.length : Int) := by omega
        have hsk : asSz (a.1, listK a k) := ⟨HSZ.out.1, by rw [listK_len]; exact hl20⟩
        have HSK := Lib.hid hsk
        obtain ⟨L, hL⟩ : ∃ L, listK a k = L := ⟨_, rfl⟩
        have HL := Lib.hid hL
        have HLN := Lib.hid (show a.2.length = L.length by rw [← hL, listK_len])
        rw [hL] at r2 hsk
        have HSL := Lib.hid hsk
        have hkl : k < L.length := by rw [← HLN.out]; exact hk8
        obtain ⟨t, ht⟩ : ∃ t, entB a (a.1, kindL L k) = t := ⟨_, rfl⟩
        have HT := Lib.hid ht
        clear hL hsk ht
        replace r1 := r1.more (S' := fun j => (w.heap.size + 1 < j ∧ ¬ j = w2.heap.size) ∧ j < wr.heap.size) fun j h1 h2 => ⟨h2, h1⟩
        replace r2 := r2.more (S' := fun j => (w.heap.size + 1 < j ∧ ¬ j = w2.heap.size) ∧ j < wr.heap.size) fun j h1 h2 => ⟨h2, h1⟩
        go_wp2_with fail
        refine (l3CopyO_any _ _ (a.1, L) _ r1 r2 HSL.out).mono ?_
        rintro e w5 ⟨y1, y2, m, rfl, ry1, ry2, hm, hb⟩
        have ao : AO w5 m y2 L := ry2.own (by show 0 < L.length; omega)
        replace ry1 : RL w5 (fun j => wr.heap.size ≤ j ∧ j < m) y1 a.1 := ry1
        obtain ⟨ya1, yc1, rfl⟩ := ry1.form
        obtain ⟨ga, gcap, hgf, hga⟩ := ao.form
        obtain ⟨g, rfl⟩ := hga k hkl
        rw [← HLN.out] at hgf
        subst hgf
        clear hga ry2
        have hg1 : m ≤ g := (own_lt ao rfl).1
        have hg2 : g < w5.heap.size := (own_lt ao rfl).2
        have hw5 := hb.size
        replace hc0 := cell_keep hb hc0
        replace hc1 := cell_keep hb hc1
        replace hT := box_keep hT hb
        replace hA := box_keep hA hb
        replace r1 := r1.keep hb
        replace r2 := r2.keep hb
        replace hW := bt hW hb
        clear hb t0 t1 htz
        obtain ⟨⟨b0, b1, b2⟩, hfz⟩ := ao.at HLN.out hkl
        have n0 : ¬ w.heap.size = g := by omega
        have n1 : ¬ w2.heap.size = g := by omega
        have n2 : ¬ w5.heap.size = g := by omega
        have n3 : ¬ w.heap.size + 1 = g := by omega
        have ao' := ao.set1 HLN.out hkl 2
        have ry1' := ry1.kept (fr_set w5 ⟨g, k * 3, none⟩ (.int .i64 2)) fun j _ h e => by have e2 : j = g := e; omega
        have r1' := r1.kept (fr_set w5 ⟨g, k * 3, none⟩ (.int .i64 2)) fun j _ h e => by have e2 : j = g := e; omega
        have r2' := r2.kept (fr_set w5 ⟨g, k * 3, none⟩ (.int .i64 2)) fun j _ h e => by have e2 : j = g := e; omega
        have e0 := cell_set_other (r := ⟨g, k * 3, none⟩) (u := .int .i64 2) hc0 n0
        have e1 := cell_set_other (r := ⟨g, k * 3, none⟩) (u := .int .i64 2) hc1 n0
        have hT' := box_other hT ⟨g, k * 3, none⟩ (.int .i64 2) n1
        have hA' := box_other hA ⟨g, k * 3, none⟩ (.int .i64 2) n3
        have hW' := hW.setCell (p := ⟨g, k * 3, none⟩) (by simp only; omega) (.int .i64 2)
        have hbX := below_alloc (w5.setCell ⟨g, k * 3, none⟩ (.int .i64 2)) (.cells #[.slice ya1 a.1.length yc1, .slice (some ⟨g, 0, none⟩) a.2.length gcap] 34)
        have hN := heap_alloc_new (w5.setCell ⟨g, k * 3, none⟩ (.int .i64 2)) (.cells #[.slice ya1 a.1.length yc1, .slice (some ⟨g, 0, none⟩) a.2.length gcap] 34)
        rw [World.size_setCell] at hN
        replace e0 := cell_keep hbX e0
        replace e1 := cell_keep hbX e1
        have HF := Lib.hid (And.intro hN (And.intro (box_keep hT' hbX) (And.intro (box_keep hA' hbX) (And.intro (And.intro (r1'.keep hbX) (r2'.keep hbX)) (And.intro (ry1'.keep hbX) (And.intro (ao'.keep hbX) (bt hW' hbX)))))))
        have HE := Lib.hid (And.intro e0 e1)
        clear ao ao' ry1 ry1' r1 r2 r1' r2' hT hT' hA hA' hW hW' hbX hN hc0 hc1
        go_wp2_with fail
        generalize (w5.setCell ⟨g, k * 3, none⟩ (.int .i64 2)).alloc (.cells #[.slice ya1 a.1.length yc1, .slice (some ⟨g, 0, none⟩) a.2.length gcap] 34) = W1 at HF HE e0 e1 ⊢
        clear e0 e1
        obtain ⟨hN, hT, hA, ⟨r1, r2⟩, ry1, ao, hW⟩ := HF.out
        obtain ⟨e0, e1⟩ := HE.out
        refine (cb (entailsS_any _ _ _ _ a (a.1, kindL L k) _ (h1.keep hW) (h2.keep hW) ry1 ao.rl) HT.out).mono ?_
        rintro e w6 ⟨rfl, hb⟩
        replace e0 := cell_keep hb e0; replace e1 := cell_keep hb e1
        replace hN := box_keep hN hb
        replace hT := box_keep hT hb
        replace hA := box_keep hA hb
        replace r1 := r1.keep hb
        replace r2 := r2.keep hb
        replace ry1 := ry1.keep hb
        replace ao := ao.keep hb
        replace hW := bt hW hb
        clear hb b0 b1 b2 HF HE
        cases t with
        | false =>
          have r1' := r1.more (S' := fun j => w.heap.size + 1 < j ∧ ¬ j = w2.heap.size) fun j _ h => h.1
          have r2' := r2.more (S' := fun j => w.heap.size + 1 < j ∧ ¬ j = w2.heap.size) fun j _ h => h.1
          have HR := Lib.hid (And.intro hT (And.intro hA (And.intro r1' (And.intro r2' hW))))
          clear hT hA r1 r2 r1' r2' ry1 ao hW hN
          go_wp2
          go_roundg (gk - 1)
          case rel => exact ⟨k + 1, _, _, _, _, by have := HK.out; omega, by go_num, ⟨e0, e1⟩, HR.out.1, HR.out.2.1, HR.out.2.2.1, by rw [listK, HL.out, if_neg (by rw [HT.out]; decide)]; exact HR.out.2.2.2.1, HR.out.2.2.2.2⟩
          case measure => have := HK.out; omega
        | true =>
          have b0 := box0 hN
          have b1 := box1 hN
          have t0 := box0 hT
          have t1 := box1 hT
          have htz := boxz hT
          have htl := box_lt hT
          have m0 : ¬ w.heap.size = w2.heap.size := by omega
          have m1 : ¬ w.heap.size + 1 = w2.heap.size := by omega
          have m2 : ¬ w5.heap.size = w2.heap.size := by omega
          have hT2 := box_set1 (box_set0 hT (.slice ya1 a.1.length yc1)) (.slice (some ⟨g, 0, none⟩) a.2.length gcap)
          have hA2 := box_other (box_other hA ⟨w2.heap.size, 0, none⟩ (.slice ya1 a.1.length yc1) m1) ⟨w2.heap.size, 1, none⟩ (.slice (some ⟨g, 0, none⟩) a.2.length gcap) m1
          have s1 := ((ry1.kept (fr_set w6 ⟨w2.heap.size, 0, none⟩ (.slice ya1 a.1.length yc1)) fun j _ h e => by have e2 : j = w2.heap.size := e; omega).kept (fr_set _ ⟨w2.heap.size, 1, none⟩ (.slice (some ⟨g, 0, none⟩) a.2.length gcap)) fun j _ h e => by have e2 : j = w2.heap.size := e; omega).more (S' := fun j => w.heap.size + 1 < j ∧ ¬ j = w2.heap.size) fun j _ h => ⟨by omega, by omega⟩
          have s2 := ((ao.rl.kept (fr_set w6 ⟨w2.heap.size, 0, none⟩ (.slice ya1 a.1.length yc1)) fun j _ h e => by have e2 : j = w2.heap.size := e; have h2 : m ≤ j := h; omega).kept (fr_set _ ⟨w2.heap.size, 1, none⟩ (.slice (some ⟨g, 0, none⟩) a.2.length gcap)) fun j _ h e => by have e2 : j = w2.heap.size := e; have h2 : m ≤ j := h; omega).more (S' := fun j => w.heap.size + 1 < j ∧ ¬ j = w2.heap.size) fun j _ h => by have h2 : m ≤ j := h; exact ⟨by omega, by omega⟩
          have hW2 := (hW.setCell (p := ⟨w2.heap.size, 0, none⟩) (by simp only; omega) (.slice ya1 a.1.length yc1)).setCell (p := ⟨w2.heap.size, 1, none⟩) (by simp only; omega) (.slice (some ⟨g, 0, none⟩) a.2.length gcap)
          have f0 := cell_set_other (r := ⟨w2.heap.size, 1, none⟩) (u := .slice (some ⟨g, 0, none⟩) a.2.length gcap) (cell_set_other (r := ⟨w2.heap.size, 0, none⟩) (u := .slice ya1 a.1.length yc1) e0 m0) m0
          have f1 := cell_set_other (r := ⟨w2.heap.size, 1, none⟩) (u := .slice (some ⟨g, 0, none⟩) a.2.length gcap) (cell_set_other (r := ⟨w2.heap.size, 0, none⟩) (u := .slice ya1 a.1.length yc1) e1 m0) m0
          have HR := Lib.hid (And.intro (And.intro f0 f1) (And.intro hT2 (And.intro hA2 (And.intro s1 (And.intro s2 hW2)))))
          clear hT2 hA2 s1 s2 hW2 f0 f1 hT hA r1 r2 ry1 ao hW hN
          go_wp2
          go_roundg (gk - 1)
          case rel => exact ⟨k + 1, _, _, _, _, by have := HK.out; omega, by go_num, HR.out.1, HR.out.2.1, HR.out.2.2.1, HR.out.2.2.2.1, by rw [listK, HL.out, if_pos HT.out]; exact HR.out.2.2.2.2.1, HR.out.2.2.2.2.2⟩
          case measure => have := HK.out; omega
      · obtain rfl : k = a.2.length := by have := HK.out; omega
        have ha0 := box0 hA
        have ha1 := box1 hA
        have haz : ∀ i, wr.frozen? ⟨w.heap.size + 1, i, none⟩ = false := boxz hA
        have hl8 := box_lt hA
        have r := box_two (.slice d1 a.1.length m1) (.slice d2 a.2.length m2) ha0 ha1
        have s1 := ((r1.kept (fr_set wr ⟨w.heap.size + 1, 0, none⟩ (.slice d1 a.1.length m1)) fun j _ h e => by have e2 : j = w.heap.size + 1 := e; omega).kept (fr_set _ ⟨w.heap.size + 1, 1, none⟩ (.slice d2 a.2.length m2)) fun j _ h e => by have e2 : j = w.heap.size + 1 := e; omega).more (S' := fun j => w.heap.size ≤ j) fun j _ h => by omega
        have s2 := ((r2.kept (fr_set wr ⟨w.heap.size + 1, 0, none⟩ (.slice d1 a.1.length m1)) fun j _ h e => by have e2 : j = w.heap.size + 1 := e; omega).kept (fr_set _ ⟨w.heap.size + 1, 1, none⟩ (.slice d2 a.2.length m2)) fun j _ h e => by have e2 : j = w.heap.size + 1 := e; omega).more (S' := fun j => w.heap.size ≤ j) fun j _ h => by omega
        have hW2 := (hW.setCell (p := ⟨w.heap.size + 1, 0, none⟩) (by simp) (.slice d1 a.1.length m1)).setCell (p := ⟨w.heap.size + 1, 1, none⟩) (by simp) (.slice d2 a.2.length m2)
        have HO := Lib.hid (And.intro (And.intro s1 s2) hW2)
        clear s1 s2 hW2 r1 r2 hA hW hT
        go_wp2
        refine bodyPost_ret (v := .tuple #[.agg #[.slice d1 a.1.length m1, .slice d2 a.2.length m2], .bool true]) (by simp [results, Try.results39, go_sem, r.1, r.2]) rfl ?_
        exact ⟨_, _, by rw [HAV.out], by rw [HLA.out]; exact HO.out.1, HO.out.2⟩
end Go.Proofs.Ythoingdcmdhllaa
