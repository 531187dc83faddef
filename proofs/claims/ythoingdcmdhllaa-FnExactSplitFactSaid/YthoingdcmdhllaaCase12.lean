/- Walks: the check of a case: the reference. -/
import Derived.Test.YthoingdcmdhllaaCase11
namespace Go.Proofs.Ythoingdcmdhllaa
open Go.RowKit

theorem checkO_stop {left right : List Atom} {us : List (List Int)} {k m : Nat} (h1 : k < right.length) (h2 : k < us.length) (hn : stepO left (gd right k) m (gd us k) = none) : checkO left (right.drop k) (us.drop k) m = none := by
  rw [drop_gd' h1, drop_gd' h2, checkO, hn]
theorem checkO_next {left right : List Atom} {us : List (List Int)} {k m m' : Nat} (h1 : k < right.length) (h2 : k < us.length) (hn : stepO left (gd right k) m (gd us k) = some m') : checkO left (right.drop k) (us.drop k) m = checkO left (right.drop (k + 1)) (us.drop (k + 1)) m' := by
  rw [drop_gd' h1, drop_gd' h2, checkO, hn]
theorem checkO_end {left right : List Atom} {us : List (List Int)} {m : Nat} : checkO left (right.drop right.length) us m = some m := by
  rw [List.drop_length]; cases us <;> rfl
theorem bools_zero (n : Nat) : List.replicate n (Value.bool false) = boolsN n 0 := by
  apply List.ext_getElem?
  intro i
  by_cases h : i < n
  · rw [bools_at h, List.getElem?_replicate, if_pos h, Nat.zero_testBit]
  · simp [boolsN, h]

theorem info_bool9 : (Try.prog.info? 4).map (fun i => (i.zero, i.size, i.bytes)) = some (some (.bool false), 1, 1) := by kernel_rfl
set_option maxRecDepth 100000 in
set_option maxHeartbeats 6400000 in
theorem l16Check_any {S1 S2 S3 S4 S5 S6 : Nat → Prop} (v1 v2 u1 u2 p1 p2 : Value) (a b : Asn) (p : CPf) (w : World) (h1 : RL w S1 v1 a.1) (h2 : RL w S2 v2 a.2) (k1 : RL w S3 u1 b.1) (k2 : RL w S4 u2 b.2) (j1 : RL w S5 p1 p.1) (j2 : RL w S6 p2 p.2)
    (ha : asnB a = true) (hb0 : asnB b = true) (hp9 : p.1.length = 9) :
    Calls Try.prog 134 #[.agg #[v1, v2], .agg #[u1, u2], .agg #[p1, p2]] w fun e w' => e = .returned (.bool (b.1.all (fitsF p.1) && (decide (p.2.length = (filledL p.1 b.2).length) && fullO (filledL p.1 a.2).length (checkO (filledL p.1 a.2) (filledL p.1 b.2) p.2 0)))) ∧ Below w.heap.size w w' := by
  obtain ⟨cl, us⟩ := p
  simp only at j1 j2 hp9 ⊢
  have hfa : (a.2.all atomB = true ∧ a.2.length ≤ 1048576 ∧ a.2.length ≤ 6) ∧ ((b.1.all factB = true ∧ b.2.all atomB = true) ∧ b.2.length ≤ 1048576) := by
    simp only [asnB, factsB, Bool.and_eq_true, decide_eq_true_eq] at ha hb0
    exact ⟨⟨ha.2.2, by omega, ha.2.1⟩, ⟨⟨hb0.1.2, hb0.2.2⟩, by omega⟩⟩
  have HFA := Lib.hid hfa
  have HP9 := Lib.hid hp9
  have hmu := j2.len
  unfold maxLen at hmu
  obtain ⟨xa1, xc1, rfl⟩ := h1.form
  obtain ⟨xa2, xc2, rfl⟩ := h2.form
  obtain ⟨ya1, yc1, rfl⟩ := k1.form
  obtain ⟨ya2, yc2, rfl⟩ := k2.form
  obtain ⟨za1, zc1, rfl⟩ := j1.form
  obtain ⟨za2, zc2, rfl⟩ := j2.form
  have r2 := Lib.hid h2
  have s1 := Lib.hid k1
  have s2 := Lib.hid k2
  have t1 := Lib.hid j1.ints
  have t2 := Lib.hid j2.lt
  clear h1 h2 k1 k2 j1 j2 ha hb0 hfa hp9
  obtain ⟨left, hleft⟩ : ∃ l, filledL cl a.2 = l := ⟨_, rfl⟩
  obtain ⟨right, hright⟩ : ∃ l, filledL cl b.2 = l := ⟨_, rfl⟩
  obtain ⟨fb, hfb⟩ : ∃ x, b.1.all (fitsF cl) = x := ⟨_, rfl⟩
  have hn6 : left.length ≤ 6 := by rw [← hleft]; exact Nat.le_trans (filledL_len _ _) HFA.out.1.2.2
  rw [hleft, hright, hfb]
  have HLE := Lib.hid (And.intro hleft hright)
  have HFB := Lib.hid hfb
  clear hleft hright hfb
  obtain ⟨i0, hi, hz0, hz1, hz2⟩ := info_parts info_bool9
  go_enter Try.func134, Try.ntmps134
  go_wp2_with fail
  generalize hw0 : ((w.alloc (.cells #[.slice xa1 a.1.length xc1, .slice xa2 a.2.length xc2] 34)).alloc (.cells #[.slice ya1 b.1.length yc1, .slice ya2 b.2.length yc2] 34)).alloc (.cells #[.slice za1 cl.length zc1, .slice za2 us.length zc2] 73) = w0 at *
  have hd0 : w0.cell? ⟨w.heap.size + 1, 0, none⟩ = some (.slice ya1 b.1.length yc1) := by rw [← hw0]; simp [go_sem]
  have hd1 : w0.cell? ⟨w.heap.size + 1, 1, none⟩ = some (.slice ya2 b.2.length yc2) := by rw [← hw0]; simp [go_sem]
  have he0 : w0.cell? ⟨w.heap.size + 1 + 1, 0, none⟩ = some (.slice za1 cl.length zc1) := by rw [← hw0]; simp [go_sem]
  have he1 : w0.cell? ⟨w.heap.size + 1 + 1, 1, none⟩ = some (.slice za2 us.length zc2) := by rw [← hw0]; simp [go_sem]
  have hW : Below w.heap.size w w0 := by rw [← hw0]; exact ba (ba (below_alloc _ _) _) _
  clear hw0
  refine (filledS_any _ _ cl a.2 _ (t1.out.keep hW) HP9.out (r2.out.keep hW) HFA.out.1.1 HFA.out.1.2.1).mono ?_
  rintro e w1 ⟨vL, rfl, hL, hb⟩
  replace hd0 := cell_keep hb hd0; replace hd1 := cell_keep hb hd1; replace he0 := cell_keep hb he0; replace he1 := cell_keep hb he1; replace hW := bt hW hb; clear hb
  rw [HLE.out.1] at hL
  have hLr := hL.rl
  obtain ⟨la, lc, rfl⟩ := hLr.form
  clear hL
  go_wp2_with fail
  refine (filledS_any _ _ cl b.2 _ (t1.out.keep hW) HP9.out (s2.out.keep hW) HFA.out.2.1.2 HFA.out.2.2).mono ?_
  rintro e w2 ⟨vR, rfl, hR, hb⟩
  replace hLr := hLr.keep hb
  replace hd0 := cell_keep hb hd0; replace hd1 := cell_keep hb hd1; replace he0 := cell_keep hb he0; replace he1 := cell_keep hb he1; replace hW := bt hW hb; clear hb
  rw [HLE.out.2] at hR
  have hRr := hR.rl
  obtain ⟨ra, rc, rfl⟩ := hRr.form
  clear hR
  have hrm := hRr.len
  unfold maxLen at hrm
  have hLl := Lib.hid hLr.lt
  have hRl := Lib.hid hRr.lt
  have hws := World.block_lt_of_cell? w2 _ he0
  simp only at hws
  have hgo : ∀ (w3 : World), w3.ownsRow w.heap.size 4 1 (.slice (some ⟨w2.heap.size, 0, none⟩) left.length left.length) left.length (madeCells (Value.bool false).cells (left.length * 1)).toList → w2.grownBy w3 none →
      Below w2.heap.size w2 w3 ∧ w3.ownsRow w.heap.size 4 1 (.slice (some ⟨w2.heap.size, 0, none⟩) left.length left.length) left.length (boolsN left.length 0) := by
    intro w3 hown hgr
    refine ⟨(grown_fr hgr).below (B := w2.heap.size) (Nat.le_refl _) (by intro k _ e; cases e), ?_⟩
    have e : (madeCells (Value.bool false).cells (left.length * 1)).toList = boolsN left.length 0 := by
      rw [show (Value.bool false).cells = #[Value.bool false] from rfl, toList_madeCells_one, Nat.mul_one, bools_zero]
    rwa [e] at hown
  have HGO := Lib.hid hgo
  clear hgo
  by_cases hll : right.length = us.length
  rotate_left
  · have hnl : ((right.length : Int) != (us.length : Int)) = true := by simp; omega
    have HF := Lib.hid (show decide (us.length = right.length) = false by simp; omega)
    clear hll
    go_wp2_with (at_make; refine wpList_make_full _ rfl _ _ 151 rfl w.heap.size 4 i0 (.bool false) 1 Try.underlying151 hi hz0 hz1 _ _ _ _ left.length rfl rfl rfl rfl (by rw [hz2]; omega) (by unfold maxLen; omega) hW.size ?_; intro w3 hown hgr; obtain ⟨hb3, hown0⟩ := HGO.out w3 hown hgr; clear hown hgr; replace hd0 := cell_keep hb3 hd0; replace hd1 := cell_keep hb3 hd1; replace he0 := cell_keep hb3 he0; replace he1 := cell_keep hb3 he1)
    go_ret
    exact ⟨by rw [HF.out]; simp, bt hW hb3⟩
  have hnl : ((right.length : Int) != (us.length : Int)) = false := by simp; omega
  have HLEN := Lib.hid (show decide (us.length = right.length) = true by simp; omega)
  go_wp2_with (at_make; refine wpList_make_full _ rfl _ _ 151 rfl w.heap.size 4 i0 (.bool false) 1 Try.underlying151 hi hz0 hz1 _ _ _ _ left.length rfl rfl rfl rfl (by rw [hz2]; omega) (by unfold maxLen; omega) hW.size ?_; intro w3 hown hgr; obtain ⟨hb3, hown0⟩ := HGO.out w3 hown hgr; clear hown hgr; replace hd0 := cell_keep hb3 hd0; replace hd1 := cell_keep hb3 hd1; replace he0 := cell_keep hb3 he0; replace he1 := cell_keep hb3 he1)
  have hW3 := bt hW hb3
  have HLl := Lib.hid (And.intro (hLl.out.keep hb3) (hRl.out.keep hb3))
  refine (cb (l5Fits_any _ _ b.1 cl _ (s1.out.keep hW3) (t1.out.keep hW3) HFA.out.2.1.1 HP9.out) HFB.out).mono ?_
  rintro e w4 ⟨rfl, hb⟩
  have HLl := Lib.hid (And.intro (HLl.out.1.keep hb) (HLl.out.2.keep hb))
  have HOW := Lib.hid (own_keep hown0 hb)
  replace hd0 := cell_keep hb hd0; replace hd1 := cell_keep hb hd1; replace he0 := cell_keep hb he0; replace he1 := cell_keep hb he1; replace hW3 := bt hW3 hb; clear hb
  cases fb with
  | false =>
    go_wp2
    go_ret
    exact ⟨rfl, hW3⟩
  | true =>
    have hgz : w2.heap.size < w4.heap.size := (HOW.out.lt _ rfl).2
    have HT2 := Lib.hid (t2.out.keep hW3)
    obtain ⟨s, hs⟩ : ∃ s, w2.heap.size = s := ⟨_, rfl⟩
    have hWs : w.heap.size ≤ s := by omega
    rw [hs] at HOW HLl hgz hws ⊢
    clear hs hown0 hb3
    have HHR := Lib.hid (And.intro he1 (Fr.refl (fun j => j = s) w4))
    have hlm := HLl.out.1.len
    unfold maxLen at hlm
    go_wp2
    go_loopg [10] right.length (fun q i wr => ∃ (k m : Nat), k + q = right.length ∧ i = .int .i64 k ∧ checkO left right us 0 = checkO left (right.drop k) (us.drop k) m ∧ wr.ownsRow w.heap.size 4 1 (.slice (some ⟨s, 0, none⟩) left.length left.length) left.length (boolsN left.length m) ∧ wr.cell? ⟨w.heap.size + 1 + 1, 1, none⟩ = some (.slice za2 us.length zc2) ∧ Fr (fun j => j = s) w4 wr)
    case atStart => exact ⟨0, 0, by omega, rfl, rfl, HOW.out, HHR.out.1, HHR.out.2⟩
    case round =>
      clear hd0 hd1 he0 he1
      obtain ⟨k, m, hk, rfl, hch, ho, he1, hfr⟩ := hrel
      have HK := Lib.hid hk
      have HCH := Lib.hid hch
      have HO := Lib.hid ho
      have HFR := Lib.hid hfr
      have hbw : Below w.heap.size w wr := hW3.trans (hfr.below hW3.size fun j hj e => by omega)
      have hzz := hfr.size
      clear hk hch ho hfr
      by_cases hk8 : k < right.length
      · have hki : (k : Int) < (right.length : Int) := by omega
        have hki' : (k : Int) < (us.length : Int) := by omega
        have HL1 := Lib.hid (HLl.out.1.kept HFR.out (fun j _ hj e => by have : j < s := hj; omega))
        have HR1 := Lib.hid (HLl.out.2.kept HFR.out (fun j _ hj e => by have : j < s := hj; omega))
        have HU1 := HT2.out.kept HFR.out (fun j _ hj e => by have : j < w.heap.size := hj; omega)
        obtain ⟨ra', rc', hra, _, _, hrf⟩ := HR1.out.atomAt
        simp only [Value.slice.injEq] at hra
        obtain ⟨rfl, _, rfl⟩ := hra
        obtain ⟨b1, o1, rfl, hs1, hzc, hp1, hp2, hp3⟩ := hrf k hk8
        obtain ⟨ua', uc', hua, _, _, huf⟩ := HU1.listAt
        simp only [Value.slice.injEq] at hua
        obtain ⟨rfl, _, rfl⟩ := hua
        obtain ⟨b2, o2, lv, rfl, hs2, hzu, hq, hlv⟩ := huf k (by omega)
        have hn1 : ¬ b1 = s := fun e => by have : b1 < s := hs1; omega
        have hn2 : ¬ b2 = s := fun e => by have : b2 < w.heap.size := hs2; omega
        have hn3 : ¬ w.heap.size + 1 + 1 = s := by omega
        clear hs1 hs2
        obtain ⟨lva, lvc, rfl⟩ := hlv.form
        have HLV := Lib.hid hlv
        have hzy : w.heap.size + 1 + 1 < wr.heap.size := World.block_lt_of_cell? wr _ he1
        have husd := used_step left (gd right k) m (gd us k)
        clear hrf huf hlv HU1
        obtain ⟨R, hR⟩ : ∃ r, stepO left (gd right k) m (gd us k) = r := ⟨_, rfl⟩
        rw [hR] at husd
        have HUS := Lib.hid husd
        clear husd
        cases R with
        | none =>
          have HF := Lib.hid (show checkO left right us 0 = none by rw [HCH.out, checkO_stop hk8 (by omega) hR])
          clear hR
          go_wp2
          go_region_held3 (fun w' => (w'.cell? ⟨b1, o1 + k * 3, none⟩ = some (.int .i64 (gd right k).1) ∧ w'.cell? ⟨b1, o1 + k * 3 + 1, none⟩ = some (.int .i64 (gd right k).2.1) ∧ w'.cell? ⟨b1, o1 + k * 3 + 2, none⟩ = some (.int .i64 (gd right k).2.2)) ∧ (w'.cell? ⟨w.heap.size + 1 + 1, 1, none⟩ = some (.slice (some ⟨b2, o2, none⟩) us.length zc2) ∧ w'.cell? ⟨b2, o2 + k, none⟩ = some (.slice lva (gd us k).length lvc)))
            (first | exact ⟨⟨y1, y2, y3⟩, y4, y5⟩ | exact ⟨⟨cell_keep (by repeat (first | exact Below.refl _ _ | with_reducible assumption | exact below_alloc _ _ | (refine Below.setCell ?_ (by first | (simp; done) | (simp; omega) | omega) _) | apply bd | apply ba | apply be)) hp1, cell_keep (by repeat (first | exact Below.refl _ _ | with_reducible assumption | exact below_alloc _ _ | (refine Below.setCell ?_ (by first | (simp; done) | (simp; omega) | omega) _) | apply bd | apply ba | apply be)) hp2, cell_keep (by repeat (first | exact Below.refl _ _ | with_reducible assumption | exact below_alloc _ _ | (refine Below.setCell ?_ (by first | (simp; done) | (simp; omega) | omega) _) | apply bd | apply ba | apply be)) hp3⟩, cell_keep (by repeat (first | exact Below.refl _ _ | with_reducible assumption | exact below_alloc _ _ | (refine Below.setCell ?_ (by first | (simp; done) | (simp; omega) | omega) _) | apply bd | apply ba | apply be)) he1, cell_keep (by repeat (first | exact Below.refl _ _ | with_reducible assumption | exact below_alloc _ _ | (refine Below.setCell ?_ (by first | (simp; done) | (simp; omega) | omega) _) | apply bd | apply ba | apply be)) hq⟩)
            (first
              | (go_at_call 197; go_must (refine (l16Used_any _ _ s left.length w.heap.size left (gd right k) (gd us k) m _ (HL1.out.keep (by repeat (first | exact Below.refl _ _ | with_reducible assumption | exact below_alloc _ _ | (refine Below.setCell ?_ (by first | (simp; done) | (simp; omega) | omega) _) | apply bd | apply ba | apply be))) (fun j hj e => by have : j < s := hj; omega) (HLV.out.keep (by repeat (first | exact Below.refl _ _ | with_reducible assumption | exact below_alloc _ _ | (refine Below.setCell ?_ (by first | (simp; done) | (simp; omega) | omega) _) | apply bd | apply ba | apply be))) (fun j hj e => by have : j < w.heap.size := hj; omega) (own_keep HO.out (by repeat (first | exact Below.refl _ _ | with_reducible assumption | exact below_alloc _ _ | (refine Below.setCell ?_ (by first | (simp; done) | (simp; omega) | omega) _) | apply bd | apply ba | apply be)))).mono ?_; rw [HUS.out]; rintro e w5 ⟨rfl, m5, ho5, hm5, hf5⟩; have hfq : Fr (fun j => j = s) wr w5 := ((Below.fr (w := wr) (by repeat (first | exact Below.refl _ _ | with_reducible assumption | exact below_alloc _ _ | (refine Below.setCell ?_ (by first | (simp; done) | (simp; omega) | omega) _) | apply bd | apply ba | apply be))).mono (fun _ _ h => h.elim)).trans hf5; have y1 := hfq.cell (p := ⟨b1, o1 + k * 3, none⟩) hn1 hp1; have y2 := hfq.cell (p := ⟨b1, o1 + k * 3 + 1, none⟩) hn1 hp2; have y3 := hfq.cell (p := ⟨b1, o1 + k * 3 + 2, none⟩) hn1 hp3; have y4 := hfq.cell (p := ⟨w.heap.size + 1 + 1, 1, none⟩) hn3 he1; have y5 := hfq.cell (p := ⟨b2, o2 + k, none⟩) hn2 hq)))
          all_goals
            have hbb := hbw.trans (hfq.below hbw.size fun j hj e => by omega)
            go_wp2
            go_ret
            exact ⟨by rw [HF.out, HLEN.out]; rfl, hbb⟩
        | some m' =>
          have HN := Lib.hid (show checkO left right us 0 = checkO left (right.drop (k + 1)) (us.drop (k + 1)) m' by rw [HCH.out, checkO_next hk8 (by omega) hR])
          clear hR
          go_wp2
          go_region_held3 (fun w' => (w'.cell? ⟨b1, o1 + k * 3, none⟩ = some (.int .i64 (gd right k).1) ∧ w'.cell? ⟨b1, o1 + k * 3 + 1, none⟩ = some (.int .i64 (gd right k).2.1) ∧ w'.cell? ⟨b1, o1 + k * 3 + 2, none⟩ = some (.int .i64 (gd right k).2.2)) ∧ (w'.cell? ⟨w.heap.size + 1 + 1, 1, none⟩ = some (.slice (some ⟨b2, o2, none⟩) us.length zc2) ∧ w'.cell? ⟨b2, o2 + k, none⟩ = some (.slice lva (gd us k).length lvc)))
            (first | exact ⟨⟨y1, y2, y3⟩, y4, y5⟩ | exact ⟨⟨cell_keep (by repeat (first | exact Below.refl _ _ | with_reducible assumption | exact below_alloc _ _ | (refine Below.setCell ?_ (by first | (simp; done) | (simp; omega) | omega) _) | apply bd | apply ba | apply be)) hp1, cell_keep (by repeat (first | exact Below.refl _ _ | with_reducible assumption | exact below_alloc _ _ | (refine Below.setCell ?_ (by first | (simp; done) | (simp; omega) | omega) _) | apply bd | apply ba | apply be)) hp2, cell_keep (by repeat (first | exact Below.refl _ _ | with_reducible assumption | exact below_alloc _ _ | (refine Below.setCell ?_ (by first | (simp; done) | (simp; omega) | omega) _) | apply bd | apply ba | apply be)) hp3⟩, cell_keep (by repeat (first | exact Below.refl _ _ | with_reducible assumption | exact below_alloc _ _ | (refine Below.setCell ?_ (by first | (simp; done) | (simp; omega) | omega) _) | apply bd | apply ba | apply be)) he1, cell_keep (by repeat (first | exact Below.refl _ _ | with_reducible assumption | exact below_alloc _ _ | (refine Below.setCell ?_ (by first | (simp; done) | (simp; omega) | omega) _) | apply bd | apply ba | apply be)) hq⟩)
            (first
              | (go_at_call 197; go_must (refine (l16Used_any _ _ s left.length w.heap.size left (gd right k) (gd us k) m _ (HL1.out.keep (by repeat (first | exact Below.refl _ _ | with_reducible assumption | exact below_alloc _ _ | (refine Below.setCell ?_ (by first | (simp; done) | (simp; omega) | omega) _) | apply bd | apply ba | apply be))) (fun j hj e => by have : j < s := hj; omega) (HLV.out.keep (by repeat (first | exact Below.refl _ _ | with_reducible assumption | exact below_alloc _ _ | (refine Below.setCell ?_ (by first | (simp; done) | (simp; omega) | omega) _) | apply bd | apply ba | apply be))) (fun j hj e => by have : j < w.heap.size := hj; omega) (own_keep HO.out (by repeat (first | exact Below.refl _ _ | with_reducible assumption | exact below_alloc _ _ | (refine Below.setCell ?_ (by first | (simp; done) | (simp; omega) | omega) _) | apply bd | apply ba | apply be)))).mono ?_; rw [HUS.out]; rintro e w5 ⟨rfl, m5, ho5, hm5, hf5⟩; have hfq : Fr (fun j => j = s) wr w5 := ((Below.fr (w := wr) (by repeat (first | exact Below.refl _ _ | with_reducible assumption | exact below_alloc _ _ | (refine Below.setCell ?_ (by first | (simp; done) | (simp; omega) | omega) _) | apply bd | apply ba | apply be))).mono (fun _ _ h => h.elim)).trans hf5; have y1 := hfq.cell (p := ⟨b1, o1 + k * 3, none⟩) hn1 hp1; have y2 := hfq.cell (p := ⟨b1, o1 + k * 3 + 1, none⟩) hn1 hp2; have y3 := hfq.cell (p := ⟨b1, o1 + k * 3 + 2, none⟩) hn1 hp3; have y4 := hfq.cell (p := ⟨w.heap.size + 1 + 1, 1, none⟩) hn3 he1; have y5 := hfq.cell (p := ⟨b2, o2 + k, none⟩) hn2 hq)))
          all_goals
            obtain rfl := hm5 m' rfl
            clear hm5 hf5 y1 y2 y3 y5
            go_wp2
            go_roundg (gk - 1)
            case rel => exact ⟨k + 1, m', by have := HK.out; omega, by go_num, HN.out, ho5, y4, HFR.out.trans hfq⟩
            case measure => have := HK.out; omega
      · obtain rfl : k = right.length := by have := HK.out; omega
        have HE := Lib.hid (show checkO left right us 0 = some m by rw [HCH.out, checkO_end])
        have hcm : ∀ j, j < left.length → wr.cell? ⟨s, j, none⟩ = some (.bool (m.testBit j)) := fun j hj => by
          have := HO.out.cellAt j (by omega)
          rw [bools_at hj] at this
          simpa using this
        have HCM := Lib.hid hcm
        have hsr : s < wr.heap.size := by omega
        obtain ⟨wo, rfl⟩ : ∃ wo : World, wo = wr := ⟨_, rfl⟩
        clear hcm
        go_wp2
        go_loopg [11] left.length (fun q i wr => ∃ j : Nat, j + q = left.length ∧ i = .int .i64 j ∧ (List.range j).all (fun k => m.testBit k) = true ∧ Below wo.heap.size wo wr)
        case atStart => exact ⟨0, by omega, rfl, rfl, Below.refl _ _⟩
        case round =>
          obtain ⟨j, hj, rfl, hal, hb⟩ := hrel
          have HJ := Lib.hid hj
          have HAL := Lib.hid hal
          clear hj hal
          by_cases hj8 : j < left.length
          · have hji : (j : Int) < (left.length : Int) := by omega
            have hcj := cell_below hb (p := ⟨s, j, none⟩) hsr (HCM.out j hj8)
            obtain ⟨q, hq⟩ : ∃ q, m.testBit j = q := ⟨_, rfl⟩
            rw [hq] at hcj
            cases q with
            | true =>
              have HN := Lib.hid (range_all_yes HAL.out hq)
              clear hq
              go_wp2
              go_roundg (gk - 1)
              case rel => exact ⟨j + 1, by have := HJ.out; omega, by go_num, HN.out, hb⟩
              case measure => have := HJ.out; omega
            | false =>
              have HN := Lib.hid (show fullO left.length (checkO left right us 0) = false by rw [HE.out]; exact range_all_no hj8 hq)
              clear hq
              go_wp2
              go_ret
              exact ⟨by rw [HN.out, HLEN.out]; rfl, bt hbw hb⟩
          · obtain rfl : j = left.length := by have := HJ.out; omega
            have HN := Lib.hid (show fullO left.length (checkO left right us 0) = true by rw [HE.out]; exact HAL.out)
            go_wp2
            go_ret
            exact ⟨by rw [HN.out, HLEN.out]; rfl, bt hbw hb⟩
end Go.Proofs.Ythoingdcmdhllaa
