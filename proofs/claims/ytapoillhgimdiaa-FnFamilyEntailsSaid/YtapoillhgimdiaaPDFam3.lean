/- Walks: draws of assertions. (Printed by gen_l3draw.py.) -/
import Derived.Test.YtapoillhgimdiaaPDHolds2
import Derived.Test.YtapoillhgimdiaaPHeldD
import Derived.Test.YtapoillhgimdiaaPDHolds4
import Derived.Test.YtapoillhgimdiaaPMut2
import Derived.Test.YtapoillhgimdiaaPFam3
import Derived.Test.YtapoillhgimdiaaPDHolds1
namespace Go.Proofs.Ytapoillhgimdiaa
open Go.RowKit

end Go.Proofs.Ytapoillhgimdiaa
/- Walks: draws of a state and an assertion. -/
namespace Go.Proofs.Ytapoillhgimdiaa
open Go.RowKit

theorem own_rl {w : World} {B : Nat} {v : Value} {l : List Int} (h : w.ownsRow B 3 1 v l.length (ints l)) : RL w (fun k => B ≤ k) v l := (own_ints h).1.rl.more fun _ _ hk => (own_lt h hk).1
end Go.Proofs.Ytapoillhgimdiaa
/- Walks: a drawn state and a drawn family (DrawFamilyHolds). -/
set_option linter.unusedSimpArgs false
set_option linter.unusedVariables false
namespace Go.Proofs.Ytapoillhgimdiaa
open Go.RowKit

set_option maxRecDepth 100000 in
set_option maxHeartbeats 12800000 in
theorem specDrawFamHolds_any (v : Value) (n : Nat) (w : World) (h : RBytes w v n) :
    Calls Try.prog 59 #[v] w fun e w' => ∃ (u1 u2 x : Value) (m1 m2 : List Int) (A : List Asn), e = .returned (.tuple #[.agg #[u1, u2], x]) ∧ (m1.length ≤ 9 ∧ m2.length ≤ 9) ∧ (A.length ≤ 1013 ∧ fmB 1042 A) ∧
      (RL w' (fun _ => True) u1 m1 ∧ RL w' (fun _ => True) u2 m2) ∧ RL w' (fun _ => True) x A ∧ Below w.heap.size w w' := by
  obtain ⟨ca, cc, rfl⟩ := bytes_form h
  have hbR := heap_alloc_new w (.cells #[.slice none 0 0, .slice none 0 0] 77)
  have hb0 : Below w.heap.size w (w.alloc (.cells #[.slice none 0 0, .slice none 0 0] 77)) := below_alloc _ _
  have hz0 : (w.alloc (.cells #[.slice none 0 0, .slice none 0 0] 77)).heap.size = w.heap.size + 1 := by simp
  go_enter Try.func59, Try.ntmps59
  go_wp2_with fail
  refine (l18Open_any _ n _ (h.keep hb0)).mono ?_
  rintro e w1 ⟨rfl, hr1, hb1⟩
  replace hbR := box_keep hbR hb1
  have hb01 := bt hb0 hb1
  rw [hz0] at hr1
  simp only [World.size_alloc]
  obtain ⟨g, hg⟩ : ∃ g, w.heap.size + 1 = g := ⟨_, rfl⟩
  have HB := Lib.hid (And.intro hg hb01)
  rw [hg] at hr1 ⊢
  have hg1 := hr1.lt
  have hgw : w.heap.size < g := by omega
  clear hg hb1 hb01 h hb0 hz0
  go_wp2_with fail
  refine (l13Draw_any g 0 _ hr1 (by omega)).mono ?_
  rintro e w2 ⟨va, la, rfl, ⟨hla, hva⟩, D1⟩
  obtain ⟨aa, ac, rfl⟩ := D1.row.form
  have hz1 := D1.fr.size
  have hg2 := D1.rdr.lt
  have H1 := Lib.hid (And.intro hva (And.intro D1 hbR))
  have hr2 := D1.rdr
  clear D1 hr1 hbR hva
  go_wp2_with fail
  refine (l2Draw_any g _ _ hr2 (by omega)).mono ?_
  rintro e w3 ⟨s1, s2, l1, l2, rfl, hl1, hl2, hst, hr3, hf3⟩
  have hz3 := hf3.size
  have hg3 := hr3.lt
  have i1 := own_rl hst.one
  have i2 := own_rl hst.two
  obtain ⟨x1, d1, rfl⟩ := i1.form
  obtain ⟨x2, d2, rfl⟩ := i2.form
  rw [hl1, hl2]
  have H3 := Lib.hid (And.intro (And.intro hl1 hl2) (And.intro (And.intro i1 i2) (And.intro hr3 hf3)))
  clear hst i1 i2 hr3 hf3 hl1 hl2 hr2
  have hbS := heap_alloc_new w3 (.cells #[.slice x1 8 d1, .slice x2 8 d2] 77)
  have HS := Lib.hid hbS
  clear hbS
  go_upto_region 4 with fail
  go_cut [20] from 7 (fun c wc => ∃ cb : Bool, c = .bool cb ∧ (cb = true → 0 < la.length) ∧ wc.heap[w3.heap.size]? = some (.cells #[.slice x1 8 d1, .slice x2 8 d2] 77 (0, 0)) ∧ Rdr wc g 150 ∧ Fr (fun j => j = g) w3 wc)
  case first =>
    have hr4 := H3.out.2.2.1.keep (below_alloc w3 (.cells #[.slice x1 8 d1, .slice x2 8 d2] 77))
    have hf4 : Fr (fun j => j = g) w3 (w3.alloc (.cells #[.slice x1 8 d1, .slice x2 8 d2] 77)) := (Below.fr (below_alloc _ _)).mono fun _ _ h => h.elim
    by_cases hl0 : 0 < la.length
    · have hli : (0 : Int) < (la.length : Int) := by omega
      have HLL := Lib.hid (And.intro hl0 hf4)
      clear hl0 hf4
      go_wp2_with fail
      refine (pick_any g _ 4 _ hr4 (by omega) (by decide) (by decide)).mono ?_
      rintro e w9 ⟨k, rfl, hk, hr9, hf9⟩
      have HN := Lib.hid (And.intro (box_kept HS.out hf9 (by omega)) (And.intro (hr9.more (q' := 150) (by omega)) (HLL.out.2.trans hf9)))
      clear hr9 hf9 hr4
      go_wp2
      go_meet
      case rel => exact ⟨_, rfl, fun _ => HLL.out.1, HN.out⟩
    · have hli : ¬ (0 : Int) < (la.length : Int) := by omega
      have HN := Lib.hid (And.intro (hr4.more (q' := 150) (by omega)) hf4)
      clear hl0 hf4 hr4
      go_wp2
      go_meet
      case rel => exact ⟨false, rfl, fun h => (by cases h), HS.out, HN.out⟩
  case rest =>
    clear HS
    obtain ⟨cb, rfl, hcb, hbS, hrc, hfc⟩ := hcut
    have HC := Lib.hid (And.intro hcb (And.intro hbS (And.intro hrc hfc)))
    have hzc := hfc.size
    have hlS := box_lt hbS
    clear hcb hbS hrc hfc
    go_upto_if 20 with fail
    go_cut [] from 7 (fun wc => ∃ (t1 t2 : Value) (n1 n2 : List Int), (n1.length = 8 ∧ n2.length = 8) ∧ wc.heap[w3.heap.size]? = some (.cells #[t1, t2] 77 (0, 0)) ∧ (RL wc (fun k => ¬ k = g) t1 n1 ∧ RL wc (fun k => ¬ k = g) t2 n2) ∧ Rdr wc g 200 ∧ Fr (fun j => j = g) w3 wc)
    case first =>
      cases cb with
      | false =>
        have HN := Lib.hid (And.intro ((H3.out.2.1.1.kept HC.out.2.2.2 fun k _ h e => by have h2 : w2.heap.size ≤ k := h; have e2 : k = g := e; omega).more (S' := fun k => ¬ k = g) fun k _ h => by have h2 : w2.heap.size ≤ k := h; show ¬ k = g; omega)
          ((H3.out.2.1.2.kept HC.out.2.2.2 fun k _ h e => by have h2 : w2.heap.size ≤ k := h; have e2 : k = g := e; omega).more (S' := fun k => ¬ k = g) fun k _ h => by have h2 : w2.heap.size ≤ k := h; show ¬ k = g; omega))
        rw [H3.out.1.1, H3.out.1.2] at HN
        go_wp2
        go_meet
        case rel => exact ⟨_, _, l1, l2, H3.out.1, HC.out.2.1, HN.out, HC.out.2.2.1.more (by omega), HC.out.2.2.2⟩
      | true =>
        have hl0 := HC.out.1 rfl
        have hli : (1 : Int) ≤ (la.length : Int) := by omega
        have hlm : (la.length : Int) ≤ 4 := by omega
        go_wp2_with fail
        refine (pick_any g _ _ _ HC.out.2.2.1 (by omega) (by omega) (by omega)).mono ?_
        rintro e w9 ⟨k, rfl, hk, hr9, hf9⟩
        have hk8 : k < la.length := by omega
        have hki : (k : Int) < (la.length : Int) := by omega
        have hav := (List.all_eq_true.1 H1.out.1) _ (gd_mem hk8)
        have hff := HC.out.2.2.2.trans hf9
        have hT := (H1.out.2.1.row.kept H3.out.2.2.2 fun k hk e => by have e2 : k = g := e; omega).kept hff fun k hk e => by have e2 : k = g := e; omega
        obtain ⟨_, _, hre, _, _, hrf⟩ := hT.rl.asnAt
        simp only [Value.slice.injEq] at hre
        obtain ⟨rfl, _, rfl⟩ := hre
        obtain ⟨gb, ob, u1, u2, rfl, _, hzb, hp1, hp2, q1, q2⟩ := hrf k hk8
        obtain ⟨ua1, uc1, rfl⟩ := q1.form
        obtain ⟨ua2, uc2, rfl⟩ := q2.form
        have hbx9 := box_kept HC.out.2.1 hf9 (by omega)
        have H9 := Lib.hid (And.intro hbx9 (And.intro hr9 hff))
        have hz9 := hf9.size
        clear hf9 hr9 hff hT hrf hbx9
        go_wp2_with fail
        refine (l4Build_any g _ _ _ (gd la k) _ H9.out.2.1 (by omega) hav (q1.more fun k _ h => by have h2 : w1.heap.size ≤ k := h; show ¬ k = g; omega) (q2.more fun k _ h => by have h2 : w1.heap.size ≤ k := h; show ¬ k = g; omega)).mono ?_
        rintro e wb ⟨y1, y2, n1, n2, rfl, hn1, hn2, hsb, hrb, hfb⟩
        have j1 := own_rl hsb.one
        have j2 := own_rl hsb.two
        obtain ⟨ya1, yc1, rfl⟩ := j1.form
        obtain ⟨ya2, yc2, rfl⟩ := j2.form
        have hbxb := box_kept H9.out.1 hfb (by omega)
        have d0 := box0 hbxb
        have d1' := box1 hbxb
        have dz := boxz hbxb
        have dl := box_lt hbxb
        have hs6 := fr_two wb w3.heap.size (.slice ya1 n1.length yc1) (.slice ya2 n2.length yc2)
        have HN := Lib.hid (And.intro (And.intro ((j1.kept hs6 (fun k _ h e => by have h2 : w9.heap.size ≤ k := h; have e2 : k = w3.heap.size := e; omega)).more (S' := fun k => ¬ k = g) fun k _ h => by have h2 : w9.heap.size ≤ k := h; show ¬ k = g; omega) ((j2.kept hs6 (fun k _ h e => by have h2 : w9.heap.size ≤ k := h; have e2 : k = w3.heap.size := e; omega)).more (S' := fun k => ¬ k = g) fun k _ h => by have h2 : w9.heap.size ≤ k := h; show ¬ k = g; omega))
          (And.intro (box_set1 (box_set0 hbxb (.slice ya1 n1.length yc1)) (.slice ya2 n2.length yc2)) (And.intro ((hrb.kept hs6 (fun k hk e => by have e2 : k = w3.heap.size := e; omega)).more (q' := 200) (by omega)) ((H9.out.2.2.trans hfb).then hs6 fun i hi e => by have e2 : i = w3.heap.size := e; omega))))
        have HN8 := Lib.hid (And.intro hn1 hn2)
        clear j1 j2 hsb hrb hfb hbxb hs6 q1 q2 hn1 hn2
        go_wp2
        go_meet
        case rel => exact ⟨_, _, n1, n2, HN8.out, HN.out.2.1, HN.out.1, HN.out.2.2.1, HN.out.2.2.2⟩
    case rest =>
      clear HC
      obtain ⟨t1, t2, n1, n2, ⟨hn1, hn2⟩, hbS, ⟨j1, j2⟩, hrc, hfc⟩ := hcut
      obtain ⟨ta1, tc1, rfl⟩ := j1.form
      obtain ⟨ta2, tc2, rfl⟩ := j2.form
      have c0 := box0 hbS
      have c1 := box1 hbS
      have hlc := box_lt hbS
      have HJ := Lib.hid (And.intro (And.intro j1.ints j2.ints) (And.intro (And.intro hn1 hn2) (And.intro hrc hfc)))
      clear hn1 hn2 hbS j1 j2 hrc hfc
      go_wp2_with fail
      refine (l2Mutate_any g _ _ _ n1 n2 _ HJ.out.2.2.1 (by omega) HJ.out.1.1 HJ.out.1.2 HJ.out.2.1.1 HJ.out.2.1.2).mono ?_
      rintro e w5 ⟨u1, u2, m1, m2, rfl, hm1, hm2, hsu, hr5, hf5⟩
      have k1 := own_rl hsu.one
      have k2 := own_rl hsu.two
      obtain ⟨ua1, uc1, rfl⟩ := k1.form
      obtain ⟨ua2, uc2, rfl⟩ := k2.form
      have hff := (H3.out.2.2.2.trans HJ.out.2.2.2).trans hf5
      have hT := H1.out.2.1.row.kept hff fun k hk e => by have e2 : k = g := e; omega
      have rT := hT.rl
      have hz5 := hf5.size
      have H5 := Lib.hid (And.intro (And.intro hm1 hm2) (And.intro (And.intro k1 k2) hff))
      clear hm1 hm2 hsu k1 k2 hff hf5 hT
      go_wp2_with fail
      refine (l13Mutate_any g _ _ la _ hr5 (by omega) rT (by omega) ((fmB.val H1.out.1).more (by omega))).mono ?_
      rintro e w6 ⟨x, A, rfl, hA, D6⟩
      obtain ⟨xa, xc, rfl⟩ := D6.row.form
      have hbR := box_kept (box_kept (box_kept H1.out.2.2 H1.out.2.1.fr (by omega)) H5.out.2.2 (by omega)) D6.fr (by omega)
      have r0 := box0 hbR
      have r1 := box1 hbR
      have rz := boxz hbR
      have rl := box_lt hbR
      have rr := box_two (.slice ua1 m1.length uc1) (.slice ua2 m2.length uc2) r0 r1
      have hs6 := fr_two w6 w.heap.size (.slice ua1 m1.length uc1) (.slice ua2 m2.length uc2)
      have hFF := ((H1.out.2.1.fr.trans H5.out.2.2).trans D6.fr)
      have hK : ∀ {v : Value} {l : List Int}, RL w5 (fun k => wc.heap.size ≤ k) v l → RL ((w6.setCell ⟨w.heap.size, 0, none⟩ (.slice ua1 m1.length uc1)).setCell ⟨w.heap.size, 1, none⟩ (.slice ua2 m2.length uc2)) (fun _ => True) v l := fun hh =>
        ((hh.kept D6.fr fun k _ h e => by have h2 : wc.heap.size ≤ k := h; have e2 : k = g := e; omega).kept hs6 fun k _ h e => by have h2 : wc.heap.size ≤ k := h; have e2 : k = w.heap.size := e; omega).any
      have HE := Lib.hid (And.intro H5.out.1 (And.intro hA (And.intro (And.intro (hK H5.out.2.1.1) (hK H5.out.2.1.2)) (And.intro (D6.row.kept hs6 fun k hk e => by have e2 : k = w.heap.size := e; omega).rl.any
        ((HB.out.2.trans (hFF.below (by have := HB.out.2.size; omega) fun k hk e => by have e2 : k = g := e; omega)).trans (hs6.below (by omega) fun k hk e => by have e2 : k = w.heap.size := e; omega))))))
      clear hbR hs6 hFF hK D6 rT hr5 hA
      go_wp2
      refine bodyPost_ret (v := .tuple #[.agg #[.slice ua1 m1.length uc1, .slice ua2 m2.length uc2], .slice xa A.length xc]) (by simp [results, Try.results59, go_sem, rr.1, rr.2]) rfl ?_
      exact ⟨_, _, _, m1, m2, A, rfl, HE.out⟩
end Go.Proofs.Ytapoillhgimdiaa
