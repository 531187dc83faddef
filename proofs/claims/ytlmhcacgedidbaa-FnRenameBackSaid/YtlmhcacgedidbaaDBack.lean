/- The walk of the law FnRenameBack. -/
import Derived.Test.YtlmhcacgedidbaaDRen1
import Derived.Test.YtlmhcacgedidbaaPerm3
import Derived.Test.YtlmhcacgedidbaaSame
import Derived.Test.YtlmhcacgedidbaaW9
import Derived.Deep.RegionHeld3
namespace Go.Proofs.Ytlmhcacgedidbaa
open Go.RowKit

theorem stateSame_eq (v1 v2 u1 u2 : Value) (l1 l2 m1 m2 : List Int) (b : Bool) (w : World) (h1 : RInts w v1 l1) (h2 : RInts w v2 l2) (k1 : RInts w u1 m1) (k2 : RInts w u2 m2) (hb : (decide (l1 = m1) && decide (l2 = m2)) = b) :
    Calls Try.prog 45 #[.agg #[v1, v2], .agg #[u1, u2]] w fun e w' => e = .returned (.bool b) ∧ Below w.heap.size w w' := by
  rw [← hb]; exact stateSame_any v1 v2 u1 u2 l1 l2 m1 m2 w h1 h2 k1 k2
theorem usedL_of {vl hl : List Int} (h : validB vl hl = true) : usedL vl hl = usedA' hl := by
  rw [usedL, if_pos h]; rfl

theorem makeI8 (w : World) : (Instr.makeSlice 22 (.int .i64 8) (.int .i64 8)).run Try.prog w =
    .ok (.slice (some ⟨w.heap.size, 0, none⟩) 8 8) (w.alloc (.cells #[.int .i64 0, .int .i64 0, .int .i64 0, .int .i64 0, .int .i64 0, .int .i64 0, .int .i64 0, .int .i64 0] 3)) := by kernel_rfl

set_option maxHeartbeats 3200000 in
theorem fnRenameBack_walk (v : Value) (n : Nat) (w : World) (h : RBytes w v n) :
    Calls Try.prog 13 #[v] w fun e w' => e = .returned (.bool true) ∧ Below w.heap.size w w' := by
  obtain ⟨a, cap, rfl⟩ := bytes_form h
  by_cases hn : n ≤ 1048576
  rotate_left
  · go_enter Try.func13, Try.ntmps13
    go_wp2
    go_ret
    exact ⟨rfl, Below.refl _ _⟩
  have hmk := makeI8
  go_enter Try.func13, Try.ntmps13
  go_wp2_with fail
  refine (specDrawRenameState_any _ n _ h).mono ?_
  rintro e w1 ⟨u1, u2, l1, l2, nb, l, rfl, hl1, hl2, hl8, r1, r2, r3, hW⟩
  obtain ⟨a1, c1, rfl⟩ := r1.form
  obtain ⟨a2, c2, rfl⟩ := r2.form
  obtain ⟨ok, hok⟩ : ∃ ok, ok = renOk l1 l2 l := ⟨_, rfl⟩
  obtain ⟨X1, hX1⟩ : ∃ X, X = renSV l1 l2 l := ⟨_, rfl⟩
  obtain ⟨X2, hX2⟩ : ∃ X, X = renSH l1 l2 l := ⟨_, rfl⟩
  have HX := Lib.hid (And.intro hok (And.intro hX1 hX2))
  have HL8 := Lib.hid hl8
  have hbn : (ok != ok) = false := by cases ok <;> rfl
  have hbe : (ok == ok) = true := by cases ok <;> rfl
  clear hok hX1 hX2 hl8
  go_wp2_with fail
  refine (renameStateI_any _ _ _ l1 l2 l _ (r1.alloc _) (r2.alloc _) (r3.alloc _)).mono ?_
  rintro e w2 ⟨x1, x2, rfl, hx, hb⟩
  rw [← HX.out.2.1, ← HX.out.2.2] at hx
  rw [← HX.out.1]
  obtain ⟨xa1, xc1, rfl, _⟩ := own_form hx.one
  obtain ⟨xa2, xc2, rfl, _⟩ := own_form hx.two
  have hc0 := cell_keep hb (p := ⟨w1.heap.size, 0, none⟩) (v := .slice a1 l1.length c1) (by simp)
  have hc1 := cell_keep hb (p := ⟨w1.heap.size, 1, none⟩) (v := .slice a2 l2.length c2) (by simp)
  have q1 := (own_ints hx.one).1
  have q2 := (own_ints hx.two).1
  replace hb := bt (below_alloc w1 _) hb
  replace hW := bt hW hb; replace r1 := r1.keep hb; replace r2 := r2.keep hb; replace r3 := r3.keep hb; clear hb
  clear hx
  have hz2 : w1.heap.size < w2.heap.size := World.block_lt_of_cell? w2 _ hc0
  go_wp2_with fail
  refine (renameStateS_any _ _ _ l1 l2 l _ (r1.alloc _) (r2.alloc _) (r3.alloc _)).mono ?_
  rintro e w3 ⟨y1, y2, rfl, hy, hb⟩
  rw [← HX.out.2.1, ← HX.out.2.2] at hy
  rw [← HX.out.1]
  obtain ⟨ya1, yc1, rfl, _⟩ := own_form hy.one
  obtain ⟨ya2, yc2, rfl, _⟩ := own_form hy.two
  have hx0 := cell_keep hb (p := ⟨w2.heap.size, 0, none⟩) (v := .slice xa1 X1.length xc1) (by simp)
  have hx1 := cell_keep hb (p := ⟨w2.heap.size, 1, none⟩) (v := .slice xa2 X2.length xc2) (by simp)
  have p1 := (own_ints hy.one).1
  have p2 := (own_ints hy.two).1
  replace hb := bt (below_alloc w2 _) hb
  replace hc0 := cell_keep hb hc0; replace hc1 := cell_keep hb hc1; replace hW := bt hW hb; replace r1 := r1.keep hb; replace r2 := r2.keep hb; replace r3 := r3.keep hb; replace q1 := q1.keep hb; replace q2 := q2.keep hb; clear hb
  clear hy
  have hz3 : w1.heap.size < w3.heap.size := World.block_lt_of_cell? w3 _ hc0
  have hz4 : w2.heap.size < w3.heap.size := World.block_lt_of_cell? w3 _ hx0
  go_wp2_with fail
  refine (stateSame_eq _ _ _ _ X1 X2 X1 X2 true _ (q1.alloc _) (q2.alloc _) (p1.alloc _) (p2.alloc _) (by simp)).mono ?_
  rintro e w4 ⟨rfl, hb⟩
  have hy0 := cell_keep hb (p := ⟨w3.heap.size, 0, none⟩) (v := .slice ya1 X1.length yc1) (by simp)
  have hy1 := cell_keep hb (p := ⟨w3.heap.size, 1, none⟩) (v := .slice ya2 X2.length yc2) (by simp)
  replace hb := bt (below_alloc w3 _) hb
  replace hc0 := cell_keep hb hc0; replace hc1 := cell_keep hb hc1; replace hx0 := cell_keep hb hx0; replace hx1 := cell_keep hb hx1; replace hW := bt hW hb; replace r1 := r1.keep hb; replace r2 := r2.keep hb; replace r3 := r3.keep hb; replace q1 := q1.keep hb; replace q2 := q2.keep hb; replace p1 := p1.keep hb; replace p2 := p2.keep hb; clear hb
  by_cases hokt : ok = true
  rotate_left
  · obtain rfl : ok = false := by simpa using hokt
    clear hokt
    go_wp2_with fail
    refine (stateSame_eq _ _ _ _ X1 X2 X1 X2 true _ q1 q2 p1 p2 (by simp)).mono ?_
    rintro e w5 ⟨rfl, hb⟩
    go_wp2
    go_ret
    exact ⟨rfl, bt hW hb⟩
  subst hokt
  have hro : renOk l1 l2 l = true := HX.out.1.symm
  have hvd : validB l1 l2 = true := by simp [renOk] at hro; exact hro.1
  have hnm : namesB l = true := by simp [renOk] at hro; exact hro.2
  have hg := (names_len hnm).2
  have e1 : X1 = renV l l1 := HX.out.2.1.trans (if_pos hro)
  have e2 : X2 = renH l l2 := HX.out.2.2.trans (if_pos hro)
  have hlen := valid_len hvd
  have hbk : renOk X1 X2 (backN l 8) = true := by
    rw [renOk, e1, e2, ren_valid hg hvd, namesB, backN_len, back_good hg]; rfl
  have hbv : renSV X1 X2 (backN l 8) = l1 := by rw [renSV, if_pos hbk, e1, renV_back hg]
  have hbh : renSH X1 X2 (backN l 8) = l2 := by rw [renSH, if_pos hbk, e2, renH_back hlen.2 hg]
  have hus : (usedL X1 X2).length = (usedL l1 l2).length := by
    have hv2 : validB X1 X2 = true := by rw [e1, e2]; exact ren_valid hg hvd
    rw [usedL_of hv2, usedL_of hvd, e2, used_ren hvd hg]
  have HB := Lib.hid (And.intro hbk (And.intro hbv (And.intro hbh hus)))
  have HG := Lib.hid hg
  have ncell : ∀ i, i < 8 → w4.cell? ⟨nb, i, none⟩ = some (.int .i64 (gi l i)) := fun i hi => by
    have := (r3.at i (by rw [HL8.out]; exact hi)).2
    rwa [Nat.zero_add] at this
  have NC := Lib.hid ncell
  clear hro hvd hnm hg e1 e2 hlen hbk hbv hbh hus ncell hy0 hy1 p1 p2
  have hz5 : w1.heap.size < w4.heap.size := World.block_lt_of_cell? w4 _ hc0
  have hz6 : w2.heap.size < w4.heap.size := World.block_lt_of_cell? w4 _ hx0
  go_wp2
  go_loopg [10] 8 (fun q i wr => ∃ k : Nat, k + q = 8 ∧ i = .int .i64 k ∧ wr.heap[w4.heap.size]? = some (.cells (iarr (backN l k)) 3 (0, 0)) ∧ Below w4.heap.size w4 wr)
  case atStart => exact ⟨0, by omega, rfl, heap_alloc_new _ _, below_alloc _ _⟩
  case round =>
    obtain ⟨k, hk, rfl, hrow, hb⟩ := hrel
    have HK := Lib.hid hk
    have HR := Lib.hid hrow
    have hzr := box_lt hrow
    clear hk hrow
    by_cases hk8 : k < 8
    · have hki : (k : Int) < 8 := by omega
      have hga := good_addr hk8 HG.out
      obtain ⟨m, hm⟩ : ∃ m : Nat, gi l k = (m : Int) + 1 := ⟨(gi l k - 1).toNat, by omega⟩
      have hnc := cell_keep hb (NC.out k hk8)
      rw [hm] at hnc
      have hm8 : (m : Int) < 8 := by omega
      have hck := iarr_at HR.out m (by rw [backN_len]; omega)
      have hfz := frozen_of_row wr w4.heap.size m _ _ HR.out
      have HM := Lib.hid hm
      have hnbr := World.block_lt_of_cell? wr _ hnc
      clear hga hm
      go_wp2
      go_roundg (gk - 1)
      case rel =>
        refine ⟨k + 1, by have := HK.out; omega, by go_num, ?_, hb.setCell (by simp) _⟩
        rw [backN, HM.out, show ((m : Int) + 1 - 1).toNat = m by omega]
        exact iarr_set HR.out _ _
      case measure => have := HK.out; omega
    · obtain rfl : k = 8 := by have := HK.out; omega
      have hrb : RInts wr (.slice (some ⟨w4.heap.size, 0, none⟩) 8 8) (backN l 8) :=
        (own_ints (own_of_row (B := 0) (n := 8) (Nat.zero_le _) (backN_len l 8).symm (by unfold maxLen; omega) HR.out)).1
      replace hc0 := cell_keep hb hc0; replace hc1 := cell_keep hb hc1; replace hx0 := cell_keep hb hx0; replace hx1 := cell_keep hb hx1; replace hW := bt hW hb; replace r1 := r1.keep hb; replace r2 := r2.keep hb; replace r3 := r3.keep hb; replace q1 := q1.keep hb; replace q2 := q2.keep hb; clear hb
      have hz7 : w1.heap.size < wr.heap.size := World.block_lt_of_cell? wr _ hc0
      have hz8 : w2.heap.size < wr.heap.size := World.block_lt_of_cell? wr _ hx0
      go_wp2_with fail
      refine (renameStateI_any _ _ _ X1 X2 (backN l 8) _ q1 q2 hrb).mono ?_
      rintro e w5 ⟨t1, t2, rfl, ht, hb⟩
      rw [HB.out.2.1, HB.out.2.2.1] at ht
      rw [HB.out.1]
      obtain ⟨ta1, tc1, rfl, _⟩ := own_form ht.one
      obtain ⟨ta2, tc2, rfl, _⟩ := own_form ht.two
      have t1 := (own_ints ht.one).1
      have t2 := (own_ints ht.two).1
      replace hc0 := cell_keep hb hc0; replace hc1 := cell_keep hb hc1; replace hx0 := cell_keep hb hx0; replace hx1 := cell_keep hb hx1; replace hW := bt hW hb; replace r1 := r1.keep hb; replace r2 := r2.keep hb; replace r3 := r3.keep hb; replace q1 := q1.keep hb; replace q2 := q2.keep hb; clear hb
      clear ht hrb
      go_wp2
      have hy0 : (w5.alloc (.cells #[.slice ta1 l1.length tc1, .slice ta2 l2.length tc2] 27)).cell? ⟨w5.heap.size, 0, none⟩ = some (.slice ta1 l1.length tc1) := cell_new20 _ _ _ _
      have hy1 : (w5.alloc (.cells #[.slice ta1 l1.length tc1, .slice ta2 l2.length tc2] 27)).cell? ⟨w5.heap.size, 1, none⟩ = some (.slice ta2 l2.length tc2) := cell_new21 _ _ _ _
      generalize hw6 : w5.alloc (.cells #[.slice ta1 l1.length tc1, .slice ta2 l2.length tc2] 27) = w6 at *
      have hb6 : Below w5.heap.size w5 w6 := by rw [← hw6]; exact below_alloc _ _
      clear hw6
      replace hc0 := cell_keep hb6 hc0; replace hc1 := cell_keep hb6 hc1; replace hx0 := cell_keep hb6 hx0; replace hx1 := cell_keep hb6 hx1; replace hW := bt hW hb6; replace r1 := r1.keep hb6; replace r2 := r2.keep hb6; replace q1 := q1.keep hb6; replace q2 := q2.keep hb6; replace t1 := t1.keep hb6; replace t2 := t2.keep hb6; clear hb6
      go_region_held3 (fun w' => ((w'.cell? ⟨w5.heap.size, 0, none⟩ = some (.slice ta1 l1.length tc1) ∧ w'.cell? ⟨w5.heap.size, 1, none⟩ = some (.slice ta2 l2.length tc2)) ∧ (w'.cell? ⟨w1.heap.size, 0, none⟩ = some (.slice a1 l1.length c1) ∧ w'.cell? ⟨w1.heap.size, 1, none⟩ = some (.slice a2 l2.length c2))) ∧ (w'.cell? ⟨w2.heap.size, 0, none⟩ = some (.slice xa1 X1.length xc1) ∧ w'.cell? ⟨w2.heap.size, 1, none⟩ = some (.slice xa2 X2.length xc2)))
        (exact ⟨⟨⟨cell_keep (by repeat (first | exact Below.refl _ _ | with_reducible assumption | exact below_alloc _ _ | (refine Below.setCell ?_ (by first | (simp; done) | (simp; omega) | omega) _) | apply bd | apply ba | apply be)) hy0, cell_keep (by repeat (first | exact Below.refl _ _ | with_reducible assumption | exact below_alloc _ _ | (refine Below.setCell ?_ (by first | (simp; done) | (simp; omega) | omega) _) | apply bd | apply ba | apply be)) hy1⟩, ⟨cell_keep (by repeat (first | exact Below.refl _ _ | with_reducible assumption | exact below_alloc _ _ | (refine Below.setCell ?_ (by first | (simp; done) | (simp; omega) | omega) _) | apply bd | apply ba | apply be)) hc0, cell_keep (by repeat (first | exact Below.refl _ _ | with_reducible assumption | exact below_alloc _ _ | (refine Below.setCell ?_ (by first | (simp; done) | (simp; omega) | omega) _) | apply bd | apply ba | apply be)) hc1⟩⟩, ⟨cell_keep (by repeat (first | exact Below.refl _ _ | with_reducible assumption | exact below_alloc _ _ | (refine Below.setCell ?_ (by first | (simp; done) | (simp; omega) | omega) _) | apply bd | apply ba | apply be)) hx0, cell_keep (by repeat (first | exact Below.refl _ _ | with_reducible assumption | exact below_alloc _ _ | (refine Below.setCell ?_ (by first | (simp; done) | (simp; omega) | omega) _) | apply bd | apply ba | apply be)) hx1⟩⟩)
        (first
          | (go_at_call 45; go_must (refine (stateSame_eq _ _ _ _ l1 l2 l1 l2 true _ (t1.keep (by repeat (first | exact Below.refl _ _ | with_reducible assumption | exact below_alloc _ _ | (refine Below.setCell ?_ (by first | (simp; done) | (simp; omega) | omega) _) | apply bd | apply ba | apply be))) (t2.keep (by repeat (first | exact Below.refl _ _ | with_reducible assumption | exact below_alloc _ _ | (refine Below.setCell ?_ (by first | (simp; done) | (simp; omega) | omega) _) | apply bd | apply ba | apply be))) (r1.keep (by repeat (first | exact Below.refl _ _ | with_reducible assumption | exact below_alloc _ _ | (refine Below.setCell ?_ (by first | (simp; done) | (simp; omega) | omega) _) | apply bd | apply ba | apply be))) (r2.keep (by repeat (first | exact Below.refl _ _ | with_reducible assumption | exact below_alloc _ _ | (refine Below.setCell ?_ (by first | (simp; done) | (simp; omega) | omega) _) | apply bd | apply ba | apply be))) (by simp)).mono ?_; rintro e w7 ⟨rfl, hb7'⟩; have hb7 : Below w6.heap.size w6 w7 := bt (by repeat (first | exact Below.refl _ _ | with_reducible assumption | exact below_alloc _ _ | (refine Below.setCell ?_ (by first | (simp; done) | (simp; omega) | omega) _) | apply bd | apply ba | apply be)) hb7'))
          | (go_at_call 46; (with_reducible refine (usedCells_any _ _ X1 X2 _ (q1.keep (by repeat (first | exact Below.refl _ _ | with_reducible assumption | exact below_alloc _ _ | (refine Below.setCell ?_ (by first | (simp; done) | (simp; omega) | omega) _) | apply bd | apply ba | apply be))) (q2.keep (by repeat (first | exact Below.refl _ _ | with_reducible assumption | exact below_alloc _ _ | (refine Below.setCell ?_ (by first | (simp; done) | (simp; omega) | omega) _) | apply bd | apply ba | apply be)))).mono ?_); rintro e w8 ⟨s8, rfl, hs8, hb8'⟩; obtain ⟨sa8, sc8, rfl, _⟩ := own_form hs8; have hb8 : Below w6.heap.size w6 w8 := bt (by repeat (first | exact Below.refl _ _ | with_reducible assumption | exact below_alloc _ _ | (refine Below.setCell ?_ (by first | (simp; done) | (simp; omega) | omega) _) | apply bd | apply ba | apply be)) hb8')
          | (go_at_call 46; go_must (refine (usedCells_any _ _ l1 l2 _ (r1.keep (by repeat (first | exact Below.refl _ _ | with_reducible assumption | exact below_alloc _ _ | (refine Below.setCell ?_ (by first | (simp; done) | (simp; omega) | omega) _) | apply bd | apply ba | apply be))) (r2.keep (by repeat (first | exact Below.refl _ _ | with_reducible assumption | exact below_alloc _ _ | (refine Below.setCell ?_ (by first | (simp; done) | (simp; omega) | omega) _) | apply bd | apply ba | apply be)))).mono ?_; rintro e w9 ⟨s9, rfl, hs9, hb9'⟩; obtain ⟨sa9, sc9, rfl, _⟩ := own_form hs9; have hb9 : Below w6.heap.size w6 w9 := bt (by repeat (first | exact Below.refl _ _ | with_reducible assumption | exact below_alloc _ _ | (refine Below.setCell ?_ (by first | (simp; done) | (simp; omega) | omega) _) | apply bd | apply ba | apply be)) hb9')))
      all_goals
        have hbb := bt hW hb9
        go_wp2
        go_ret
        exact ⟨by rw [HB.out.2.2.2]; simp, hbb⟩
end Go.Proofs.Ytlmhcacgedidbaa
