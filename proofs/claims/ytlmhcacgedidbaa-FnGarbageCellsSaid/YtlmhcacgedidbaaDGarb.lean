/- The walk of the law FnGarbageCells. -/
import Derived.Test.YtlmhcacgedidbaaFree
import Derived.Test.YtlmhcacgedidbaaDMath3
import Derived.Test.YtlmhcacgedidbaaW11
import Derived.Test.YtlmhcacgedidbaaDr7
namespace Go.Proofs.Ytlmhcacgedidbaa
open Go.RowKit

set_option maxHeartbeats 1600000 in
theorem fnGarbageCells_walk (v : Value) (n : Nat) (w : World) (h : RBytes w v n) :
    Calls Try.prog 11 #[v] w fun e w' => e = .returned (.bool true) ∧ Below w.heap.size w w' := by
  obtain ⟨a, cap, rfl⟩ := bytes_form h
  by_cases hn : n ≤ 1048576
  · go_enter Try.func11, Try.ntmps11
    go_wp2_with fail
    refine (specDrawGarbageCells_any _ n _ h).mono ?_
    rintro e w1 ⟨u1, u2, l1, l2, rfl, hl1, hl2, hst, hW⟩
    obtain ⟨a1, c1, rfl⟩ := (own_ints hst.one).1.form
    obtain ⟨a2, c2, rfl⟩ := (own_ints hst.two).1.form
    have r1 := (own_ints hst.one).1
    have r2 := (own_ints hst.two).1
    clear hst
    go_wp2_with fail
    refine (garbageCells_any _ _ l1 l2 _ (r1.alloc _) (r2.alloc _)).mono ?_
    rintro e w2 ⟨x, rfl, hx, hb⟩
    have hc0 := cell_keep hb (p := ⟨w1.heap.size, 0, none⟩) (v := .slice a1 l1.length c1) (by simp)
    have hc1 := cell_keep hb (p := ⟨w1.heap.size, 1, none⟩) (v := .slice a2 l2.length c2) (by simp)
    have hb1 := bt (below_alloc w1 _) hb
    have rx := (own_ints hx).1
    have hzw := hW.size
    replace hW := bt hW hb1
    generalize hL : garbageL l1 l2 = L at *
    obtain ⟨xa, xc, rfl⟩ := rx.form
    clear hb hx
    have hLL : L.length ≤ 9 := by
      have h9 := sel_len (garbageP l1 l2) 1 8
      rw [← hL]; unfold garbageL; split
      · omega
      · simp
    by_cases hL0 : L.length = 0
    · obtain rfl : L = [] := List.eq_nil_of_length_eq_zero hL0
      have HL := Lib.hid hL
      clear hL hL0 hLL
      go_wp2_with fail
      refine (specGarbageCells_any _ _ l1 l2 _ (r1.keep hb1) (r2.keep hb1)).mono ?_
      rintro e w3 ⟨y, rfl, hy, hb⟩
      rw [HL.out] at hy
      replace hc0 := cell_keep hb hc0
      replace hc1 := cell_keep hb hc1
      replace hb1 := bt hb1 hb
      replace hW := bt hW hb
      replace rx := rx.keep hb
      have ry := (own_ints hy).1
      clear hb hy
      go_wp2_with fail
      refine (slInts_any _ _ [] [] _ rx ry).mono ?_
      rintro e w4 ⟨rfl, hb⟩
      replace hc0 := cell_keep hb hc0
      replace hc1 := cell_keep hb hc1
      replace hb1 := bt hb1 hb
      replace hW := bt hW hb
      replace rx := rx.keep hb
      clear hb ry
      rw [show decide (([] : List Int) = []) = true from by simp]
      go_wp2_with fail
      refine (specGarbageCells_any _ _ l1 l2 _ (r1.keep hb1) (r2.keep hb1)).mono ?_
      rintro e w5 ⟨y, rfl, hy, hb⟩
      rw [HL.out] at hy
      replace hW := bt hW hb; replace rx := rx.keep hb; clear hb
      have ry := (own_ints hy).1
      clear hy hc0 hc1
      go_wp2_with fail
      refine (slInts_any _ _ [] [] _ rx ry).mono ?_
      rintro e w6 ⟨rfl, hb⟩
      go_wp2
      go_ret
      exact ⟨rfl, bt hW hb⟩
    · have hLz : ((L.length : Int) == 0) = false := by rw [beq_eq_false_iff_ne]; omega
      have hvd : validB l1 l2 = true := by
        cases hh : validB l1 l2 with
        | true => rfl
        | false => rw [← hL, garbageL, hh] at hL0; simp at hL0
      have HVD := Lib.hid hvd
      have HL := Lib.hid hL
      have hlen := valid_len hvd
      have HLEN := Lib.hid hlen
      clear hvd hL hlen
      go_wp2_with fail
      refine (specGarbageCells_any _ _ l1 l2 _ (r1.keep hb1) (r2.keep hb1)).mono ?_
      rintro e w3 ⟨y, rfl, hy, hb⟩
      rw [HL.out] at hy
      replace hc0 := cell_keep hb hc0; replace hc1 := cell_keep hb hc1; replace hb1 := bt hb1 hb; replace hW := bt hW hb; replace rx := rx.keep hb; clear hb
      have ry := (own_ints hy).1
      clear hy
      go_wp2_with fail
      refine (slInts_any _ _ L L _ rx ry).mono ?_
      rintro e w4 ⟨rfl, hb⟩
      replace hc0 := cell_keep hb hc0; replace hc1 := cell_keep hb hc1; replace hb1 := bt hb1 hb; replace hW := bt hW hb; replace rx := rx.keep hb; clear hb
      clear ry
      rw [show decide (L = L) = true from by simp]
      go_wp2_with fail
      obtain ⟨_, _, hv1, hcl1⟩ := (r1.keep hb1).cells
      obtain ⟨vb, vo, hvb, _, _⟩ := hcl1 0 (by have := HLEN.out; omega)
      injection hv1 with e1 e2 e3
      rw [← e1] at hvb
      subst hvb
      clear hcl1 e1 e2 e3
      obtain ⟨_, _, hv2, hcl2⟩ := rx.cells
      obtain ⟨lb, lo, hlb, _, _⟩ := hcl2 0 (by omega)
      injection hv2 with e1 e2 e3
      rw [← e1] at hlb
      subst hlb
      clear hcl2 e1 e2 e3
      have hz1 : w1.heap.size < w4.heap.size := World.block_lt_of_cell? w4 _ hc0
      have hvc : ∀ j, j < 4 → w4.cell? ⟨vb, vo + j, none⟩ = some (.int .i64 (gi l1 j)) := fun j hj => ((r1.keep hb1).at j (by have := HLEN.out; omega)).2
      have HVC := Lib.hid hvc
      have hlc : ∀ m, m < L.length → w4.cell? ⟨lb, lo + m, none⟩ = some (.int .i64 (gi L m)) := fun m hm => (rx.at m hm).2
      have HLC := Lib.hid hlc
      clear hlc
      have hl8 : 8 ≤ l1.length := by have := HLEN.out; omega
      clear hvc
      go_loopg [5] 4 (fun q i wr => ∃ j : Nat, j + q = 4 ∧ i = .int .i64 ((j : Int) + 1) ∧ Below w4.heap.size w4 wr)
      case atStart => exact ⟨0, by omega, rfl, Below.refl _ _⟩
      case round =>
        obtain ⟨j, hk, rfl, hb⟩ := hrel
        obtain ⟨wo, rfl⟩ : ∃ wo : World, wo = wr := ⟨_, rfl⟩
        obtain ⟨g0, rfl⟩ : ∃ g0 : Nat, g0 = gk := ⟨_, rfl⟩
        have HK := Lib.hid hk
        clear hk
        have hd0 := cell_keep hb hc0
        have hd1 := cell_keep hb hc1
        have hb1r := bt hb1 hb
        have hWr := bt hW hb
        have rxr := rx.keep hb
        have q1 := r1.keep hb1r
        have q2 := r2.keep hb1r
        by_cases hj4 : j < 4
        · have hdj := cell_keep hb (HVC.out j hj4)
          have hji : (j : Int) < (l1.length : Int) := by omega
          have hw0 : IntKind.i64.wrap (j : Int) = (j : Int) := IntWalk.i64_in _ (by omega)
          have hw1 : IntKind.i64.wrap ((j : Int) + 1 - 1) = (j : Int) := by rw [Int.add_sub_cancel]; exact hw0
          have hz1r : w1.heap.size < wo.heap.size := World.block_lt_of_cell? wo _ hd0
          have hvbr : vb < wo.heap.size := World.block_lt_of_cell? wo _ hdj
          go_wp2
          go_region_held3 (fun w' => (w'.cell? ⟨w1.heap.size, 0, none⟩ = some (.slice (some ⟨vb, vo, none⟩) l1.length c1) ∧ w'.cell? ⟨w1.heap.size, 1, none⟩ = some (.slice a2 l2.length c2)) ∧ w'.cell? ⟨vb, vo + j, none⟩ = some (.int .i64 (gi l1 j)))
            (first
              | exact ⟨⟨hd0, hd1⟩, hdj⟩
              | exact ⟨⟨cell_keep hb7 hd0, cell_keep hb7 hd1⟩, cell_keep hb7 hdj⟩)
            ((go_at_call 25; go_must (refine (reachCells_any _ _ l1 l2 _ _ (q1.keep (by repeat (first | exact Below.refl _ _ | with_reducible assumption | apply bd | apply ba | apply be))) (q2.keep (by repeat (first | exact Below.refl _ _ | with_reducible assumption | apply bd | apply ba | apply be)))).mono ?_; rintro e w7 ⟨z, rfl, hz, hb7'⟩; have rz := (own_ints hz).1; have hb7 : Below wo.heap.size wo w7 := bt (by repeat (first | exact Below.refl _ _ | with_reducible assumption | apply bd | apply ba | apply be)) hb7')))
          have hD : ∀ m, m < L.length → decide (gi L m ∈ reachL l1 l2 (gi l1 j)) = false := by
            intro m hm
            have h1 := garb_not (vl := l1) (hl := l2) (y := gi L m) (by rw [HL.out, gi_of hm]; exact List.getElem_mem hm) hj4
            rw [show tv l1 ((j : Int) + 1) = gi l1 j from by unfold tv; rw [if_neg (by omega)]; congr 1; omega] at h1
            simpa using h1
          have HD := Lib.hid hD
          clear hD
          go_wp2
          go_loopg [7] L.length (fun q i wr => ∃ m : Nat, m + q = L.length ∧ i = .int .i64 m ∧ Below w7.heap.size w7 wr)
          case atStart => exact ⟨0, by omega, rfl, Below.refl _ _⟩
          case round =>
            obtain ⟨m, hm, rfl, hbi⟩ := hrel
            have HM := Lib.hid hm
            clear hm
            have hbb := bt hb (bt hb7 hbi)
            by_cases hmL : m < L.length
            · have hcm := cell_keep hbb (HLC.out m hmL)
              have hmi : (m : Int) < (L.length : Int) := by omega
              go_wp2_with fail
              refine (slHas_eq _ (reachL l1 l2 (gi l1 j)) (gi L m) false _ (rz.keep hbi) (HD.out m hmL)).mono ?_
              rintro e w8 ⟨rfl, hb8⟩
              go_wp2
              go_roundg (gk - 1)
              case rel => exact ⟨m + 1, by have := HM.out; omega, by go_num, bt hbi hb8⟩
              case measure => have := HM.out; omega
            · go_wp2
              go_roundg (g0 - 1)
              case rel => exact ⟨j + 1, by have := HK.out; omega, by go_num, hbb⟩
              case measure => have := HK.out; omega
        · have hcm := cell_keep hb (HLC.out 0 (by omega))
          rw [Nat.add_zero] at hcm
          have hL2 : 0 < L.length := by omega
          have hcl : L.length ≤ xc ∧ xc ≤ maxLen := by
            rcases rx with ⟨_, _, _, h0, _⟩ | ⟨_, _, _, hh, h1, h2, _⟩
            · omega
            · injection hh with e1 e2 e3; subst e3; exact ⟨h1, h2⟩
          have hL1 : 1 ≤ L.length := by omega
          have hli : (0 : Int) < (L.length : Int) := by omega
          obtain ⟨y0, rest, hLe⟩ : ∃ y0 rest, L = y0 :: rest := by
            cases L with
            | nil => simp at hL0
            | cons y0 rest => exact ⟨y0, rest, rfl⟩
          have hg0 : gi L 0 = y0 := by rw [hLe]; rfl
          have hal : alB l2 (gi L 0) = true := by
            have : y0 ∈ garbageL l1 l2 := by rw [HL.out, hLe]; exact List.mem_cons_self
            rw [hg0]; exact (mem_garbageL.1 this).2.2.2.1
          have hlast : garbageL l1 (l2.set (gi L 0 - 1).toNat (-1)) = rest := by
            rw [hg0]; exact garb_free (HL.out.trans hLe)
          have HA := Lib.hid (And.intro hal (And.intro hlast hLe))
          clear hal hlast hLe hg0
          have hl9 : l2.length ≤ 1048576 := by omega
          have hlp : 0 < l1.length ∧ 0 < l2.length := by have := HLEN.out; omega
          go_wp2
          go_region_held3 (fun w' => (w'.cell? ⟨w1.heap.size, 0, none⟩ = some (.slice (some ⟨vb, vo, none⟩) l1.length c1) ∧ w'.cell? ⟨w1.heap.size, 1, none⟩ = some (.slice a2 l2.length c2)) ∧ w'.cell? ⟨lb, lo, none⟩ = some (.int .i64 (gi L 0)))
            (exact ⟨⟨cell_keep (by go_grown) hd0, cell_keep (by go_grown) hd1⟩, cell_keep (by go_grown) hcm⟩)
            ((go_at_call 41; go_must ((refine (freeCell_yes _ _ l1 l2 _ _ (q1.keep (by go_grown)) (q2.keep (by go_grown)) HVD.out HA.out.1).mono ?_); rintro e w7 ⟨x1, x2, rfl, hst, hb7'⟩; have hb7 : Below wo.heap.size wo w7 := bt (by go_grown) hb7'; have hs7 := hb7.size; obtain ⟨p1, d1, rfl, hp1, hpz1⟩ := own_at hst.one hlp.1; obtain ⟨p2, d2, hpe, hp2, hpz2⟩ := own_at hst.two (by rw [List.length_set]; exact hlp.2); rw [List.length_set] at hpe; subst hpe; (try (have hbx0 : w7.cell? ⟨wo.heap.size, 0, none⟩ = some (.slice none 0 0) := (by first | exact cell_keep hb7' (cell_new20 _ _ _ _) | exact cell_keep hb7' (cell_new20d _ _ _ _)))); (try (have hbx1 : w7.cell? ⟨wo.heap.size, 1, none⟩ = some (.slice none 0 0) := (by first | exact cell_keep hb7' (cell_new21 _ _ _ _) | exact cell_keep hb7' (cell_new21d _ _ _ _)))); (try (have hs8 := World.block_lt_of_cell? w7 _ hbx0; have hbf : ∀ i, w7.frozen? ⟨wo.heap.size, i, none⟩ = false := fun i => (by first | exact (hb7'.frozen (p := ⟨wo.heap.size, i, none⟩) (lt_new _ _)).trans (free_new2 _ _ _ _) | exact (hb7'.frozen (p := ⟨wo.heap.size, i, none⟩) (lt_new _ _)).trans (free_new2d _ _ _ _)))))))
          · have hcy := cell_keep hb7 hcm
            have hst9 := Lib.hid hst
            clear hst
            go_wp2
            have hb9 : Below wo.heap.size wo (w7.alloc (.cells #[.slice (some ⟨p1, 0, none⟩) l1.length d1, .slice (some ⟨p2, 0, none⟩) l2.length d2] 27)) := (by go_grown)
            have o9 : OwnSt (w7.alloc (.cells #[.slice (some ⟨p1, 0, none⟩) l1.length d1, .slice (some ⟨p2, 0, none⟩) l2.length d2] 27)) wo.heap.size (.slice (some ⟨p1, 0, none⟩) l1.length d1) (.slice (some ⟨p2, 0, none⟩) l2.length d2) l1 (l2.set (gi L 0 - 1).toNat (-1)) := (hst9.out.mono (B' := wo.heap.size) (by simp)).keep (below_alloc _ _)
            have hk0 : (w7.alloc (.cells #[.slice (some ⟨p1, 0, none⟩) l1.length d1, .slice (some ⟨p2, 0, none⟩) l2.length d2] 27)).cell? ⟨w7.heap.size, 0, none⟩ = some (.slice (some ⟨p1, 0, none⟩) l1.length d1) := cell_new20 _ _ _ _
            have hk1 : (w7.alloc (.cells #[.slice (some ⟨p1, 0, none⟩) l1.length d1, .slice (some ⟨p2, 0, none⟩) l2.length d2] 27)).cell? ⟨w7.heap.size, 1, none⟩ = some (.slice (some ⟨p2, 0, none⟩) l2.length d2) := cell_new21 _ _ _ _
            generalize (w7.alloc (.cells #[.slice (some ⟨p1, 0, none⟩) l1.length d1, .slice (some ⟨p2, 0, none⟩) l2.length d2] 27)) = w9 at *
            have q9 := (own_ints o9.one).1
            have q9' := (own_ints o9.two).1
            have rxx := (rxr.keep hb9)
            clear o9
            have hI1 : (1 : Int) ≤ (L.length : Int) := by omega
            have hI2 : (L.length : Int) ≤ (xc : Int) := by omega
            have hI3 : (1 : Int) ≤ (xc : Int) := by omega
            have hI4 : L.length ≤ xc := hcl.1
            by_cases hx1 : xc = 1
            · subst hx1
              have hLr := HA.out.2.2
              have hrn : rest = [] := by
                have : L.length = rest.length + 1 := by rw [hLr]; rfl
                exact List.eq_nil_of_length_eq_zero (by omega)
              have HRN := Lib.hid hrn
              clear hLr hrn
              go_region_held3 (fun w' => w'.cell? ⟨w7.heap.size, 0, none⟩ = some (.slice (some ⟨p1, 0, none⟩) l1.length d1) ∧ w'.cell? ⟨w7.heap.size, 1, none⟩ = some (.slice (some ⟨p2, 0, none⟩) l2.length d2))
                (exact ⟨cell_keep (by go_grown) hk0, cell_keep (by go_grown) hk1⟩)
                (first
                  | (go_at_call 34; go_must ((refine (garbageCells_any _ _ l1 (l2.set (gi L 0 - 1).toNat (-1)) _ (q9.keep (by go_grown)) (q9'.keep (by go_grown))).mono ?_); rintro e wa ⟨xg, rfl, hxg, hba'⟩; have hba : Below w9.heap.size w9 wa := bt (by go_grown) hba'; rw [HA.out.2.1] at hxg))
                  | (go_at_call 27; go_must ((refine (slInts_any _ _ rest rest _ (own_ints hxg).1 (by rw [HRN.out]; exact rints_zero (Nat.zero_le _))).mono ?_); rintro e wb ⟨rfl, hbb'⟩; have hbb : Below w9.heap.size w9 wb := bt hba hbb')))
              all_goals
                go_wp2
                go_ret
                exact ⟨by simp, bt hWr (bt hb9 hbb)⟩
            have hx2 : 1 < xc := by omega
            have hLr := HA.out.2.2
            have rt : RInts w9 (.slice (some ⟨lb, lo + 1, none⟩) (L.length - 1) (xc - 1)) rest :=
              rints_tail (y := y0) (n := L.length) (c := xc) (by rw [← hLr]; exact rxx) (by rw [hLr]; simp) (by omega) (by omega)
            clear hLr
            go_region_held3 (fun w' => w'.cell? ⟨w7.heap.size, 0, none⟩ = some (.slice (some ⟨p1, 0, none⟩) l1.length d1) ∧ w'.cell? ⟨w7.heap.size, 1, none⟩ = some (.slice (some ⟨p2, 0, none⟩) l2.length d2))
              (exact ⟨cell_keep (by go_grown) hk0, cell_keep (by go_grown) hk1⟩)
              (first
                | (go_at_call 34; go_must ((refine (garbageCells_any _ _ l1 (l2.set (gi L 0 - 1).toNat (-1)) _ (q9.keep (by go_grown)) (q9'.keep (by go_grown))).mono ?_); rintro e wa ⟨xg, rfl, hxg, hba'⟩; have hba : Below w9.heap.size w9 wa := bt (by go_grown) hba'; rw [HA.out.2.1] at hxg))
                | (go_at_call 27; go_must ((refine (slInts_any _ _ rest rest _ (own_ints hxg).1 (rt.keep (by go_grown))).mono ?_); rintro e wb ⟨rfl, hbb'⟩; have hbb : Below w9.heap.size w9 wb := bt hba hbb')))
            all_goals
              go_wp2
              go_ret
              exact ⟨by simp, bt hWr (bt hb9 hbb)⟩
          · have hcy := cell_keep hb7 hcm
            have hst9 := Lib.hid hst
            clear hst
            go_wp2
            have hb9 : Below wo.heap.size wo ((w7.setCell ⟨wo.heap.size, 0, none⟩ (.slice (some ⟨p1, 0, none⟩) l1.length d1)).setCell ⟨wo.heap.size, 1, none⟩ (.slice (some ⟨p2, 0, none⟩) l2.length d2)) := (by go_grown)
            have o9 : OwnSt ((w7.setCell ⟨wo.heap.size, 0, none⟩ (.slice (some ⟨p1, 0, none⟩) l1.length d1)).setCell ⟨wo.heap.size, 1, none⟩ (.slice (some ⟨p2, 0, none⟩) l2.length d2)) wo.heap.size (.slice (some ⟨p1, 0, none⟩) l1.length d1) (.slice (some ⟨p2, 0, none⟩) l2.length d2) l1 (l2.set (gi L 0 - 1).toNat (-1)) := (((hst9.out.mono (B' := wo.heap.size + 1) (by simp)).kept (fr_set _ _ _) (fun j h1 _ e => by simp at e; omega)).kept (fr_set _ _ _) (fun j h1 _ e => by simp at e; omega)).mono (by omega)
            have hk0 : ((w7.setCell ⟨wo.heap.size, 0, none⟩ (.slice (some ⟨p1, 0, none⟩) l1.length d1)).setCell ⟨wo.heap.size, 1, none⟩ (.slice (some ⟨p2, 0, none⟩) l2.length d2)).cell? ⟨wo.heap.size, 0, none⟩ = some (.slice (some ⟨p1, 0, none⟩) l1.length d1) := (box_two _ _ hbx0 hbx1).1
            have hk1 : ((w7.setCell ⟨wo.heap.size, 0, none⟩ (.slice (some ⟨p1, 0, none⟩) l1.length d1)).setCell ⟨wo.heap.size, 1, none⟩ (.slice (some ⟨p2, 0, none⟩) l2.length d2)).cell? ⟨wo.heap.size, 1, none⟩ = some (.slice (some ⟨p2, 0, none⟩) l2.length d2) := (box_two _ _ hbx0 hbx1).2
            generalize ((w7.setCell ⟨wo.heap.size, 0, none⟩ (.slice (some ⟨p1, 0, none⟩) l1.length d1)).setCell ⟨wo.heap.size, 1, none⟩ (.slice (some ⟨p2, 0, none⟩) l2.length d2)) = w9 at *
            have q9 := (own_ints o9.one).1
            have q9' := (own_ints o9.two).1
            have rxx := (rxr.keep hb9)
            clear o9
            have hI1 : (1 : Int) ≤ (L.length : Int) := by omega
            have hI2 : (L.length : Int) ≤ (xc : Int) := by omega
            have hI3 : (1 : Int) ≤ (xc : Int) := by omega
            have hI4 : L.length ≤ xc := hcl.1
            by_cases hx1 : xc = 1
            · subst hx1
              have hLr := HA.out.2.2
              have hrn : rest = [] := by
                have : L.length = rest.length + 1 := by rw [hLr]; rfl
                exact List.eq_nil_of_length_eq_zero (by omega)
              have HRN := Lib.hid hrn
              clear hLr hrn
              go_region_held3 (fun w' => w'.cell? ⟨wo.heap.size, 0, none⟩ = some (.slice (some ⟨p1, 0, none⟩) l1.length d1) ∧ w'.cell? ⟨wo.heap.size, 1, none⟩ = some (.slice (some ⟨p2, 0, none⟩) l2.length d2))
                (exact ⟨cell_keep (by go_grown) hk0, cell_keep (by go_grown) hk1⟩)
                (first
                  | (go_at_call 34; go_must ((refine (garbageCells_any _ _ l1 (l2.set (gi L 0 - 1).toNat (-1)) _ (q9.keep (by go_grown)) (q9'.keep (by go_grown))).mono ?_); rintro e wa ⟨xg, rfl, hxg, hba'⟩; have hba : Below w9.heap.size w9 wa := bt (by go_grown) hba'; rw [HA.out.2.1] at hxg))
                  | (go_at_call 27; go_must ((refine (slInts_any _ _ rest rest _ (own_ints hxg).1 (by rw [HRN.out]; exact rints_zero (Nat.zero_le _))).mono ?_); rintro e wb ⟨rfl, hbb'⟩; have hbb : Below w9.heap.size w9 wb := bt hba hbb')))
              all_goals
                go_wp2
                go_ret
                exact ⟨by simp, bt hWr (bt hb9 hbb)⟩
            have hx2 : 1 < xc := by omega
            have hLr := HA.out.2.2
            have rt : RInts w9 (.slice (some ⟨lb, lo + 1, none⟩) (L.length - 1) (xc - 1)) rest :=
              rints_tail (y := y0) (n := L.length) (c := xc) (by rw [← hLr]; exact rxx) (by rw [hLr]; simp) (by omega) (by omega)
            clear hLr
            go_region_held3 (fun w' => w'.cell? ⟨wo.heap.size, 0, none⟩ = some (.slice (some ⟨p1, 0, none⟩) l1.length d1) ∧ w'.cell? ⟨wo.heap.size, 1, none⟩ = some (.slice (some ⟨p2, 0, none⟩) l2.length d2))
              (exact ⟨cell_keep (by go_grown) hk0, cell_keep (by go_grown) hk1⟩)
              (first
                | (go_at_call 34; go_must ((refine (garbageCells_any _ _ l1 (l2.set (gi L 0 - 1).toNat (-1)) _ (q9.keep (by go_grown)) (q9'.keep (by go_grown))).mono ?_); rintro e wa ⟨xg, rfl, hxg, hba'⟩; have hba : Below w9.heap.size w9 wa := bt (by go_grown) hba'; rw [HA.out.2.1] at hxg))
                | (go_at_call 27; go_must ((refine (slInts_any _ _ rest rest _ (own_ints hxg).1 (rt.keep (by go_grown))).mono ?_); rintro e wb ⟨rfl, hbb'⟩; have hbb : Below w9.heap.size w9 wb := bt hba hbb')))
            all_goals
              go_wp2
              go_ret
              exact ⟨by simp, bt hWr (bt hb9 hbb)⟩
  · go_enter Try.func11, Try.ntmps11
    go_wp2
    go_ret
    exact ⟨rfl, Below.refl _ _⟩
end Go.Proofs.Ytlmhcacgedidbaa
