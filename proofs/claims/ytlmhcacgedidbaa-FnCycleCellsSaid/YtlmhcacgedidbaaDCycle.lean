/- The walk of the law FnCycleCells. -/
import Derived.Test.YtlmhcacgedidbaaSl3
import Derived.Test.YtlmhcacgedidbaaW11
import Derived.Test.YtlmhcacgedidbaaDr7
import Derived.Deep.DeepMust
namespace Go.Proofs.Ytlmhcacgedidbaa
open Go.RowKit

set_option maxHeartbeats 1600000 in
theorem fnCycleCells_walk (v : Value) (n : Nat) (w : World) (h : RBytes w v n) :
    Calls Try.prog 12 #[v] w fun e w' => e = .returned (.bool true) ∧ Below w.heap.size w w' := by
  obtain ⟨a, cap, rfl⟩ := bytes_form h
  by_cases hn : n ≤ 1048576
  · go_enter Try.func12, Try.ntmps12
    go_wp2_with fail
    refine (specDrawCycleCells_any _ n _ h).mono ?_
    rintro e w1 ⟨u1, u2, l1, l2, rfl, hl1, hl2, hst, hW⟩
    obtain ⟨a1, c1, rfl⟩ := (own_ints hst.one).1.form
    obtain ⟨a2, c2, rfl⟩ := (own_ints hst.two).1.form
    have r1 := (own_ints hst.one).1
    have r2 := (own_ints hst.two).1
    clear hst
    go_wp2_with fail
    refine (cycleCells_any _ _ l1 l2 _ (r1.alloc _) (r2.alloc _)).mono ?_
    rintro e w2 ⟨x, rfl, hx, hb⟩
    have hc0 := cell_keep hb (p := ⟨w1.heap.size, 0, none⟩) (v := .slice a1 l1.length c1) (by simp)
    have hc1 := cell_keep hb (p := ⟨w1.heap.size, 1, none⟩) (v := .slice a2 l2.length c2) (by simp)
    have hb1 := bt (below_alloc w1 _) hb
    have rx := (own_ints hx).1
    have hzw := hW.size
    replace hW := bt hW hb1
    have hLL : (cycleL l1 l2).length ≤ 9 := by
      have hL := sel_len (cycleP l2) 1 8
      unfold cycleL; split
      · omega
      · simp
    generalize hL : cycleL l1 l2 = L at *
    obtain ⟨xa, xc, rfl⟩ := rx.form
    clear hb hx
    go_wp2_with fail
    refine (specCycleCells_any _ _ l1 l2 _ (r1.keep hb1) (r2.keep hb1)).mono ?_
    rintro e w3 ⟨y, rfl, hy, hb⟩
    rw [hL] at hy
    replace hc0 := cell_keep hb hc0
    replace hc1 := cell_keep hb hc1
    replace hb1 := bt hb1 hb
    replace hW := bt hW hb
    replace rx := rx.keep hb
    have ry := (own_ints hy).1
    clear hb hy
    go_wp2_with fail
    refine (slInts_any _ _ L L _ rx ry).mono ?_
    rintro e w4 ⟨rfl, hb⟩
    replace hc0 := cell_keep hb hc0
    replace hc1 := cell_keep hb hc1
    replace hb1 := bt hb1 hb
    replace hW := bt hW hb
    replace rx := rx.keep hb
    clear hb ry
    rw [show decide (L = L) = true from by simp]
    have HL := Lib.hid hL
    clear hL
    have HRD : Hid (∀ x, x ∈ L → x ∈ cycleL l1 l2) := Lib.hid (fun x hx => by rw [HL.out]; exact hx)
    obtain ⟨xa', xc', hxe, hxcell⟩ := rx.cells
    obtain ⟨rfl, rfl⟩ : xa = xa' ∧ xc = xc' := by
      injection hxe with h1 h2 h3
      exact ⟨h1, h3⟩
    have HXC := Lib.hid hxcell
    have hz1 : w1.heap.size < w4.heap.size := World.block_lt_of_cell? w4 _ hc0
    clear hxe hxcell
    go_wp2
    go_loopg [5] L.length (fun q i wr => ∃ j : Nat, j + q = L.length ∧ i = .int .i64 j ∧ Below w4.heap.size w4 wr)
    case atStart => exact ⟨0, by omega, rfl, Below.refl _ _⟩
    case round =>
      obtain ⟨j, hk, rfl, hb⟩ := hrel
      have HK := Lib.hid hk
      clear hk
      replace hc0 := cell_keep hb hc0
      replace hc1 := cell_keep hb hc1
      have hb1r := bt hb1 hb
      have hWr := bt hW hb
      have rxr := rx.keep hb
      have q1 := r1.keep hb1r
      have q2 := r2.keep hb1r
      by_cases hj9 : j < L.length
      · obtain ⟨xb, xo, rfl, hxb, hxc⟩ := HXC.out j hj9
        have hcj := cell_keep hb hxc
        have hji : (j : Int) < (L.length : Int) := by omega
        have hxL : gi L j ∈ L := by rw [gi_of hj9]; exact List.getElem_mem hj9
        have hcy := HRD.out _ hxL
        have hr1 := cyc_read hcy
        have hre := cyc_reach hcy
        have hvd := (mem_cycleL hcy).1
        have hfa := isTermB_iff.2 (show 0 ≤ gi L j ∧ gi L j ≤ 8 by have := al_addr (mem_cycleL hcy).2.1; omega)
        have hd : decide (gi L j ∈ reachL l1 l2 (readV l1 l2 (gi L j))) = true := by simpa using hre
        have HD := Lib.hid hd
        have HW := Lib.hid (And.intro hvd (And.intro hfa hcy))
        clear hxL hxc hcy hre hvd hfa hd
        have hz1r : w1.heap.size < wr.heap.size := World.block_lt_of_cell? wr _ hc0
        have hxbr : xb < wr.heap.size := World.block_lt_of_cell? wr _ hcj
        go_wp2
        refine wp_region_ext (by kernel_rfl) (by kernel_rfl) ?_
        repeat (go_big_quiet_step ((go_at_call 43; exact ext_c (walkCells_never _ _ l1 l2 (gi L j) 0 _ (q1.ext _) (q2.ext _) HW.out.1 HW.out.2.1 (by decide) (onWay l2 (gi L j)) (way_start HW.out.2.2) (fun v hv => ⟨hv.1, by have := way_pos hv; simp; omega, way_next HW.out.2.2 hv⟩)))))
        refine wpQuiet_nil ?_
        intro w5 hb5
        replace hc0 := cell_keep hb5 hc0
        replace hc1 := cell_keep hb5 hc1
        replace hcj := cell_keep hb5 hcj
        replace q1 := q1.keep hb5
        replace q2 := q2.keep hb5
        have hbr := bt hb hb5
        replace hz1r : w1.heap.size < w5.heap.size := World.block_lt_of_cell? w5 _ hc0
        replace hxbr : xb < w5.heap.size := World.block_lt_of_cell? w5 _ hcj
        clear hb5
        go_wp2
        refine wp_region_ext (by kernel_rfl) (by kernel_rfl) ?_
        repeat (go_big_quiet_step ((go_at_call 35; exact ext_c (readCell_any _ _ l1 l2 _ _ (q1.ext _) (q2.ext _)))))
        refine wpQuiet_nil ?_
        intro w6 hb6
        replace hc0 := cell_keep hb6 hc0
        replace hc1 := cell_keep hb6 hc1
        replace hcj := cell_keep hb6 hcj
        replace q1 := q1.keep hb6
        replace q2 := q2.keep hb6
        replace hbr := bt hbr hb6
        replace hz1r : w1.heap.size < w6.heap.size := World.block_lt_of_cell? w6 _ hc0
        replace hxbr : xb < w6.heap.size := World.block_lt_of_cell? w6 _ hcj
        clear hb6
        go_wp2
        go_region_held3 (fun w' => (w'.cell? ⟨w1.heap.size, 0, none⟩ = some (.slice a1 l1.length c1) ∧ w'.cell? ⟨w1.heap.size, 1, none⟩ = some (.slice a2 l2.length c2)) ∧ w'.cell? ⟨xb, xo + j, none⟩ = some (.int .i64 (gi L j)))
          (first
            | exact ⟨⟨hc0, hc1⟩, hcj⟩
            | exact ⟨⟨cell_keep hb7 hc0, cell_keep hb7 hc1⟩, cell_keep hb7 hcj⟩
            | exact ⟨⟨cell_keep hb8 hc0, cell_keep hb8 hc1⟩, cell_keep hb8 hcj⟩)
          (first
            | (go_at_call 28; refine (slHas_eq _ (reachL l1 l2 (readV l1 l2 (gi L j))) _ true _ rz HD.out).mono ?_; rintro e w8 ⟨rfl, hb8'⟩; have hb8 := bt hb7 hb8')
            | (go_at_call 25; refine (reachCells_any _ _ l1 l2 _ _ (q1.keep (below_drew _)) (q2.keep (below_drew _))).mono ?_; rintro e w7 ⟨z, rfl, hz, hb7'⟩; have rz := (own_ints hz).1; have hb7 := bt (below_drew w6) hb7')
            | (go_at_call 25; refine (reachCells_any _ _ l1 l2 _ _ q1 q2).mono ?_; rintro e w7 ⟨z, rfl, hz, hb7⟩; have rz := (own_ints hz).1))
        all_goals
          have hbR := bt hbr hb8
          clear hb7 hb8 hc0 hc1 hcj rz hz q1 q2
          go_wp2
          go_roundg (gk - 1)
          case rel => exact ⟨j + 1, by have := HK.out; omega, by go_num, hbR⟩
          case measure => have := HK.out; omega
      · go_wp2
        go_ret
        exact ⟨rfl, hWr⟩
  · go_enter Try.func12, Try.ntmps12
    go_wp2
    go_ret
    exact ⟨rfl, Below.refl _ _⟩
end Go.Proofs.Ytlmhcacgedidbaa
