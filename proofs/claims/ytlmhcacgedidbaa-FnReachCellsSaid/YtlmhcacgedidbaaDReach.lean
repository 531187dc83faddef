/- The walk of the law FnReachCells. -/
import Derived.Test.YtlmhcacgedidbaaSl2
import Derived.Test.YtlmhcacgedidbaaDr7
import Derived.Deep.DeepMust
namespace Go.Proofs.Ytlmhcacgedidbaa
open Go.RowKit

set_option maxHeartbeats 1600000 in
theorem fnReachCells_walk (v : Value) (n : Nat) (w : World) (h : RBytes w v n) :
    Calls Try.prog 9 #[v] w fun e w' => e = .returned (.bool true) ∧ Below w.heap.size w w' := by
  obtain ⟨a, cap, rfl⟩ := bytes_form h
  by_cases hn : n ≤ 1048576
  · go_enter Try.func9, Try.ntmps9
    go_wp2_with fail
    refine (specDrawReachCells_any _ n _ h).mono ?_
    rintro e w1 ⟨u1, u2, l1, l2, t, rfl, hl1, hl2, ht1, ht2, hst, hW⟩
    obtain ⟨a1, c1, rfl⟩ := (own_ints hst.one).1.form
    obtain ⟨a2, c2, rfl⟩ := (own_ints hst.two).1.form
    have r1 := (own_ints hst.one).1
    have r2 := (own_ints hst.two).1
    clear hst
    go_wp2_with fail
    refine (reachCells_any _ _ l1 l2 t _ (r1.alloc _) (r2.alloc _)).mono ?_
    rintro e w2 ⟨x, rfl, hx, hb⟩
    have hc0 := cell_keep hb (p := ⟨w1.heap.size, 0, none⟩) (v := .slice a1 l1.length c1) (by simp)
    have hc1 := cell_keep hb (p := ⟨w1.heap.size, 1, none⟩) (v := .slice a2 l2.length c2) (by simp)
    have hb1 := bt (below_alloc w1 _) hb
    have rx := (own_ints hx).1
    have hzw := hW.size
    replace hW := bt hW hb1
    have hLL : (reachL l1 l2 t).length ≤ 9 := by
      have hL := sel_len (fun n => (reachF l2 0 t).testBit n) 1 8
      unfold reachL; split
      · omega
      · simp
    generalize hL : reachL l1 l2 t = L at *
    obtain ⟨xa, xc, rfl⟩ := rx.form
    clear hb hx
    go_wp2_with fail
    refine (specReachCells_any _ _ l1 l2 t _ (r1.keep hb1) (r2.keep hb1)).mono ?_
    rintro e w3 ⟨y, rfl, hy, hb⟩
    rw [hL] at hy
    replace hc0 := cell_keep hb hc0
    replace hc1 := cell_keep hb hc1
    replace hb1 := bt hb1 hb
    replace hW := bt hW hb
    replace rx := rx.keep hb
    have ry := (own_ints hy).1
    clear hb hy
    go_wp2_with fail
    refine (slInts_any _ _ L L _ rx ry).mono ?_
    rintro e w4 ⟨rfl, hb⟩
    replace hc0 := cell_keep hb hc0
    replace hc1 := cell_keep hb hc1
    replace hb1 := bt hb1 hb
    replace hW := bt hW hb
    replace rx := rx.keep hb
    clear hb ry
    rw [show decide (L = L) = true from by simp]
    have HL := Lib.hid hL
    clear hL
    have hrd : ∀ x, x ∈ L → readB l1 l2 x = true ∧ (readB l1 l2 (readV l1 l2 x) = true → decide (readV l1 l2 x ∈ L) = true) := fun x hx => by
      rw [← HL.out] at hx ⊢
      exact ⟨reach_read hx, fun h => by simpa using reach_next hx h⟩
    have hfi : decide (t ∈ L) = readB l1 l2 t := by rw [← HL.out]; exact reach_first _ _ _
    have hem : readB l1 l2 t = false → L.length = 0 := fun h => by rw [← HL.out, reach_empty h]; rfl
    have HRD := Lib.hid (And.intro hrd (And.intro hfi hem))
    obtain ⟨xa', xc', hxe, hxcell⟩ := rx.cells
    obtain ⟨rfl, rfl⟩ : xa = xa' ∧ xc = xc' := by
      injection hxe with h1 h2 h3
      exact ⟨h1, h3⟩
    have HXC := Lib.hid hxcell
    have hz1 : w1.heap.size < w4.heap.size := World.block_lt_of_cell? w4 _ hc0
    clear hrd hfi hem hxe hxcell
    go_wp2
    go_loopg [6] L.length (fun q i wr => ∃ j : Nat, j + q = L.length ∧ i = .int .i64 j ∧ Below w4.heap.size w4 wr)
    case atStart => exact ⟨0, by omega, rfl, Below.refl _ _⟩
    case round =>
      obtain ⟨j, hk, rfl, hb⟩ := hrel
      have HK := Lib.hid hk
      clear hk
      replace hc0 := cell_keep hb hc0
      replace hc1 := cell_keep hb hc1
      have hb1r := bt hb1 hb
      have hWr := bt hW hb
      have rxr := rx.keep hb
      have q1 := r1.keep hb1r
      have q2 := r2.keep hb1r
      by_cases hj9 : j < L.length
      · obtain ⟨xb, xo, rfl, hxb, hxc⟩ := HXC.out j hj9
        have hcj := cell_keep hb hxc
        have hji : (j : Int) < (L.length : Int) := by omega
        have hxL : gi L j ∈ L := by rw [gi_of hj9]; exact List.getElem_mem hj9
        obtain ⟨hr1, hr2⟩ := HRD.out.1 _ hxL
        clear hxL hxc
        have hz1r : w1.heap.size < wr.heap.size := World.block_lt_of_cell? wr _ hc0
        have hxbr : xb < wr.heap.size := World.block_lt_of_cell? wr _ hcj
        go_wp2
        refine wp_region_ext (by kernel_rfl) (by kernel_rfl) ?_
        repeat (go_big_quiet_step ((go_at_call 35; exact ext_c (readCell_any _ _ l1 l2 _ _ (q1.ext _) (q2.ext _)))))
        refine wpQuiet_nil ?_
        intro w5 hb5
        replace hc0 := cell_keep hb5 hc0
        replace hc1 := cell_keep hb5 hc1
        replace q1 := q1.keep hb5
        replace q2 := q2.keep hb5
        replace rxr := rxr.keep hb5
        have hbr := bt hb hb5
        replace hz1r : w1.heap.size < w5.heap.size := World.block_lt_of_cell? w5 _ hc0
        clear hb5 hcj
        go_wp2_with fail
        refine (readCell_any _ _ l1 l2 _ _ q1 q2).mono ?_
        rintro e w6 ⟨rfl, hb6⟩
        replace rxr := rxr.keep hb6
        have hb6r := bt hbr hb6
        clear hb6 hc0 hc1 q1 q2
        cases hnx : readB l1 l2 (readV l1 l2 (gi L j)) with
        | true =>
          have hd := hr2 hnx
          go_wp2_with (go_at_call 28; refine (slHas_eq _ L _ true _ rxr hd).mono ?_; rintro e w7 ⟨rfl, hb7⟩)
          go_roundg (gk - 1)
          case rel => exact ⟨j + 1, by have := HK.out; omega, by go_num, bt hb6r hb7⟩
          case measure => have := HK.out; omega
        | false =>
          go_wp2
          go_roundg (gk - 1)
          case rel => exact ⟨j + 1, by have := HK.out; omega, by go_num, hb6r⟩
          case measure => have := HK.out; omega
      · have hfi := HRD.out.2.1
        go_wp2_with fail
        refine (readCell_any _ _ l1 l2 _ _ q1 q2).mono ?_
        rintro e w6 ⟨rfl, hb6⟩
        replace rxr := rxr.keep hb6
        replace hWr := bt hWr hb6
        clear hb6 hc0 hc1 q1 q2
        cases hnx : readB l1 l2 t with
        | true =>
          have hd : decide (t ∈ L) = true := by rw [hfi, hnx]
          clear hfi
          go_wp2_with (go_at_call 28; refine (slHas_eq _ L _ true _ rxr hd).mono ?_; rintro e w7 ⟨rfl, hb7⟩)
          go_ret
          exact ⟨rfl, bt hWr hb7⟩
        | false =>
          have hd : decide (t ∈ L) = false := by rw [hfi, hnx]
          have h0 := HRD.out.2.2 hnx
          have h0' : ((L.length : Int) == 0) = true := by rw [h0]; rfl
          clear hfi h0
          go_wp2_with (go_at_call 28; refine (slHas_eq _ L _ false _ rxr hd).mono ?_; rintro e w7 ⟨rfl, hb7⟩)
          go_ret
          exact ⟨rfl, bt hWr hb7⟩
  · go_enter Try.func9, Try.ntmps9
    go_wp2
    go_ret
    exact ⟨rfl, Below.refl _ _⟩
end Go.Proofs.Ytlmhcacgedidbaa
