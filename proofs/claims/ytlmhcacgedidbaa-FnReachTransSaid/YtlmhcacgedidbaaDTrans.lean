/- The walk of the law FnReachTrans. -/
import Derived.Test.YtlmhcacgedidbaaSl2
import Derived.Test.YtlmhcacgedidbaaDr7
import Derived.Deep.DeepMust
namespace Go.Proofs.Ytlmhcacgedidbaa
open Go.RowKit

set_option maxHeartbeats 1600000 in
theorem fnReachTrans_walk (v : Value) (n : Nat) (vm : Value) (nm : Nat) (w : World) (h : RBytes w v n) (hm : RBytes w vm nm) :
    Calls Try.prog 7 #[v, vm] w fun e w' => e = .returned (.bool true) ∧ Below w.heap.size w w' := by
  obtain ⟨a, cap, rfl⟩ := bytes_form h
  obtain ⟨am, capm, rfl⟩ := bytes_form hm
  by_cases hn : n ≤ 1048576
  · by_cases hnm : nm ≤ 1048576
    rotate_left
    · go_enter Try.func7, Try.ntmps7
      go_wp2
      go_ret
      exact ⟨rfl, Below.refl _ _⟩
    go_enter Try.func7, Try.ntmps7
    go_wp2_with fail
    refine (specDrawReachCells_any _ n _ h).mono ?_
    rintro e w1 ⟨u1, u2, l1, l2, t, rfl, hl1, hl2, ht1, ht2, hst, hW⟩
    obtain ⟨a1, c1, rfl⟩ := (own_ints hst.one).1.form
    obtain ⟨a2, c2, rfl⟩ := (own_ints hst.two).1.form
    have r1 := (own_ints hst.one).1
    have r2 := (own_ints hst.two).1
    clear hst
    go_wp2_with fail
    refine (reachCells_any _ _ l1 l2 t _ (r1.alloc _) (r2.alloc _)).mono ?_
    rintro e w2 ⟨x, rfl, hx, hb⟩
    have hc0 := cell_keep hb (p := ⟨w1.heap.size, 0, none⟩) (v := .slice a1 l1.length c1) (by simp)
    have hc1 := cell_keep hb (p := ⟨w1.heap.size, 1, none⟩) (v := .slice a2 l2.length c2) (by simp)
    have hb1 := bt (below_alloc w1 _) hb
    have rx := (own_ints hx).1
    have hzw := hW.size
    replace hW := bt hW hb1
    have hLL : (reachL l1 l2 t).length ≤ 9 := by
      have hL := sel_len (fun n => (reachF l2 0 t).testBit n) 1 8
      unfold reachL; split
      · omega
      · simp
    generalize hL : reachL l1 l2 t = L at *
    obtain ⟨xa, xc, rfl⟩ := rx.form
    clear hb hx
    go_wp2_with fail
    refine (specReachCells_any _ _ l1 l2 t _ (r1.keep hb1) (r2.keep hb1)).mono ?_
    rintro e w3 ⟨y, rfl, hy, hb⟩
    rw [hL] at hy
    replace hc0 := cell_keep hb hc0
    replace hc1 := cell_keep hb hc1
    replace hb1 := bt hb1 hb
    replace hW := bt hW hb
    replace rx := rx.keep hb
    have ry := (own_ints hy).1
    clear hb hy
    go_wp2_with fail
    refine (slInts_any _ _ L L _ rx ry).mono ?_
    rintro e w4 ⟨rfl, hb⟩
    replace hc0 := cell_keep hb hc0
    replace hc1 := cell_keep hb hc1
    replace hb1 := bt hb1 hb
    replace hW := bt hW hb
    replace rx := rx.keep hb
    clear hb ry
    rw [show decide (L = L) = true from by simp]
    have HL := Lib.hid hL
    clear hL
    by_cases hemp : L.length = 0
    · have hemp' : ((L.length : Int) == 0) = true := by rw [hemp]; rfl
      clear hemp
      go_wp2_with fail
      refine (specReachCells_any _ _ l1 l2 t _ (r1.keep hb1) (r2.keep hb1)).mono ?_
      rintro e w5 ⟨y, rfl, hy, hb⟩
      rw [HL.out] at hy
      replace hW := bt hW hb
      replace rx := rx.keep hb
      have ry := (own_ints hy).1
      clear hb hy hc0 hc1
      go_wp2_with fail
      refine (slInts_any _ _ L L _ rx ry).mono ?_
      rintro e w6 ⟨rfl, hb⟩
      replace hW := bt hW hb
      rw [show decide (L = L) = true from by simp]
      go_wp2
      go_ret
      exact ⟨rfl, hW⟩
    · have hne : ((L.length : Int) == 0) = false := by simp; intro h; rw [h] at hemp; exact hemp rfl
      have hLp : 0 < L.length := by omega
      clear hemp
      have hz1 : w1.heap.size < w4.heap.size := World.block_lt_of_cell? w4 _ hc0
      obtain ⟨xb, xo, xc', hxe, _, _, hxcell⟩ := rx.ne hLp
      obtain ⟨rfl, rfl⟩ : xa = some ⟨xb, xo, none⟩ ∧ xc = xc' := by
        injection hxe with h1 h2 h3
        exact ⟨h1, h3⟩
      obtain ⟨k, hkm, hkl⟩ : ∃ k : Nat, (nm : Int).tmod (L.length : Int) = (k : Int) ∧ k < L.length := ⟨nm % L.length, by rw [Int.tmod_eq_emod_of_nonneg (by omega)]; rfl, Nat.mod_lt _ hLp⟩
      have hck := hxcell k hkl
      have hki : (k : Int) < (L.length : Int) := by omega
      have hx : gi L k ∈ L := by rw [gi_of hkl]; exact List.getElem_mem hkl
      have HX := Lib.hid hx
      have hn0 : ¬ (L.length : Int) = 0 := by omega
      have hnil : ¬ L = [] := by intro h; rw [h] at hLp; simp at hLp
      clear hx hxe hxcell
      go_wp2
      go_region_held3 (fun w' => (w'.cell? ⟨w1.heap.size, 0, none⟩ = some (.slice a1 l1.length c1) ∧ w'.cell? ⟨w1.heap.size, 1, none⟩ = some (.slice a2 l2.length c2)) ∧ w'.cell? ⟨xb, xo + k, none⟩ = some (.int .i64 (gi L k)))
        (first
          | exact ⟨⟨hc0, hc1⟩, hck⟩
          | exact ⟨⟨cell_keep hb5 hc0, cell_keep hb5 hc1⟩, cell_keep hb5 hck⟩)
        (first
          | (go_at_call 25; refine (reachCells_any _ _ l1 l2 _ _ (r1.keep (bt hb1 (below_drew _))) (r2.keep (bt hb1 (below_drew _)))).mono ?_; rintro e w5 ⟨z, rfl, hz, hb5'⟩; have hb5 := bt (below_drew w4) hb5')
          | (go_at_call 25; refine (reachCells_any _ _ l1 l2 _ _ (r1.keep hb1) (r2.keep hb1)).mono ?_; rintro e w5 ⟨z, rfl, hz, hb5⟩))
      have hxL : gi L k ∈ reachL l1 l2 t := by rw [HL.out]; exact HX.out
      have hNp := reach_pos hxL
      have hNm : ∀ i, i < (reachL l1 l2 (gi L k)).length → decide (gi (reachL l1 l2 (gi L k)) i ∈ L) = true := fun i hi => by
        simp only [decide_eq_true_eq]
        rw [← HL.out]
        exact reach_trans hxL (by rw [HL.out, gi_of hi]; exact List.getElem_mem hi)
      generalize reachL l1 l2 (gi L k) = N at *
      have rz := (own_ints hz).1
      obtain ⟨zb, zo, zc, rfl, _, _, hzc⟩ := rz.ne hNp
      have HNM := Lib.hid (And.intro hNm hzc)
      have HWr := bt hW hb5
      have rx5 := rx.keep hb5
      have hNm63 := rz.len
      unfold maxLen at hNm63
      clear hxL hNm hzc hc0 hc1 hck hz rx hb5 hkm hki hn0 hnil hne
      go_wp2
      go_loopg [9] N.length (fun q i wr => ∃ j : Nat, j + q = N.length ∧ i = .int .i64 j ∧ Below w5.heap.size w5 wr)
      case atStart => exact ⟨0, by omega, rfl, Below.refl _ _⟩
      case round =>
        obtain ⟨j, hk, rfl, hb⟩ := hrel
        have HK := Lib.hid hk
        clear hk
        by_cases hj9 : j < N.length
        · have hcj := cell_keep hb (HNM.out.2 j hj9)
          have hd := HNM.out.1 j hj9
          have hji : (j : Int) < (N.length : Int) := by omega
          go_wp2_with (go_at_call 28; refine (slHas_eq _ L _ true _ (rx5.keep hb) hd).mono ?_; rintro e w6 ⟨rfl, hb6⟩)
          go_roundg (gk - 1)
          case rel => exact ⟨j + 1, by have := HK.out; omega, by go_num, bt hb hb6⟩
          case measure => have := HK.out; omega
        · obtain rfl : j = N.length := by have := HK.out; omega
          have hNi : (0 : Int) < (N.length : Int) := by omega
          go_wp2
          go_ret
          exact ⟨by simp, bt HWr hb⟩
  · go_enter Try.func7, Try.ntmps7
    go_wp2
    go_ret
    exact ⟨rfl, Below.refl _ _⟩
end Go.Proofs.Ytlmhcacgedidbaa
