/- The walk of the law FnAliasTerms. -/
import Derived.Test.YtlmhcacgedidbaaSl2
import Derived.Test.YtlmhcacgedidbaaDr7
import Derived.Deep.DeepMust
namespace Go.Proofs.Ytlmhcacgedidbaa
open Go.RowKit

theorem alias_mem {vl hl : List Int} {t : Int} (hv : validB vl hl = true) (ht : isTermB t = true) (k : Int) : decide (k ∈ aliasL vl hl t) = testB vl hl true t k := by
  have : k ∈ aliasL vl hl t ↔ (0 ≤ k ∧ k ≤ 8) ∧ tv vl t = tv vl k := by
    rw [aliasL, if_pos ⟨hv, ht⟩, mem_sel]
    constructor
    · rintro ⟨i, rfl, _, h9, hp⟩
      simp [aliasP] at hp
      exact ⟨by omega, hp.symm⟩
    · rintro ⟨h, he⟩
      refine ⟨k.toNat, by omega, by omega, by omega, ?_⟩
      have e : ((k.toNat : Nat) : Int) = k := by omega
      simp [aliasP, e, he]
  rw [Bool.eq_iff_iff]
  simp only [decide_eq_true_eq, this, testB, hv, ht]
  simp [isTermB]
theorem alias_same {vl hl : List Int} {t k : Int} (hv : validB vl hl = true) (ht : isTermB t = true) (hk : k ∈ aliasL vl hl t) : aliasL vl hl k = aliasL vl hl t := by
  have h := hk
  rw [aliasL, if_pos ⟨hv, ht⟩, mem_sel] at h
  obtain ⟨i, rfl, _, h9, hp⟩ := h
  have hi : isTermB (i : Int) = true := isTermB_iff.2 (by omega)
  rw [aliasL, aliasL, if_pos ⟨hv, hi⟩, if_pos ⟨hv, ht⟩]
  simp [aliasP] at hp
  exact sel_congr fun j _ _ => by simp [aliasP, hp]

set_option maxHeartbeats 1600000 in
theorem fnAliasTerms_walk (v : Value) (n : Nat) (w : World) (h : RBytes w v n) :
    Calls Try.prog 5 #[v] w fun e w' => e = .returned (.bool true) ∧ Below w.heap.size w w' := by
  obtain ⟨a, cap, rfl⟩ : ∃ a cap, v = .slice a n cap := by
    obtain ⟨_, hr, _⟩ := h
    rcases hr with ⟨a, cap, rfl, h0, _⟩ | ⟨b, o, cap, rfl, _⟩
    · exact ⟨a, cap, by rw [h0]⟩
    · exact ⟨_, cap, rfl⟩
  by_cases hn : n ≤ 1048576
  · go_enter Try.func5, Try.ntmps5
    go_wp2_with fail
    refine (specDrawAliasTerms_any _ n _ h).mono ?_
    rintro e w1 ⟨u1, u2, l1, l2, t, rfl, hl1, hl2, ht1, ht2, hst, hW⟩
    obtain ⟨a1, c1, rfl⟩ := (own_ints hst.one).1.form
    obtain ⟨a2, c2, rfl⟩ := (own_ints hst.two).1.form
    have r1 := (own_ints hst.one).1
    have r2 := (own_ints hst.two).1
    clear hst
    go_wp2_with fail
    refine (aliasTerms_any _ _ l1 l2 t _ (r1.alloc _) (r2.alloc _)).mono ?_
    rintro e w2 ⟨x, rfl, hx, hb⟩
    have hc0 := cell_keep hb (p := ⟨w1.heap.size, 0, none⟩) (v := .slice a1 l1.length c1) (by simp)
    have hc1 := cell_keep hb (p := ⟨w1.heap.size, 1, none⟩) (v := .slice a2 l2.length c2) (by simp)
    have hb1 := bt (below_alloc w1 _) hb
    have rx := (own_ints hx).1
    have hzw := hW.size
    replace hW := bt hW hb1
    have hLL : (aliasL l1 l2 t).length ≤ 9 := by
      have hL := sel_len (aliasP l1 t) 0 9
      unfold aliasL; split <;> simp_all
    generalize hL : aliasL l1 l2 t = L at *
    obtain ⟨xa, xc, rfl⟩ := rx.form
    clear hb hx
    go_wp2_with fail
    refine (specAliasTerms_any _ _ l1 l2 t _ (r1.keep hb1) (r2.keep hb1)).mono ?_
    rintro e w3 ⟨y, rfl, hy, hb⟩
    rw [hL] at hy
    replace hc0 := cell_keep hb hc0
    replace hc1 := cell_keep hb hc1
    replace hb1 := bt hb1 hb
    replace hW := bt hW hb
    replace rx := rx.keep hb
    have ry := (own_ints hy).1
    clear hb hy
    go_wp2_with fail
    refine (slInts_any _ _ L L _ rx ry).mono ?_
    rintro e w4 ⟨rfl, hb⟩
    replace hc0 := cell_keep hb hc0
    replace hc1 := cell_keep hb hc1
    replace hb1 := bt hb1 hb
    replace hW := bt hW hb
    replace rx := rx.keep hb
    clear hb ry
    rw [show decide (L = L) = true from by simp]
    have HL := Lib.hid hL
    clear hL
    by_cases hemp : L.length = 0
    · have hemp' : ((L.length : Int) == 0) = true := by rw [hemp]; rfl
      clear hemp
      go_wp2_with fail
      refine (specAliasTerms_any _ _ l1 l2 t _ (r1.keep hb1) (r2.keep hb1)).mono ?_
      rintro e w5 ⟨y, rfl, hy, hb⟩
      rw [HL.out] at hy
      replace hW := bt hW hb
      replace rx := rx.keep hb
      have ry := (own_ints hy).1
      clear hb hy hc0 hc1
      go_wp2_with fail
      refine (slInts_any _ _ L L _ rx ry).mono ?_
      rintro e w6 ⟨rfl, hb⟩
      replace hW := bt hW hb
      rw [show decide (L = L) = true from by simp]
      go_wp2
      go_ret
      exact ⟨rfl, hW⟩
    · have hvt : validB l1 l2 = true ∧ isTermB t = true := by
        by_cases hh : validB l1 l2 = true ∧ isTermB t = true
        · exact hh
        · have := HL.out
          rw [aliasL, if_neg hh] at this
          rw [← this] at hemp; simp at hemp
      have HV := Lib.hid hvt
      have hne : ((L.length : Int) == 0) = false := by simp; intro h; rw [h] at hemp; exact hemp rfl
      clear hvt hemp
      have hz1 : w1.heap.size < w4.heap.size := World.block_lt_of_cell? w4 _ hc0
      go_wp2
      go_loopg [6] 9 (fun k i wr => ∃ j : Nat, j + k = 9 ∧ i = .int .i64 j ∧ Below w4.heap.size w4 wr)
      case atStart => exact ⟨0, by omega, rfl, Below.refl _ _⟩
      case round =>
        obtain ⟨j, hk, rfl, hb⟩ := hrel
        have HK := Lib.hid hk
        clear hk
        replace hc0 := cell_keep hb hc0
        replace hc1 := cell_keep hb hc1
        have hb1r := bt hb1 hb
        have hWr := bt hW hb
        have rxr := rx.keep hb
        have q1 := r1.keep hb1r
        have q2 := r2.keep hb1r
        have hzr : w1.heap.size < wr.heap.size := World.block_lt_of_cell? wr _ hc0
        by_cases hj9 : j < 9
        · by_cases hm : (j : Int) ∈ L
          · have hd : decide ((j : Int) ∈ L) = true := by simpa using hm
            have ht : testB l1 l2 true t (j : Int) = true := by rw [← alias_mem HV.out.1 HV.out.2, HL.out]; exact hd
            have hs : aliasL l1 l2 (j : Int) = L := by rw [← HL.out]; exact alias_same HV.out.1 HV.out.2 (by rw [HL.out]; exact hm)
            have HS := Lib.hid hs
            clear hm hs
            go_wp2
            go_region_held3 (fun w' => w'.cell? ⟨w1.heap.size, 0, none⟩ = some (.slice a1 l1.length c1) ∧ w'.cell? ⟨w1.heap.size, 1, none⟩ = some (.slice a2 l2.length c2))
              (first
                | exact ⟨hc0, hc1⟩
                | exact ⟨cell_keep hb6 hc0, cell_keep hb6 hc1⟩
                | exact ⟨cell_keep hb7 hc0, cell_keep hb7 hc1⟩
                | exact ⟨cell_keep hb8 hc0, cell_keep hb8 hc1⟩
                | exact ⟨cell_keep hb9 hc0, cell_keep hb9 hc1⟩
                | exact ⟨cell_keep hb10 hc0, cell_keep hb10 hc1⟩)
              (first
                | (go_at_call 27; refine (slInts_any _ _ L L _ ry (rxr.keep hb9)).mono ?_; rintro e w10 ⟨rfl, hb10'⟩; have hb10 := bt hb9 hb10'; rw [show decide (L = L) = true from by simp])
                | (go_at_call 18; refine (aliasTerms_any _ _ l1 l2 _ _ (q1.keep hb8) (q2.keep hb8)).mono ?_; rintro e w9 ⟨y, rfl, hy, hb9'⟩; rw [HS.out] at hy; have ry := (own_ints hy).1; have hb9 := bt hb8 hb9')
                | (go_at_call 28; refine (slHas_any _ L _ _ (rxr.keep hb7)).mono ?_; rintro e w8 ⟨rfl, hb8'⟩; rw [hd]; have hb8 := bt hb7 hb8')
                | (go_at_call 29; refine (testHolds_any _ _ l1 l2 _ _ _ _ (q1.keep hb6) (q2.keep hb6)).mono ?_; rintro e w7 ⟨rfl, hb7'⟩; rw [ht]; have hb7 := bt hb6 hb7')
                | (go_at_call 28; refine (slHas_any _ L _ _ (rxr.keep (below_drew _))).mono ?_; rintro e w6 ⟨rfl, hb6'⟩; rw [hd]; have hb6 := bt (below_drew wr) hb6')
                | (go_at_call 28; refine (slHas_any _ L _ _ rxr).mono ?_; rintro e w6 ⟨rfl, hb6⟩; rw [hd]))
            clear hb6 hb7 hb8 hb9 hb6' hb7' hb8' hb9' hb10' hc0 hc1 ry hd ht
            go_wp2
            go_roundg (gk - 1)
            case rel => exact ⟨j + 1, by have := HK.out; omega, by go_num, bt hb hb10⟩
            case measure => have := HK.out; omega
          · have hd : decide ((j : Int) ∈ L) = false := by simpa using hm
            have ht : testB l1 l2 true t (j : Int) = false := by rw [← alias_mem HV.out.1 HV.out.2, HL.out]; exact hd
            clear hm
            go_wp2
            refine wp_region_ext (by kernel_rfl) (by kernel_rfl) ?_
            repeat (go_big_quiet_step ((first
              | (go_at_call 28; exact ext_c (slHas_eq _ L _ _ _ (rxr.ext _) hd))
              | (go_at_call 29; exact ext_c (testHolds_eq _ _ l1 l2 _ _ _ _ _ (q1.ext _) (q2.ext _) ht)))))
            refine wpQuiet_nil ?_
            intro w8 hb8
            clear hc0 hc1 hd ht
            go_wp2
            go_roundg (gk - 1)
            case rel => exact ⟨j + 1, by have := HK.out; omega, by go_num, hb.trans (hb8.mono hb.size)⟩
            case measure => have := HK.out; omega
        · have hd : decide (t ∈ L) = true := by
            have h := alias_mem HV.out.1 HV.out.2 t
            rw [HL.out] at h
            rw [h, testB, HV.out.1, HV.out.2]; simp
          have HD := Lib.hid hd
          clear hd
          go_wp2_with fail
          refine (slHas_any _ L _ _ rxr).mono ?_
          rintro e w6 ⟨rfl, hb6⟩
          go_wp2
          go_ret
          exact ⟨by rw [HD.out]; rfl, bt hWr hb6⟩
  · go_enter Try.func5, Try.ntmps5
    go_wp2
    go_ret
    exact ⟨rfl, Below.refl _ _⟩
end Go.Proofs.Ytlmhcacgedidbaa
