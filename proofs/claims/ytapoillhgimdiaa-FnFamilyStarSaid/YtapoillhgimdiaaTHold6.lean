/- Walks: the part of a state that an assertion describes. -/
import Derived.Test.YtapoillhgimdiaaTHold5
namespace Go.Proofs.Ytapoillhgimdiaa
open Go.RowKit

theorem drop_gd {α : Type} [Inhabited α] {l : List α} {k : Nat} (h : k < l.length) : l.drop k = gd l k :: l.drop (k + 1) := by
  rw [List.drop_eq_getElem_cons h, gd_of h]
/-- Cells added to a set one by one. -/
def addsC (m : Nat) : List Int → Option Nat
  | [] => some m
  | n :: r => if hasB m n = true then none else addsC (m ||| 2 ^ n.toNat) r
/-- The cells of atoms added to a set. -/
def partP (vl hs : List Int) (m : Nat) : List Atom → Option Nat
  | [] => some m
  | x :: r => if cellsB vl hs x = true then (match addsC m (cellsL vl hs x) with | none => none | some m' => partP vl hs m' r) else none
/-- The part of a state that an assertion describes. -/
def partO (vl hs : List Int) (a : Asn) : Option Nat :=
  if (validB vl hs && (asnB a && a.1.all (factT vl))) = true then partP vl hs 0 a.2 else none
def setN (o : Option Nat) : Nat := o.getD 0

theorem addsC_step {m k : Nat} {l : List Int} (h : k < l.length) (hn : hasB m (gi l k) = false) : addsC m (l.drop k) = addsC (m ||| 2 ^ (gi l k).toNat) (l.drop (k + 1)) := by
  rw [drop_gd h, ← gi_gd, addsC, hn]; rfl
theorem addsC_stop {m k : Nat} {l : List Int} (h : k < l.length) (hn : hasB m (gi l k) = true) : addsC m (l.drop k) = none := by
  rw [drop_gd h, ← gi_gd, addsC, hn]; rfl
theorem partP_bad {vl hs : List Int} {m k : Nat} {l : List Atom} (h : k < l.length) (hc : cellsB vl hs (gd l k) = false) : partP vl hs m (l.drop k) = none := by
  rw [drop_gd h, partP, hc]; rfl
theorem partP_none {vl hs : List Int} {m k : Nat} {l : List Atom} (h : k < l.length) (hc : cellsB vl hs (gd l k) = true) (ha : addsC m (cellsL vl hs (gd l k)) = none) : partP vl hs m (l.drop k) = none := by
  rw [drop_gd h, partP, hc, ha]; rfl
theorem partP_some {vl hs : List Int} {m m' k : Nat} {l : List Atom} (h : k < l.length) (hc : cellsB vl hs (gd l k) = true) (ha : addsC m (cellsL vl hs (gd l k)) = some m') : partP vl hs m (l.drop k) = partP vl hs m' (l.drop (k + 1)) := by
  rw [drop_gd h, partP, hc, ha]; rfl

theorem way_mem {hs : List Int} {t : Int} : ∀ (k : Nat) (a : Int) (l : List Int), wayN hs t k a = some l → ∀ x ∈ l, alB hs x = true
  | 0, a, l, h, x, hx => by
    unfold wayN at h
    split at h
    · simp at h; subst h; simp at hx
    · simp at h
  | k + 1, a, l, h, x, hx => by
    unfold wayN at h
    split at h
    · simp at h; subst h; simp at hx
    · split at h
      · rename_i ha
        obtain ⟨l', hl', rfl⟩ := Option.map_eq_some_iff.1 h
        rcases List.mem_cons.1 hx with rfl | hx
        · exact ha
        · exact way_mem k _ l' hl' x hx
      · simp at h
theorem cells_mem {vl hs : List Int} {x : Atom} (hv : validB vl hs = true) (hx : atomB x = true) (hc : cellsB vl hs x = true) : ∀ n ∈ cellsL vl hs x, alB hs n = true := by
  intro n hn
  obtain ⟨t1, t2, t3, t4⟩ := atomB_le hx
  have ht := tv_term hv t3 t4
  unfold cellsB at hc
  unfold cellsL at hn
  split at hc
  · rename_i h2
    rw [if_pos h2] at hn
    unfold wayB at hc
    unfold wayL at hn
    obtain ⟨l, hl⟩ := Option.isSome_iff_exists.1 hc
    rw [hl] at hn
    exact way_mem _ _ _ hl n hn
  · rename_i h2
    rw [if_neg h2, if_pos hc] at hn
    simp at hn
    subst hn
    have := isTermB_iff.1 ht
    have e : ct hs (tv vl x.2.1) = tv vl x.2.2 := by simpa using hc
    unfold alB; rw [e]; simp; omega
theorem asn_atom {a : Asn} (h : asnB a = true) (k : Nat) (hk : k < a.2.length) : atomB (gd a.2 k) = true := by
  simp only [asnB, Bool.and_eq_true] at h
  exact all_of h.2.2 k hk
theorem asn_facts {a : Asn} (h : asnB a = true) : factsB a.1 = true := by
  simp only [asnB, Bool.and_eq_true] at h
  exact h.1

set_option maxRecDepth 100000 in
set_option maxHeartbeats 3200000 in
theorem partOf_any {S1 S2 : Nat → Prop} (vs hv v1 v2 : Value) (vl hs : List Int) (a : Asn) (w : World) (h1 : RInts w vs vl) (h2 : RInts w hv hs) (r1 : RL w S1 v1 a.1) (r2 : RL w S2 v2 a.2) :
    Calls Try.prog 145 #[.agg #[vs, hv], .agg #[v1, v2]] w fun e w' => e = .returned (.tuple #[.int .u16 (setN (partO vl hs a)), .bool (partO vl hs a).isSome]) ∧ Below w.heap.size w w' := by
  obtain ⟨va1, vc1, rfl⟩ := h1.form
  obtain ⟨va2, vc2, rfl⟩ := h2.form
  obtain ⟨xa1, xc1, rfl⟩ := r1.form
  have hR2 := Lib.hid r2
  have hm := r2.len
  unfold maxLen at hm
  obtain ⟨xa2, xc2, rfl, _, _, hf⟩ := r2.atomAt
  have F1 := Lib.hid hf
  clear hf
  cases hvd : validB vl hs
  · have HR := Lib.hid (show partO vl hs a = none by simp [partO, hvd])
    have HV := Lib.hid hvd
    clear hvd
    go_enter Try.func145, Try.ntmps145
    go_wp2_with fail
    refine (cb (stateValid_any _ _ vl hs _ ((h1.alloc _).alloc _) ((h2.alloc _).alloc _)) HV.out).mono ?_
    rintro e w1 ⟨rfl, hb1⟩
    go_wp2
    go_ret2
    exact ⟨by rw [HR.out]; rfl, bt Bl hb1⟩
  cases hav : asnB a
  · have HR := Lib.hid (show partO vl hs a = none by simp [partO, hvd, hav])
    have HV := Lib.hid (And.intro hvd hav)
    clear hvd hav
    go_enter Try.func145, Try.ntmps145
    go_wp2_with fail
    refine (cb (stateValid_any _ _ vl hs _ ((h1.alloc _).alloc _) ((h2.alloc _).alloc _)) HV.out.1).mono ?_
    rintro e w1 ⟨rfl, hb1⟩
    have hc2 := cell_keep hb1 (p := ⟨w.heap.size + 1, 0, none⟩) (v := .slice xa1 a.1.length xc1) (by simp [go_sem])
    have hc3 := cell_keep hb1 (p := ⟨w.heap.size + 1, 1, none⟩) (v := .slice xa2 a.2.length xc2) (by simp [go_sem])
    have hb01 : Below w.heap.size w w1 := bt Bl hb1
    go_wp2_with fail
    refine (cb (asnValidI_any _ _ a _ (r1.keep hb01) (hR2.out.keep hb01)) HV.out.2).mono ?_
    rintro e w2 ⟨rfl, hb2⟩
    go_wp2
    go_ret2
    exact ⟨by rw [HR.out]; rfl, bt hb01 hb2⟩
  have hfa := asn_facts hav
  have hl8 := valid_len hvd
  obtain ⟨fb, hfb⟩ : ∃ b, a.1.all (factT vl) = b := ⟨_, rfl⟩
  have hfv : (factsB a.1 && ((vl.length == 8) && a.1.all (factT vl))) = fb := by rw [hfa, hl8.1, hfb]; rfl
  have HFV := Lib.hid hfv
  cases fb
  · have HR := Lib.hid (show partO vl hs a = none by simp [partO, hvd, hav, hfb])
    have HV := Lib.hid (And.intro hvd hav)
    clear hvd hav hfb hfv hfa hl8
    go_enter Try.func145, Try.ntmps145
    go_wp2_with fail
    refine (cb (stateValid_any _ _ vl hs _ ((h1.alloc _).alloc _) ((h2.alloc _).alloc _)) HV.out.1).mono ?_
    rintro e w1 ⟨rfl, hb1⟩
    have hc0 := cell_keep hb1 (p := ⟨w.heap.size, 0, none⟩) (v := .slice va1 vl.length vc1) (by simp [go_sem])
    have hc1 := cell_keep hb1 (p := ⟨w.heap.size, 1, none⟩) (v := .slice va2 hs.length vc2) (by simp [go_sem])
    have hc2 := cell_keep hb1 (p := ⟨w.heap.size + 1, 0, none⟩) (v := .slice xa1 a.1.length xc1) (by simp [go_sem])
    have hc3 := cell_keep hb1 (p := ⟨w.heap.size + 1, 1, none⟩) (v := .slice xa2 a.2.length xc2) (by simp [go_sem])
    have hb01 : Below w.heap.size w w1 := bt Bl hb1
    go_wp2_with fail
    refine (cb (asnValidI_any _ _ a _ (r1.keep hb01) (hR2.out.keep hb01)) HV.out.2).mono ?_
    rintro e w2 ⟨rfl, hb2⟩
    replace hc0 := cell_keep hb2 hc0; replace hc1 := cell_keep hb2 hc1; replace hc2 := cell_keep hb2 hc2; replace hc3 := cell_keep hb2 hc3; replace hb01 := bt hb01 hb2; clear hb2
    go_wp2_with fail
    refine (cb (factsHoldI_any _ _ a.1 vl _ (r1.keep hb01) (h1.keep hb01)) HFV.out).mono ?_
    rintro e w3 ⟨rfl, hb3⟩
    go_wp2
    go_ret2
    exact ⟨by rw [HR.out]; rfl, bt hb01 hb3⟩
  have hres : partO vl hs a = partP vl hs 0 (a.2.drop 0) := by simp [partO, hvd, hav, hfb]
  have HRES := Lib.hid hres
  have HV := Lib.hid (And.intro hvd hav)
  clear hvd hav hfb hfv hfa hl8 hres
  go_enter Try.func145, Try.ntmps145
  go_wp2_with fail
  refine (cb (stateValid_any _ _ vl hs _ ((h1.alloc _).alloc _) ((h2.alloc _).alloc _)) HV.out.1).mono ?_
  rintro e w1 ⟨rfl, hb1⟩
  have hc0 := cell_keep hb1 (p := ⟨w.heap.size, 0, none⟩) (v := .slice va1 vl.length vc1) (by simp [go_sem])
  have hc1 := cell_keep hb1 (p := ⟨w.heap.size, 1, none⟩) (v := .slice va2 hs.length vc2) (by simp [go_sem])
  have hc2 := cell_keep hb1 (p := ⟨w.heap.size + 1, 0, none⟩) (v := .slice xa1 a.1.length xc1) (by simp [go_sem])
  have hc3 := cell_keep hb1 (p := ⟨w.heap.size + 1, 1, none⟩) (v := .slice xa2 a.2.length xc2) (by simp [go_sem])
  have hb01 : Below w.heap.size w w1 := bt Bl hb1
  go_wp2_with fail
  refine (cb (asnValidI_any _ _ a _ (r1.keep hb01) (hR2.out.keep hb01)) HV.out.2).mono ?_
  rintro e w2 ⟨rfl, hb2⟩
  replace hc0 := cell_keep hb2 hc0; replace hc1 := cell_keep hb2 hc1; replace hc2 := cell_keep hb2 hc2; replace hc3 := cell_keep hb2 hc3; replace hb01 := bt hb01 hb2; clear hb2
  go_wp2_with fail
  refine (cb (factsHoldI_any _ _ a.1 vl _ (r1.keep hb01) (h1.keep hb01)) HFV.out).mono ?_
  rintro e w3 ⟨rfl, hb3⟩
  replace hc0 := cell_keep hb3 hc0; replace hc1 := cell_keep hb3 hc1; replace hc2 := cell_keep hb3 hc2; replace hc3 := cell_keep hb3 hc3; replace hb01 := bt hb01 hb3; clear hb3
  have hbe : Below w3.heap.size w3 w3 := Below.refl _ _
  have HC := Lib.hid (And.intro (And.intro hc0 hc1) (And.intro hc2 hc3))
  clear hb1
  go_wp2
  go_loopg [6, 32] a.2.length (fun q x i wr => ∃ (k m : Nat), k + q = a.2.length ∧ i = .int .i64 k ∧ x = .int .u16 m ∧ m < 65536 ∧ partO vl hs a = partP vl hs m (a.2.drop k) ∧ Below w3.heap.size w3 wr)
  case atStart => exact ⟨0, 0, by omega, rfl, rfl, by omega, HRES.out, hbe⟩
  case round =>
    obtain ⟨k, m, hk, rfl, rfl, hm6, hp, hb⟩ := hrel
    have HK := Lib.hid hk
    have HP := Lib.hid hp
    clear hk hp hc0 hc1 hc2 hc3
    by_cases hk8 : k < a.2.length
    · obtain ⟨b1, o1, rfl, _, hbl1, hp1, hp2, hp3⟩ := F1.out k hk8
      replace hp1 := cell_keep (bt hb01 hb) hp1
      replace hp2 := cell_keep (bt hb01 hb) hp2
      replace hp3 := cell_keep (bt hb01 hb) hp3
      have hc0 := cell_keep hb HC.out.1.1
      have hc1 := cell_keep hb HC.out.1.2
      have hat := asn_atom HV.out.2 k hk8
      have hki : (k : Int) < (a.2.length : Int) := by omega
      have hzb : b1 < wr.heap.size := World.block_lt_of_cell? wr _ hp1
      have hzs : w.heap.size < wr.heap.size := World.block_lt_of_cell? wr _ hc0
      obtain ⟨gO, hgO⟩ : ∃ g, g = gk := ⟨_, rfl⟩
      have HGO := Lib.hid hgO
      have HAT := Lib.hid hat
      clear hgO hat
      have hb0r := bt hb01 hb
      cases hcb : cellsB vl hs (gd a.2 k)
      · have HR := Lib.hid (show partO vl hs a = none by rw [HP.out, partP_bad hk8 hcb])
        have HCB := Lib.hid hcb
        clear hcb
        go_wp2_with fail
        refine (atomCells_any _ _ vl hs (gd a.2 k) _ (h1.keep (bt hb0r Bl)) (h2.keep (bt hb0r Bl)) HV.out.1 HAT.out).mono ?_
        rintro e w5 ⟨v5, rfl, hown, hb5⟩
        rw [HCB.out]
        go_wp2
        go_ret2
        exact ⟨by rw [HR.out]; rfl, bt (bt hb0r Bl) hb5⟩
      · have hmem := cells_mem HV.out.1 HAT.out hcb
        obtain ⟨cl, hcl⟩ : ∃ c, cellsL vl hs (gd a.2 k) = c := ⟨_, rfl⟩
        rw [hcl] at hmem
        have HM := Lib.hid hmem
        have HCB := Lib.hid (And.intro hcb hcl)
        clear hcb hcl hmem
        go_wp2_with fail
        refine (atomCells_any _ _ vl hs (gd a.2 k) _ (h1.keep (bt hb0r Bl)) (h2.keep (bt hb0r Bl)) HV.out.1 HAT.out).mono ?_
        rintro e w5 ⟨v5, rfl, hown, hb5⟩
        rw [HCB.out.2] at hown
        rw [HCB.out.1]
        have hri := (own_ints hown).1
        obtain ⟨ya, yc, rfl⟩ := hri.form
        have hlm := hri.len
        unfold maxLen at hlm
        have hb5' : Below w3.heap.size w3 w5 := bt (bt hb Bl) hb5
        clear hb5
        go_wp2
        go_loopg [6, 46] cl.length (fun q x i wr => ∃ (j n : Nat), j + q = cl.length ∧ i = .int .i64 j ∧ x = .int .u16 n ∧ n < 65536 ∧ addsC m cl = addsC n (cl.drop j) ∧ Below w5.heap.size w5 wr)
        case atStart => exact ⟨0, m, by omega, rfl, rfl, hm6, rfl, Below.refl _ _⟩
        case round =>
          obtain ⟨j, n, hj, rfl, rfl, hn6, hadd, hbj⟩ := hrel
          have HJ := Lib.hid hj
          have HA := Lib.hid hadd
          clear hj hadd
          by_cases hj8 : j < cl.length
          · obtain ⟨c, hcn⟩ : ∃ c : Nat, gi cl j = (c : Int) := ⟨(gi cl j).toNat, by have := al_addr (HM.out _ (gi_mem hj8)); omega⟩
            have hc8 : c < 16 := by have := al_addr (HM.out _ (gi_mem hj8)); omega
            have hji : (j : Int) < (cl.length : Int) := by omega
            obtain ⟨vb, vo, vcap, hfe, _, _, hcell⟩ := (hri.keep hbj).ne (by omega)
            simp only [Value.slice.injEq] at hfe
            obtain ⟨rfl, hh, rfl⟩ := hfe
            clear hh
            have hck := hcell j hj8
            rw [hcn] at hck
            clear hcell
            have hzv : vb < wr.heap.size := World.block_lt_of_cell? wr _ hck
            have HO := Lib.hid (or_bit n c hn6 hc8)
            cases hh : hasB n (c : Int)
            · have hst := addsC_step hj8 (show hasB n (gi cl j) = false by rw [hcn]; exact hh)
              rw [hcn] at hst
              have HST := Lib.hid hst
              have HH := Lib.hid hh
              clear hst hh hcn
              go_wp2_with fail
              refine (cellHas_val n (c : Int) _ false hn6 HH.out).mono ?_
              rintro e w7 ⟨rfl, rfl⟩
              go_wp2
              go_roundg (gk - 1)
              case rel => exact ⟨j + 1, n ||| 2 ^ c, by have := HJ.out; omega, by go_num, by rw [← HO.out], or_lt n c hn6 hc8, by rw [HA.out, HST.out]; rfl, hbj⟩
              case measure => have := HJ.out; omega
            · have hst := addsC_stop hj8 (show hasB n (gi cl j) = true by rw [hcn]; exact hh)
              have HR := Lib.hid (show partO vl hs a = none by rw [HP.out, partP_none hk8 HCB.out.1 (by rw [HCB.out.2, HA.out, hst])])
              have HH := Lib.hid hh
              clear hst hh hcn
              go_wp2_with fail
              refine (cellHas_val n (c : Int) _ true hn6 HH.out).mono ?_
              rintro e w7 ⟨rfl, rfl⟩
              go_wp2
              go_ret2
              exact ⟨by rw [HR.out]; rfl, bt hb01 (bt hb5' hbj)⟩
          · obtain rfl : j = cl.length := by have := HJ.out; omega
            have hend : partO vl hs a = partP vl hs n (a.2.drop (k + 1)) := by
              rw [HP.out]; refine partP_some hk8 HCB.out.1 ?_
              rw [HCB.out.2, HA.out, List.drop_length]; rfl
            have HE := Lib.hid hend
            clear hend
            go_wp2
            go_roundg (gO - 1)
            case rel => exact ⟨k + 1, n, by have := HK.out; have := HGO.out; omega, by go_num, rfl, hn6, HE.out, bt hb5' hbj⟩
            case measure => have := HK.out; have := HGO.out; omega
    · obtain rfl : k = a.2.length := by have := HK.out; omega
      have HR := Lib.hid (show partO vl hs a = some m by rw [HP.out, List.drop_length]; rfl)
      go_wp2
      go_ret2
      exact ⟨by rw [HR.out]; rfl, bt hb01 hb⟩
end Go.Proofs.Ytapoillhgimdiaa
