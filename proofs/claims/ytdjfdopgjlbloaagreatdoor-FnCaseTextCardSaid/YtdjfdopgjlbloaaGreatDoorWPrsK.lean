/- Walks: impl.parseClasses. -/
import Derived.Test.YtdjfdopgjlbloaaGreatDoorWPrsT
namespace Go.Proofs.YtdjfdopgjlbloaaGreatDoor
open Go.RowKit

/-- What the parser of classes leaves. -/
def ClsRes (o : Option (List Int)) (w : World) (e : Ending) (w' : World) : Prop :=
  (∀ l, o = some l → ∃ v, e = .returned (.tuple #[v, .bool true]) ∧ w'.ownsRow w.heap.size 3 1 v l.length (ints l)) ∧ (o = none → ∃ a n c, e = .returned (.tuple #[.slice a n c, .bool false])) ∧ Below w.heap.size w w'
theorem ClsRes.yes {o : Option (List Int)} {w w' : World} {e : Ending} (l : List Int) (v : Value) (h : o = some l) (he : e = .returned (.tuple #[v, .bool true])) (hr : w'.ownsRow w.heap.size 3 1 v l.length (ints l)) (hb : Below w.heap.size w w') : ClsRes o w e w' :=
  ⟨fun l' h' => by rw [h] at h'; obtain rfl := Option.some.inj h'; exact ⟨v, he, hr⟩, fun h' => by rw [h] at h'; (cases h'), hb⟩
theorem ClsRes.no {o : Option (List Int)} {w w' : World} {e : Ending} (a : Option Addr) (n c : Nat) (h : o = none) (he : e = .returned (.tuple #[.slice a n c, .bool false])) (hb : Below w.heap.size w w') : ClsRes o w e w' :=
  ⟨fun l' h' => by rw [h] at h'; (cases h'), fun _ => ⟨a, n, c, he⟩, hb⟩
attribute [local go_sem] btx_45
set_option maxRecDepth 100000 in
set_option maxHeartbeats 3200000 in
theorem parseClassesI_any (t : List UInt8) (mx : Int) (w : World) (hl : t.length ≤ 1048576) (hm : w.cell? ⟨1, 0, none⟩ = some (.int .i64 mx)) :
    Calls Tryz.prog 17 #[.string (btx t)] w (ClsRes (clsO t) w) := by
  go_enter Tryz.func17, Tryz.ntmps17
  go_wp2_with fail
  refine (Tryz.strings_Split (btx t) (btx [44]) mx _ (by show t.length < _; omega) hm (Nat.le_refl _)).mono ?_
  rintro e w2 ⟨rfl, rfl⟩
  obtain ⟨hsp, hcn⟩ := split_cut 44 t.length t (Nat.le_refl _)
  rw [hsp, hcn]
  have hu0 : clsO t = if (cutL 44 t).length = 9 then optL clsO1 (cutL 44 t) else none := rfl
  have hne : 0 < (cutL 44 t).length := List.length_pos_iff.2 (cutL_ne 44 t)
  have hcl := cutL_len 44 t
  obtain ⟨ps, hps⟩ : ∃ ps, cutL 44 t = ps := ⟨_, rfl⟩
  rw [hps] at hu0 hne hcl ⊢
  clear hps hsp hcn
  have hcell : ∀ i, i < ps.length → (w.alloc (.cells (List.map Value.string (List.map btx ps)).toArray 9)).cell? ⟨w.heap.size, i, none⟩ = some (.string (btx (gd ps i))) := fun i hi => by
    rw [World.cell?_alloc_mark, List.getElem?_toArray, List.getElem?_map, List.getElem?_map, gd_of hi, List.getElem?_eq_getElem hi]; rfl
  have hb0 := below_alloc w (.cells (List.map Value.string (List.map btx ps)).toArray 9)
  have hgz : w.heap.size < (w.alloc (.cells (List.map Value.string (List.map btx ps)).toArray 9)).heap.size := by rw [World.size_alloc]; omega
  generalize w.alloc (.cells (List.map Value.string (List.map btx ps)).toArray 9) = wz at hcell hb0 hgz ⊢
  obtain ⟨m, hmm⟩ : ∃ m, ps.length = m := ⟨_, rfl⟩
  rw [hmm] at hu0 hne hcl hcell ⊢
  have HU := Lib.hid hu0
  have HM := Lib.hid hmm
  have HC := Lib.hid hcell
  clear hu0 hmm hcell
  go_wp2
  go_loopg [4, 12] m (fun q v i wr => ∃ (k : Nat) (l : List Int), k + q = m ∧ k ≤ 9 ∧ i = .int .i64 k ∧ optL clsO1 (ps.take k) = some l ∧ l.length = k ∧ wr.ownsRow (w.heap.size + 1) 3 1 v k (ints l) ∧ Below w.heap.size w wr ∧ w.heap.size < wr.heap.size ∧ (∀ i, i < m → wr.cell? ⟨w.heap.size, i, none⟩ = some (.string (btx (gd ps i)))))
  case atStart => exact ⟨0, [], by omega, by omega, rfl, rfl, rfl, ⟨rfl, .inl ⟨rfl, rfl⟩⟩, hb0, hgz, HC.out⟩
  case round =>
    clear hb0 hgz
    obtain ⟨k, l, hk, hk9, rfl, hop, hll, hown, hb, hg2, hce⟩ := hrel
    have HK := Lib.hid hk
    have HOP := Lib.hid hop
    have HLL := Lib.hid hll
    have HCE := Lib.hid hce
    obtain ⟨va, vc, rfl, _⟩ := own_form hown
    clear hk hop hll hce
    by_cases hk8 : k < m
    · have i1 : (k : Int) < (m : Int) := by omega
      have hp := HCE.out k hk8
      obtain ⟨x, hx⟩ : ∃ x, gd ps k = x := ⟨_, rfl⟩
      rw [hx] at hp
      have HX := Lib.hid hx
      clear hx
      by_cases hd : x = [45]
      · have j1 : ((btx x).toList == (btx [45]).toList) = true := by rw [btx_leq, hd]; rfl
        have HD := Lib.hid (show clsO1 x = some (-1) by rw [clsO1, if_pos hd])
        have HDG := Lib.hid (show digO x = none by rw [hd]; rfl)
        clear hd
        by_cases h9 : k ≤ 8
        · have i2 : decide (8 < (k : Int)) = false := by simp; omega
          have hst := Lib.hid (optL_step (f := clsO1) (by rw [HM.out]; exact hk8) HOP.out (by rw [HX.out]; exact HD.out))
          go_wp2_with fail
          refine (digitI_any _ _).mono ?_
          rw [HDG.out]
          rintro e w3 ⟨rfl, rfl⟩
          have hown2 : w3.ownsRow (w.heap.size + 1) 3 1 (.slice va k vc) l.length (ints l) := by rw [HLL.out]; exact hown
          have hs := hb.size
          go_wp2_with (at_builtin; go_must (refine app_int _ rfl _ _ rfl (w.heap.size + 1) _ l rfl (own_keep hown2 (below_alloc _ _)) ⟨w3.heap.size, 0, none⟩ (-1) rfl (cell_new1 _ _ _) (by rw [HLL.out]; omega) (by simp; omega) ?_); intro v' w1 hown1 hf1)
          go_roundg (gk - 1)
          have hbz := below_own (own_keep hown2 (below_alloc _ _)) hf1 ((below_alloc w3 (.cells #[.int .i64 (-1)] 3)).mono (Nat.succ_le_of_lt hg2)) (by simp; omega)
          have hsz := hf1.size
          rw [World.size_alloc] at hsz
          case rel => exact ⟨k + 1, l ++ [-1], by have := HK.out; omega, by omega, by go_num, hst.out, by simp [HLL.out], by simpa [HLL.out] using hown1, hb.trans (hbz.mono (Nat.le_succ _)), by omega, fun i hi => hf1.cell (fun e => absurd (own_lt hown2 e).1 (Nat.not_succ_le_self _)) (cell_keep (below_alloc _ _) (HCE.out i hi))⟩
          case measure => have := HK.out; omega
        · have i2 : decide (8 < (k : Int)) = true := by simp; omega
          have hfin : clsO t = none := by rw [HU.out, if_neg (by omega)]
          have HF := Lib.hid hfin
          clear hfin
          go_wp2_with fail
          refine (digitI_any _ _).mono ?_
          rw [HDG.out]
          rintro e w3 ⟨rfl, rfl⟩
          go_wp2
          refine bodyPost_ret (v := .tuple #[.slice none 0 0, .bool false]) (by simp [results, Tryz.results17, go_sem]) rfl ?_
          exact ClsRes.no none 0 0 HF.out rfl hb
      · have j1b : ((btx x).toList == (btx [45]).toList) = false := by rw [btx_leq]; exact decide_eq_false hd
        cases hd2 : digO x with
        | none =>
          have hc1 : clsO1 x = none := by rw [clsO1, if_neg hd]; exact hd2
          have hfin : clsO t = none := by rw [HU.out]; split; exact optL_none (by rw [HM.out]; exact hk8) (by rw [HX.out]; exact hc1); rfl
          have HF := Lib.hid (And.intro hfin hd2)
          clear hfin hd2 hd hc1
          go_wp2_with fail
          refine (digitI_any _ _).mono ?_
          rw [HF.out.2]
          rintro e w3 ⟨rfl, rfl⟩
          go_wp2
          refine bodyPost_ret (v := .tuple #[.slice none 0 0, .bool false]) (by simp [results, Tryz.results17, go_sem]) rfl ?_
          exact ClsRes.no none 0 0 HF.out.1 rfl hb
        | some y =>
          have HD := Lib.hid (show clsO1 x = some y by rw [clsO1, if_neg hd]; exact hd2)
          have HDG := Lib.hid hd2
          clear hd2 hd
          by_cases h9 : k ≤ 8
          · have i2 : decide (8 < (k : Int)) = false := by simp; omega
            have hst := Lib.hid (optL_step (f := clsO1) (by rw [HM.out]; exact hk8) HOP.out (by rw [HX.out]; exact HD.out))
            go_wp2_with fail
            refine (digitI_any _ _).mono ?_
            rw [HDG.out]
            rintro e w3 ⟨rfl, rfl⟩
            have hown2 : w3.ownsRow (w.heap.size + 1) 3 1 (.slice va k vc) l.length (ints l) := by rw [HLL.out]; exact hown
            have hs := hb.size
            go_wp2_with (at_builtin; go_must (refine app_int _ rfl _ _ rfl (w.heap.size + 1) _ l rfl (own_keep hown2 (below_alloc _ _)) ⟨w3.heap.size, 0, none⟩ (y) rfl (cell_new1 _ _ _) (by rw [HLL.out]; omega) (by simp; omega) ?_); intro v' w1 hown1 hf1)
            go_roundg (gk - 1)
            have hbz := below_own (own_keep hown2 (below_alloc _ _)) hf1 ((below_alloc w3 (.cells #[.int .i64 (y)] 3)).mono (Nat.succ_le_of_lt hg2)) (by simp; omega)
            have hsz := hf1.size
            rw [World.size_alloc] at hsz
            case rel => exact ⟨k + 1, l ++ [y], by have := HK.out; omega, by omega, by go_num, hst.out, by simp [HLL.out], by simpa [HLL.out] using hown1, hb.trans (hbz.mono (Nat.le_succ _)), by omega, fun i hi => hf1.cell (fun e => absurd (own_lt hown2 e).1 (Nat.not_succ_le_self _)) (cell_keep (below_alloc _ _) (HCE.out i hi))⟩
            case measure => have := HK.out; omega
          · have i2 : decide (8 < (k : Int)) = true := by simp; omega
            have hfin : clsO t = none := by rw [HU.out, if_neg (by omega)]
            have HF := Lib.hid hfin
            clear hfin
            go_wp2_with fail
            refine (digitI_any _ _).mono ?_
            rw [HDG.out]
            rintro e w3 ⟨rfl, rfl⟩
            go_wp2
            refine bodyPost_ret (v := .tuple #[.slice none 0 0, .bool false]) (by simp [results, Tryz.results17, go_sem]) rfl ?_
            exact ClsRes.no none 0 0 HF.out rfl hb
    · obtain rfl : k = m := by have := HK.out; omega
      have hop := HOP.out
      rw [List.take_of_length_le (by rw [HM.out]; exact Nat.le_refl _)] at hop
      by_cases hk99 : k = 9
      · have e9 : ((k : Int) == 9) = true := beq_iff_eq.2 (by omega)
        have hfin : clsO t = some l := by rw [HU.out, if_pos hk99]; exact hop
        have HF := Lib.hid hfin
        clear hfin hop hk99
        go_wp2
        refine bodyPost_ret (v := .tuple #[.slice va k vc, .bool true]) (by simp [results, Tryz.results17, go_sem]) rfl ?_
        exact ClsRes.yes l _ HF.out rfl (by rw [HLL.out]; exact own_mono hown (by omega)) hb
      · have e9 : ((k : Int) == 9) = false := beq_eq_false_iff_ne.2 (by omega)
        have hfin : clsO t = none := by rw [HU.out, if_neg hk99]
        have HF := Lib.hid hfin
        clear hfin hop hk99
        go_wp2
        refine bodyPost_ret (v := .tuple #[.slice va k vc, .bool false]) (by simp [results, Tryz.results17, go_sem]) rfl ?_
        exact ClsRes.no va k vc HF.out rfl hb
end Go.Proofs.YtdjfdopgjlbloaaGreatDoor
