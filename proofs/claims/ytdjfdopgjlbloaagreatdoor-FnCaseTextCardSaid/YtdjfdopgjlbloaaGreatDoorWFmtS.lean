/- Walks: spec.FormatCase. -/
import Derived.Test.YtdjfdopgjlbloaaGreatDoorWTxt
import Derived.Test.YtdjfdopgjlbloaaGreatDoorWCpk
import Derived.Handy
import Derived.Laws.BytesArg
namespace Go.Proofs.YtdjfdopgjlbloaaGreatDoor
open Go.RowKit

/-- The bytes of a text. -/
def btx (l : List UInt8) : ByteArray := ⟨l.toArray⟩
theorem btx_size (l : List UInt8) : (btx l).size = l.length := rfl
theorem btx_app (l m : List UInt8) : btx l ++ btx m = btx (l ++ m) := by
  apply ByteArray.ext
  rw [ByteArray.data_append]
  exact Array.toList_inj.1 (by simp [btx])
theorem btx_nil : (⟨#[]⟩ : ByteArray) = btx [] := rfl
theorem btx_32 : (⟨#[32]⟩ : ByteArray) = btx [32] := rfl
theorem btx_45 : (⟨#[45]⟩ : ByteArray) = btx [45] := rfl
theorem strOfNums_digit (n : Int) (h0 : 0 ≤ n) : strOfNums [48 + n] = btx (numT n) := by
  obtain ⟨k, rfl⟩ := Int.eq_ofNat_of_zero_le h0
  rw [numT, if_neg (by omega)]
  show strOfNums [48 + (k : Int)] = btx [UInt8.ofNat (48 + (k : Int).toNat)]
  rw [strOfNums, btx, List.map_singleton, show (48 + (k : Int)).toNat = 48 + (k : Int).toNat by omega]
theorem digit_cv (n : Int) (w : World) (h0 : 0 ≤ n) (_h1 : n ≤ 8) :
    (convert 22 9 (.slice (some ⟨w.heap.size, 0, none⟩) 1 1)).run Tryz.prog (w.alloc (.cells #[.int .u8 (48 + n)] 5)) = .ok (.string (btx (numT n))) (w.alloc (.cells #[.int .u8 (48 + n)] 5)) := by
  have := run_convert_bytes_arg (P := Tryz.prog) (w.alloc (.cells #[.int .u8 (48 + n)] 5)) 22 5 (by kernel_rfl) (by kernel_rfl) w.heap.size 0 1 1 [48 + n] rfl (fun i hi => by
    obtain rfl : i = 0 := by omega
    rw [World.cell?_alloc_mark]; rfl) 9 (by kernel_rfl)
  rw [this, strOfNums_digit n h0]
set_option maxHeartbeats 800000 in
theorem dec_any (n : Int) (w : World) (h0 : 0 ≤ n) (h1 : n ≤ 8) :
    Calls Tryz.prog 35 #[.int .i64 n] w fun e w' => e = .returned (.string (btx (numT n))) ∧ Below w.heap.size w w' := by
  have hd1 : decide (n < -9223372036854775807) = false := by simp; omega
  have hd2 : decide (n < 0) = false := by simp; omega
  have hd3 : decide (9 < n) = false := by simp; omega
  go_enter Tryz.func35, Tryz.ntmps35
  go_wp2
  go_loopg [0, 3] 1 (fun q i x wr => i = .int .i64 n ∧ x = .string ⟨#[]⟩ ∧ wr = w)
  case atStart => exact ⟨rfl, rfl, rfl⟩
  case round =>
    obtain ⟨rfl, rfl, rfl⟩ := hrel
    have hcv := digit_cv n wr h0 h1
    have hsz : (btx (numT n)).size = 1 := numT_len n
    go_wp2
    go_ret
    exact ⟨by rw [show (⟨#[]⟩ : ByteArray) = btx [] from rfl, btx_app, List.append_nil]; rfl, below_alloc _ _⟩
set_option maxHeartbeats 800000 in
theorem l16Small_any (v : Value) (l : List Int) (low : Int) (w : World) (h : RInts w v l) :
    Calls Tryz.prog 19 #[v, .int .i64 low] w fun e w' => e = .returned (.bool (smallB l low)) ∧ Below w.heap.size w w' := by
  have hm := h.len
  unfold maxLen at hm
  obtain ⟨a, c, rfl, hcl⟩ := h.cells
  have F1 := Lib.hid hcl
  clear hcl h
  go_enter Tryz.func19, Tryz.ntmps19
  go_wp2
  go_loopg [5] l.length (fun q i wr => ∃ k : Nat, k + q = l.length ∧ i = .int .i64 k ∧ (l.take k).all (fun n => decide (low ≤ n) && decide (n ≤ 8)) = true ∧ Below w.heap.size w wr)
  case atStart => exact ⟨0, by omega, rfl, by simp, Below.refl _ _⟩
  case round =>
    obtain ⟨k, hk, rfl, ht, hb⟩ := hrel
    have HK := Lib.hid hk
    have HT := Lib.hid ht
    clear hk ht
    by_cases hk8 : k < l.length
    · obtain ⟨b1, o1, rfl, hbl1, hp1⟩ := F1.out k hk8
      replace hp1 := cell_keep hb hp1
      have hs := hb.size
      have i1 : (k : Int) < (l.length : Int) := by omega
      have hzb : b1 < wr.heap.size := by omega
      by_cases hx : low ≤ gi l k
      · have hd1 : decide (gi l k < low) = false := by simp; omega
        by_cases hy : gi l k ≤ 8
        · have hd2 : decide (8 < gi l k) = false := by simp; omega
          have HP := Lib.hid (And.intro hx hy)
          clear hx hy
          go_wp2
          go_roundg (gk - 1)
          case rel => exact ⟨k + 1, by have := HK.out; omega, by go_num, all_take_yes hk8 HT.out (by rw [← gi_gd]; simp; exact HP.out), bt hb Bl⟩
          case measure => have := HK.out; omega
        · have hd2 : decide (8 < gi l k) = true := by simp; omega
          have hfin : smallB l low = false := by
            rw [smallB, all_no hk8 (by rw [← gi_gd]; simp; omega)]; simp
          have HF := Lib.hid hfin
          clear hx hy hfin
          go_wp2
          go_ret
          exact ⟨by rw [HF.out]; rfl, bt hb Bl⟩
      · have hd1 : decide (gi l k < low) = true := by simp; omega
        have hfin : smallB l low = false := by
          rw [smallB, all_no hk8 (by rw [← gi_gd]; simp; omega)]; simp
        have HF := Lib.hid hfin
        clear hx hfin
        go_wp2
        go_ret
        exact ⟨by rw [HF.out]; rfl, bt hb Bl⟩
    · obtain rfl : k = l.length := by have := HK.out; omega
      have hall := all_end HT.out
      have HA := Lib.hid hall
      clear hall HT
      go_wp2
      go_ret
      exact ⟨by rw [smallB, HA.out, Bool.and_true]; exact congrArg (fun b => Ending.returned (.bool b)) (decide_eq_decide.2 (by omega)), hb⟩
attribute [local go_sem] btx_app btx_nil btx_45
set_option maxHeartbeats 800000 in
theorem l16Numbers_any (v : Value) (l : List Int) (c : UInt8) (w : World) (h : RInts w v l) (hl : ∀ n ∈ l, -1 ≤ n ∧ n ≤ 8) (h9 : l.length ≤ 9) :
    Calls Tryz.prog 20 #[v, .string (btx [c])] w fun e w' => e = .returned (.string (btx (numsT c l))) ∧ Below w.heap.size w w' := by
  have hm := h.len
  unfold maxLen at hm
  obtain ⟨a, cp, rfl, hcl⟩ := h.cells
  have F1 := Lib.hid hcl
  clear hcl h
  go_enter Tryz.func20, Tryz.ntmps20
  go_wp2
  go_loopg [5, 6] l.length (fun q x i wr => ∃ k : Nat, k + q = l.length ∧ i = .int .i64 k ∧ x = .string (btx (numsT c (l.take k))) ∧ Below w.heap.size w wr)
  case atStart => exact ⟨0, by omega, rfl, rfl, Below.refl _ _⟩
  case round =>
    obtain ⟨k, hk, rfl, rfl, hb⟩ := hrel
    have HK := Lib.hid hk
    clear hk
    by_cases hk8 : k < l.length
    · obtain ⟨b1, o1, rfl, hbl1, hp1⟩ := F1.out k hk8
      replace hp1 := cell_keep hb hp1
      have hs := hb.size
      have i1 : (k : Int) < (l.length : Int) := by omega
      have hzb : b1 < wr.heap.size := by omega
      have hrange := hl (gi l k) (by rw [gi_gd]; exact gd_mem hk8)
      have hlen := nums_len c (l.take k)
      have hlen2 : (l.take k).length ≤ 9 := by rw [List.length_take]; omega
      obtain ⟨t, ht⟩ : ∃ t, numsT c (l.take k) = t := ⟨_, rfl⟩
      rw [ht] at hlen ⊢
      have HT := Lib.hid ht
      clear ht
      obtain ⟨m, hm0⟩ : ∃ m, t.length = m := ⟨_, rfl⟩
      have e1 : (btx t).size = m := hm0
      have e2 : (btx [c]).size = 1 := rfl
      have e3 : (btx (t ++ [c])).size = m + 1 := by rw [btx_size, List.length_append, hm0]; rfl
      have e4 : (btx [45]).size = 1 := rfl
      have e5 : (btx (numT (gi l k))).size = 1 := numT_len _
      have s1 : (9223372036854775807 < m + 1) = False := by simp; omega
      have s2 : (9223372036854775807 < m + 2) = False := by simp; omega
      have s3 : (9223372036854775807 < m + 1 + 1) = False := by simp; omega
      have HM := Lib.hid hm0
      clear hm0 hlen hlen2
      by_cases h0 : 0 < k
      · have hst := Lib.hid (nums_step (c := c) hk8 h0)
        rw [HT.out] at hst
        by_cases hx : gi l k < 0
        · have hn : numT (gi l k) = [45] := by rw [numT, if_pos hx]
          have HN := Lib.hid hn
          clear hn
          go_wp2
          go_roundg (gk - 1)
          case rel => exact ⟨k + 1, by have := HK.out; omega, by go_num, by rw [hst.out, HN.out], hb⟩
          case measure => have := HK.out; omega
        · go_wp2_with fail
          refine (dec_any (gi l k) _ (by omega) (by omega)).mono ?_
          rintro e w2 ⟨rfl, hb2⟩
          go_wp2
          go_roundg (gk - 1)
          case rel => exact ⟨k + 1, by have := HK.out; omega, by go_num, by rw [hst.out], bt hb hb2⟩
          case measure => have := HK.out; omega
      · obtain rfl : k = 0 := by omega
        obtain rfl : t = [] := HT.out.symm
        have hst := Lib.hid (nums_first (c := c) hk8)
        rw [Nat.add_zero] at hp1
        by_cases hx : gi l 0 < 0
        · have hn : numT (gi l 0) = [45] := by rw [numT, if_pos hx]
          have HN := Lib.hid hn
          clear hn
          go_wp2
          go_roundg (gk - 1)
          case rel => exact ⟨1, by have := HK.out; omega, by go_num, by rw [hst.out, HN.out], hb⟩
          case measure => have := HK.out; omega
        · go_wp2_with fail
          refine (dec_any (gi l 0) _ (by omega) (by omega)).mono ?_
          rintro e w2 ⟨rfl, hb2⟩
          go_wp2
          go_roundg (gk - 1)
          case rel => exact ⟨1, by have := HK.out; omega, by go_num, by rw [hst.out], bt hb hb2⟩
          case measure => have := HK.out; omega
    · obtain rfl : k = l.length := by have := HK.out; omega
      go_wp2
      go_ret
      exact ⟨by rw [List.take_length]; rfl, hb⟩
/-- The text, as far as some rows. -/
def textR (p : Pf) (k : Nat) : List UInt8 := joinT 32 (numsT 44 p.1 :: (p.2.take k).map (numsT 43))
theorem textR_zero (p : Pf) : textR p 0 = numsT 44 p.1 := rfl
theorem textR_all (p : Pf) : textR p p.2.length = textB p := by rw [textR, List.take_length]; rfl
theorem textR_step {p : Pf} {k : Nat} (h : k < p.2.length) : textR p (k + 1) = textR p k ++ 32 :: numsT 43 (gd p.2 k) := by
  rw [textR, take_gd h, List.map_append, ← List.cons_append, List.map_singleton, joinT_snoc 32 _ (by simp)]; rfl
theorem textR_len2 {p : Pf} (h1 : p.1.length = 9) {k : Nat} (h3 : ∀ u ∈ p.2.take k, u.length ≤ 9) (hk : k ≤ p.2.length) : (textR p k).length ≤ 18 + 19 * k := by
  induction k with
  | zero => have := nums_len 44 p.1; rw [textR_zero]; omega
  | succ k ih =>
    have h6 := ih (fun u hu => h3 u (by rw [take_gd (show k < p.2.length by omega)]; exact List.mem_append_left _ hu)) (by omega)
    have h4 := nums_len 43 (gd p.2 k)
    have h5 := h3 (gd p.2 k) (by rw [take_gd (show k < p.2.length by omega)]; simp)
    rw [textR_step (by omega)]; simp; omega
attribute [local go_sem] btx_app btx_nil btx_32
set_option maxHeartbeats 1600000 in
theorem formatS_any {S1 S2 : Nat → Prop} (v1 v2 : Value) (p : Pf) (w : World) (h1 : RL w S1 v1 p.1) (h2 : RL w S2 v2 p.2) :
    Calls Tryz.prog 7 #[.agg #[v1, v2]] w fun e w' => e = .returned (.string (btx (fmtB p))) ∧ Below w.heap.size w w' := by
  have hm1 := h1.len
  have hm2 := h2.len
  unfold maxLen at hm1 hm2
  have r1 := h1.ints
  obtain ⟨a1, c1, rfl⟩ := h1.form
  obtain ⟨a2, c2, rfl, _, _, hc2⟩ := h2.listAt
  have R1 := Lib.hid r1
  have F2 := Lib.hid hc2
  clear r1 hc2 h1 h2
  have hbx := heap_alloc_new w (.cells #[.slice a1 p.1.length c1, .slice a2 p.2.length c2] 26)
  have q0 := cell_of_row _ _ 0 _ _ _ hbx
  have q1 := cell_of_row _ _ 1 _ _ _ hbx
  have hb0 := below_alloc w (.cells #[.slice a1 p.1.length c1, .slice a2 p.2.length c2] 26)
  clear hbx
  cases hs : smallB p.1 (-1)
  · have hfin : fmtB p = [] := by rw [fmtB, shapedB, hs]; simp
    have HF := Lib.hid (And.intro hfin hs)
    clear hfin hs
    go_enter Tryz.func7, Tryz.ntmps7
    go_wp2_with fail
    refine (cb (l16Small_any _ p.1 (-1) _ (R1.out.alloc _)) HF.out.2).mono ?_
    rintro e w2 ⟨rfl, hb2⟩
    go_wp2
    go_ret
    exact ⟨by rw [HF.out.1]; rfl, bt hb0 hb2⟩
  have HS := Lib.hid hs
  clear hs
  by_cases h9 : p.1.length = 9
  · by_cases h6 : p.2.length ≤ 6
    · have hd1 : decide (6 < (p.2.length : Int)) = false := by simp; omega
      have hd2 : ((p.1.length : Int) != 9) = false := by simp; omega
      have H9 := Lib.hid (And.intro h9 h6)
      clear h9 h6
      go_enter Tryz.func7, Tryz.ntmps7
      go_wp2_with fail
      refine (cb (l16Small_any _ p.1 (-1) _ (R1.out.alloc _)) HS.out).mono ?_
      rintro e w2 ⟨rfl, hb2⟩
      replace q0 := cell_keep hb2 q0
      replace q1 := cell_keep hb2 q1
      replace hb0 := bt hb0 hb2
      clear hb2
      go_wp2_with fail
      refine (l16Numbers_any _ p.1 44 _ (R1.out.keep hb0) (smallB_iff.1 HS.out).2 (smallB_iff.1 HS.out).1).mono ?_
      rintro e w3 ⟨rfl, hb3⟩
      replace q0 := cell_keep hb3 q0
      replace q1 := cell_keep hb3 q1
      replace hb0 := bt hb0 hb3
      clear hb3
      go_wp2
      go_loopg [3, 4] p.2.length (fun q x i wr => ∃ k : Nat, k + q = p.2.length ∧ i = .int .i64 k ∧ x = .string (btx (textR p k)) ∧ (p.2.take k).all (fun u => smallB u 0) = true ∧ Below w.heap.size w wr ∧ wr.cell? ⟨w.heap.size, 0, none⟩ = some (.slice a1 p.1.length c1) ∧ wr.cell? ⟨w.heap.size, 1, none⟩ = some (.slice a2 p.2.length c2))
      case atStart => exact ⟨0, by omega, rfl, rfl, by simp, hb0, q0, q1⟩
      case round =>
        clear q0 q1 hb0
        obtain ⟨k, hk, rfl, rfl, ht, hb, q0, q1⟩ := hrel
        have HK := Lib.hid hk
        have HT := Lib.hid ht
        clear hk ht
        by_cases hk8 : k < p.2.length
        · obtain ⟨b1, o1, u1, rfl, _, hbl1, hp1, hu⟩ := F2.out k hk8
          replace hp1 := cell_keep hb hp1
          have hu1 := hu.ints
          obtain ⟨ua, uc, rfl⟩ := hu.form
          have hs := hb.size
          have i1 : (k : Int) < (p.2.length : Int) := by omega
          have hzb : b1 < wr.heap.size := by omega
          have HU := Lib.hid (hu1.keep hb)
          clear hu hu1
          cases hx : smallB (gd p.2 k) 0
          · have hfin : fmtB p = [] := by rw [fmtB, shapedB, all_no hk8 hx]; simp
            have HF := Lib.hid (And.intro hfin hx)
            clear hfin hx
            go_wp2_with fail
            refine (cb (l16Small_any _ (gd p.2 k) 0 _ HU.out) HF.out.2).mono ?_
            rintro e w2 ⟨rfl, hb2⟩
            go_wp2
            go_ret
            exact ⟨by rw [HF.out.1]; rfl, bt hb hb2⟩
          · have HX := Lib.hid hx
            clear hx
            go_wp2_with fail
            refine (cb (l16Small_any _ (gd p.2 k) 0 _ HU.out) HX.out).mono ?_
            rintro e w2 ⟨rfl, hb2⟩
            have hu2 := HU.out.keep hb2
            replace q0 := cell_keep hb2 q0
            replace q1 := cell_keep hb2 q1
            replace hp1 := cell_keep hb2 hp1
            replace hzb := Nat.lt_of_lt_of_le hzb hb2.size
            have hsz := Lib.hid hb2.size
            replace hb := bt hb hb2
            clear hb2 HU
            have HU := Lib.hid hu2
            clear hu2
            have hst := Lib.hid (textR_step hk8)
            have hall := fun u hu => (smallB_iff.1 (List.all_eq_true.1 HT.out u hu)).1
            obtain ⟨t, ht⟩ : ∃ t, textR p k = t := ⟨_, rfl⟩
            obtain ⟨m, hm0⟩ : ∃ m, t.length = m := ⟨_, rfl⟩
            have hm : m ≤ 200 := by
              have := textR_len2 H9.out.1 hall (Nat.le_of_lt hk8)
              have := H9.out.2
              rw [← hm0, ← ht]; omega
            have HTX := Lib.hid ht
            rw [ht]
            obtain ⟨n, hn0⟩ : ∃ n, (numsT 43 (gd p.2 k)).length = n := ⟨_, rfl⟩
            have hn : n ≤ 18 := by
              have := nums_len 43 (gd p.2 k)
              have := (smallB_iff.1 HX.out).1
              rw [← hn0]; omega
            have e1 : (btx t).size = m := hm0
            have e2 : (btx [32]).size = 1 := rfl
            have e3 : (btx (t ++ [32])).size = m + 1 := by rw [btx_size, List.length_append, hm0]; rfl
            have e5 : (btx (numsT 43 (gd p.2 k))).size = n := hn0
            have s1 : (9223372036854775807 < m + 1) = False := by simp; omega
            have s2 : (9223372036854775807 < m + 1 + n) = False := by simp; omega
            clear ht hm0 hn0 hm hn hall
            go_wp2_with fail
            refine (l16Numbers_any _ (gd p.2 k) 43 _ HU.out (fun x hx => ⟨by have := (smallB_iff.1 HX.out).2 x hx; omega, ((smallB_iff.1 HX.out).2 x hx).2⟩) (smallB_iff.1 HX.out).1).mono ?_
            rintro e w3 ⟨rfl, hb3⟩
            replace q0 := cell_keep hb3 q0
            replace q1 := cell_keep hb3 q1
            replace hb := bt hb hb3
            clear hb3
            go_wp2
            go_roundg (gk - 1)
            case rel => exact ⟨k + 1, by have := HK.out; omega, by go_num, by rw [hst.out, HTX.out], all_take_yes hk8 HT.out HX.out, hb, q0, q1⟩
            case measure => have := HK.out; omega
        · obtain rfl : k = p.2.length := by have := HK.out; omega
          have hall := all_end HT.out
          have HA := Lib.hid hall
          clear hall HT
          go_wp2
          go_ret
          exact ⟨by rw [fmtB, if_pos (by rw [shapedB, HS.out, HA.out]; simp; exact H9.out), textR_all]; rfl, hb⟩
    · have hfin : fmtB p = [] := by rw [fmtB, shapedB]; simp [h6]
      have HF := Lib.hid hfin
      have hd1 : decide (6 < (p.2.length : Int)) = true := by simp; omega
      have hd2 : ((p.1.length : Int) != 9) = false := by simp; omega
      clear hfin h6 h9
      go_enter Tryz.func7, Tryz.ntmps7
      go_wp2_with fail
      refine (cb (l16Small_any _ p.1 (-1) _ (R1.out.alloc _)) HS.out).mono ?_
      rintro e w2 ⟨rfl, hb2⟩
      replace q0 := cell_keep hb2 q0
      replace q1 := cell_keep hb2 q1
      go_wp2
      go_ret
      exact ⟨by rw [HF.out]; rfl, bt hb0 (bt hb2 Bl)⟩
  · have hfin : fmtB p = [] := by rw [fmtB, shapedB]; simp [h9]
    have HF := Lib.hid hfin
    have hd2 : ((p.1.length : Int) != 9) = true := by simp; omega
    clear hfin h9
    go_enter Tryz.func7, Tryz.ntmps7
    go_wp2_with fail
    refine (cb (l16Small_any _ p.1 (-1) _ (R1.out.alloc _)) HS.out).mono ?_
    rintro e w2 ⟨rfl, hb2⟩
    replace q0 := cell_keep hb2 q0
    replace q1 := cell_keep hb2 q1
    go_wp2
    go_ret
    exact ⟨by rw [HF.out]; rfl, bt hb0 (bt hb2 Bl)⟩
end Go.Proofs.YtdjfdopgjlbloaaGreatDoor
