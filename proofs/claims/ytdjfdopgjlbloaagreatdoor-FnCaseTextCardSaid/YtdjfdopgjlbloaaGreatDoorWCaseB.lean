/- CaseB: texts Case5, Case6, Case7, Case8 in one. -/
import Derived.Test.YtdjfdopgjlbloaaGreatDoorWCaseA
import Derived.Test.YtdjfdopgjlbloaaGreatDoorWRens
import Derived.Deep.RegionHeld3
import Derived.Deep.MidRow
import Derived.Laws.IdiomCopy
import Derived.Test.YtdjfdopgjlbloaaGreatDoorWFam2
import Derived.Laws.StructEq
/- Walks: a case that is read. -/
namespace Go.Proofs.YtdjfdopgjlbloaaGreatDoor
open Go.RowKit

/-- A class is possible. -/
def stepC (M : Nat) (cl : List Int) (t : Nat) : Bool := if M.testBit t = true then (decide (0 ≤ gi cl t) && (decide (gi cl t ≤ (t : Int)) && (gi cl (gi cl t).toNat == gi cl t))) else gi cl t == -1
def shapeC (M : Nat) (cl : List Int) : Bool := (cl.length == 9) && (List.range 9).all (stepC M cl)
def readC (m : Nat) (a : Asn) (cl : List Int) : Bool := shapeC (termM (termsM a) 0 ||| m) cl && possC cl 8 a
theorem range_all_no {p : Nat → Bool} {k n : Nat} (hk : k < n) (h : p k = false) : (List.range n).all p = false := by
  rw [List.all_eq_false]; exact ⟨k, List.mem_range.2 hk, by simp [h]⟩
theorem range_all_yes {p : Nat → Bool} {k : Nat} (h1 : (List.range k).all p = true) (h : p k = true) : (List.range (k + 1)).all p = true := by
  rw [List.range_succ, List.all_append, h1]; simp [h]

end Go.Proofs.YtdjfdopgjlbloaaGreatDoor
/- Walks: cases: the reference. -/
namespace Go.Proofs.YtdjfdopgjlbloaaGreatDoor
open Go.RowKit

/-- A fact holds as far as its terms have classes. -/
def fitsF (cl : List Int) (f : Fact) : Bool := !(decide (0 ≤ gi cl f.2.1.toNat) && (decide (0 ≤ gi cl f.2.2.toNat) && ((gi cl f.2.1.toNat == gi cl f.2.2.toNat) != f.1)))
/-- Atoms begin at different classes other than that of nil. -/
def apartP (l : List Atom) (i : Nat) : Bool := ((gd l i).2.1 != 0) && (List.range i).all fun k => (gd l k).2.1 != (gd l i).2.1
def apartB (l : List Atom) : Bool := (List.range l.length).all (apartP l)
def stepS (M : Nat) (cl : List Int) (t : Nat) : Bool := (M.testBit t == decide (0 ≤ gi cl t)) && (decide (-1 ≤ gi cl t) && (decide (gi cl t ≤ (t : Int)) && (decide (gi cl t < 0) || (gi cl (gi cl t).toNat == gi cl t))))
def isCaseB (M : Nat) (a : Asn) (cl : List Int) : Bool := (cl.length == 9) && ((gi cl 0 == 0) && ((List.range' 1 8).all (stepS M cl) && (a.1.all (fitsF cl) && apartB (filledL cl a.2))))

set_option maxRecDepth 100000 in
set_option maxHeartbeats 3200000 in
theorem l5Fits_any {S : Nat → Prop} (v cv : Value) (l : List Fact) (cl : List Int) (w : World) (h : RL w S v l) (hc : RInts w cv cl) (hf : l.all factB = true) (hc9 : cl.length = 9) :
    Calls Tryz.prog 78 #[v, cv] w fun e w' => e = .returned (.bool (l.all (fitsF cl))) ∧ Below w.heap.size w w' := by
  have hm := h.len
  unfold maxLen at hm
  obtain ⟨a, c, rfl, _, _, hf1⟩ := h.factAt
  have F1 := Lib.hid hf1
  have HB := Lib.hid (all_of hf)
  obtain ⟨cb, co, cc, rfl, _, _, hcell⟩ := hc.ne (by omega)
  have HC := Lib.hid hcell
  have HC9 := Lib.hid hc9
  clear hf1 h hf hcell hc hc9
  go_enter Tryz.func78, Tryz.ntmps78
  go_wp2
  go_loopg [5] l.length (fun q i wr => ∃ k : Nat, k + q = l.length ∧ i = .int .i64 k ∧ (l.take k).all (fitsF cl) = true ∧ Below w.heap.size w wr)
  case atStart => exact ⟨0, by omega, rfl, by simp, Below.refl _ _⟩
  case round =>
    obtain ⟨k, hk, rfl, ht, hb⟩ := hrel
    have HK := Lib.hid hk
    have HT := Lib.hid ht
    clear hk ht
    by_cases hk8 : k < l.length
    · obtain ⟨b1, o1, rfl, _, hbl1, hp1, hp2, hp3⟩ := F1.out k hk8
      replace hp1 := cell_keep hb hp1; replace hp2 := cell_keep hb hp2; replace hp3 := cell_keep hb hp3
      have hs := hb.size
      have i1 : (k : Int) < (l.length : Int) := by omega
      have hzb : b1 < wr.heap.size := by omega
      obtain ⟨t1, t2, t3, t4⟩ := factB_le (HB.out k hk8)
      obtain ⟨i, hi⟩ := Int.eq_ofNat_of_zero_le t1
      obtain ⟨j, hj⟩ := Int.eq_ofNat_of_zero_le t3
      have hi9 : (i : Int) < (cl.length : Int) := by rw [HC9.out]; omega
      have hj9 : (j : Int) < (cl.length : Int) := by rw [HC9.out]; omega
      rw [hi] at hp2
      rw [hj] at hp3
      have hci := cell_keep hb (HC.out i (by omega))
      have hcj := cell_keep hb (HC.out j (by omega))
      obtain ⟨X, hX⟩ : ∃ X, gi cl i = X := ⟨_, rfl⟩
      obtain ⟨Y, hY⟩ : ∃ Y, gi cl j = Y := ⟨_, rfl⟩
      obtain ⟨fb, hfb⟩ : ∃ b, (gd l k).1 = b := ⟨_, rfl⟩
      have hft : fitsF cl (gd l k) = !(decide (0 ≤ X) && (decide (0 ≤ Y) && ((X == Y) != fb))) := by rw [fitsF, hi, hj, Int.toNat_natCast, Int.toNat_natCast, hX, hY, hfb]
      rw [hX] at hci
      rw [hY] at hcj
      rw [hfb] at hp1
      clear hi hj hX hY hfb t1 t2 t3 t4
      by_cases hx0 : 0 ≤ X
      rotate_left
      · have HP := Lib.hid (show fitsF cl (gd l k) = true by rw [hft, decide_eq_false hx0]; rfl)
        clear hft
        go_wp2
        go_roundg (gk - 1)
        case rel => exact ⟨k + 1, by have := HK.out; omega, by go_num, all_take_yes hk8 HT.out HP.out, hb⟩
        case measure => have := HK.out; omega
      by_cases hy0 : 0 ≤ Y
      rotate_left
      · have HP := Lib.hid (show fitsF cl (gd l k) = true by rw [hft, decide_eq_false hy0]; simp)
        clear hft
        go_wp2
        go_roundg (gk - 1)
        case rel => exact ⟨k + 1, by have := HK.out; omega, by go_num, all_take_yes hk8 HT.out HP.out, hb⟩
        case measure => have := HK.out; omega
      rw [decide_eq_true hx0, decide_eq_true hy0] at hft
      obtain ⟨eb, heb⟩ : ∃ b, (X == Y) = b := ⟨_, rfl⟩
      rw [heb] at hft
      cases eb with
      | true =>
        cases fb with
        | true =>
          have HP := Lib.hid (show fitsF cl (gd l k) = true by rw [hft]; rfl)
          clear hft
          go_wp2
          go_roundg (gk - 1)
          case rel => exact ⟨k + 1, by have := HK.out; omega, by go_num, all_take_yes hk8 HT.out HP.out, hb⟩
          case measure => have := HK.out; omega
        | false =>
          have HF := Lib.hid (all_no hk8 (show fitsF cl (gd l k) = false by rw [hft]; rfl))
          clear hft
          go_wp2
          go_ret
          exact ⟨by rw [HF.out]; rfl, hb⟩
      | false =>
        cases fb with
        | true =>
          have HF := Lib.hid (all_no hk8 (show fitsF cl (gd l k) = false by rw [hft]; rfl))
          clear hft
          go_wp2
          go_ret
          exact ⟨by rw [HF.out]; rfl, hb⟩
        | false =>
          have HP := Lib.hid (show fitsF cl (gd l k) = true by rw [hft]; rfl)
          clear hft
          go_wp2
          go_roundg (gk - 1)
          case rel => exact ⟨k + 1, by have := HK.out; omega, by go_num, all_take_yes hk8 HT.out HP.out, hb⟩
          case measure => have := HK.out; omega
    · obtain rfl : k = l.length := by have := HK.out; omega
      have HA := Lib.hid (all_end HT.out)
      clear HT
      go_wp2
      go_ret
      exact ⟨by rw [HA.out]; rfl, hb⟩
set_option maxRecDepth 100000 in
set_option maxHeartbeats 1600000 in
theorem l5Begins_any {S : Nat → Prop} (v : Value) (l : List Atom) (c : Int) (w : World) (hv : RL w S v l) :
    Calls Tryz.prog 101 #[v, .int .i64 c] w fun e w' => e = .returned (.bool (l.any fun x => x.2.1 == c)) ∧ Below w.heap.size w w' := by
  have hm := hv.len
  unfold maxLen at hm
  obtain ⟨a, cp, rfl, _, _, hf1⟩ := hv.atomAt
  have F1 := Lib.hid hf1
  clear hf1 hv
  go_enter Tryz.func101, Tryz.ntmps101
  go_wp2
  go_loopg [5] l.length (fun q i wr => ∃ k : Nat, k + q = l.length ∧ i = .int .i64 k ∧ ((l.take k).any fun x => x.2.1 == c) = false ∧ Below w.heap.size w wr)
  case atStart => exact ⟨0, by omega, rfl, by simp, Below.refl _ _⟩
  case round =>
    obtain ⟨k, hk, rfl, ht, hb⟩ := hrel
    have HK := Lib.hid hk
    have HT := Lib.hid ht
    clear hk ht
    by_cases hk8 : k < l.length
    · obtain ⟨b1, o1, rfl, _, hbl1, hp1, hp2, hp3⟩ := F1.out k hk8
      replace hp1 := cell_keep hb hp1; replace hp2 := cell_keep hb hp2; replace hp3 := cell_keep hb hp3
      have i1 : (k : Int) < (l.length : Int) := by omega
      by_cases hp : (gd l k).2.1 = c
      · have hpb : ((gd l k).2.1 == c) = true := by simp [hp]
        have HF := Lib.hid (any_yes' (p := fun x : Atom => x.2.1 == c) hk8 hpb)
        clear hp
        go_wp2
        go_ret
        exact ⟨by rw [HF.out]; rfl, hb⟩
      · have hpb : ((gd l k).2.1 == c) = false := by simp [hp]
        have HP := Lib.hid hpb
        clear hp
        go_wp2
        go_roundg (gk - 1)
        case rel => exact ⟨k + 1, by have := HK.out; omega, by go_num, any_take_no' (p := fun x : Atom => x.2.1 == c) hk8 HT.out HP.out, hb⟩
        case measure => have := HK.out; omega
    · obtain rfl : k = l.length := by have := HK.out; omega
      have HA := Lib.hid (any_end' HT.out)
      clear HT
      go_wp2
      go_ret
      exact ⟨by rw [HA.out]; rfl, hb⟩
set_option maxRecDepth 100000 in
set_option maxHeartbeats 1600000 in
theorem l5Apart_any {S : Nat → Prop} (v : Value) (l : List Atom) (w : World) (hv : RL w S v l) :
    Calls Tryz.prog 80 #[v] w fun e w' => e = .returned (.bool (apartB l)) ∧ Below w.heap.size w w' := by
  have hm := hv.len
  unfold maxLen at hm
  obtain ⟨a, cp, rfl, _, _, hf1⟩ := hv.atomAt
  have F1 := Lib.hid hf1
  clear hf1 hv
  go_enter Tryz.func80, Tryz.ntmps80
  go_wp2
  go_loopg [3] l.length (fun q i wr => ∃ k : Nat, k + q = l.length ∧ i = .int .i64 k ∧ (List.range k).all (apartP l) = true ∧ Below w.heap.size w wr)
  case atStart => exact ⟨0, by omega, rfl, rfl, Below.refl _ _⟩
  case round =>
    obtain ⟨k, hk, rfl, ht, hb⟩ := hrel
    have HK := Lib.hid hk
    have HT := Lib.hid ht
    clear hk ht
    by_cases hk8 : k < l.length
    · obtain ⟨b1, o1, rfl, _, hbl1, hp1, hp2, hp3⟩ := F1.out k hk8
      have F2 := Lib.hid (fun j (hj : j < l.length) => F1.out j hj)
      replace hp2 := cell_keep hb hp2
      have i1 : (k : Int) < (l.length : Int) := by omega
      by_cases hp : (gd l k).2.1 = 0
      · have hpb : ((gd l k).2.1 == 0) = true := by simp [hp]
        have HF := Lib.hid (show apartB l = false by rw [apartB, range_all_no hk8 (show apartP l k = false by rw [apartP, hp]; rfl)])
        clear hp hp1 hp3
        go_wp2
        go_ret
        exact ⟨by rw [HF.out]; rfl, hb⟩
      · have hpb : ((gd l k).2.1 == 0) = false := by simp [hp]
        have hpn : ((gd l k).2.1 != 0) = true := by simp [hp]
        have HPN := Lib.hid hpn
        obtain ⟨gO, hgO⟩ : ∃ g, g = gk := ⟨_, rfl⟩
        have HGO := Lib.hid hgO
        obtain ⟨wo, rfl⟩ : ∃ wo : World, wo = wr := ⟨_, rfl⟩
        clear hp hp1 hp3 hgO hpn
        go_wp2
        go_loopg [4] k (fun q i wr => ∃ j : Nat, j + q = k ∧ i = .int .i64 j ∧ ((List.range j).all fun n => (gd l n).2.1 != (gd l k).2.1) = true ∧ Below w.heap.size w wr)
        case atStart => exact ⟨0, by omega, rfl, rfl, hb⟩
        case round =>
          clear hb hp2
          obtain ⟨j, hj, rfl, hall, hb⟩ := hrel
          have HJ := Lib.hid hj
          have HALL := Lib.hid hall
          clear hj hall
          obtain ⟨b2, o2, he, _, _, _, hq2, _⟩ := F1.out k hk8
          obtain ⟨rfl, rfl⟩ : b1 = b2 ∧ o1 = o2 := by simpa using he
          clear he
          replace hq2 := cell_keep hb hq2
          have hzb : b1 < wr.heap.size := World.block_lt_of_cell? wr _ hq2
          by_cases hj8 : j < k
          · obtain ⟨b3, o3, he, _, _, _, hr2, _⟩ := F1.out j (by omega)
            obtain ⟨rfl, rfl⟩ : b1 = b3 ∧ o1 = o3 := by simpa using he
            clear he
            replace hr2 := cell_keep hb hr2
            have j1 : (j : Int) < (l.length : Int) := by omega
            have j2 : (j : Int) < (k : Int) := by omega
            by_cases hn : (gd l j).2.1 = (gd l k).2.1
            · have hnb : ((gd l j).2.1 == (gd l k).2.1) = true := by simp [hn]
              have HF := Lib.hid (show apartB l = false by rw [apartB, range_all_no hk8 (show apartP l k = false by rw [apartP, range_all_no (p := fun n => (gd l n).2.1 != (gd l k).2.1) hj8 (by simp [hn])]; simp)])
              clear hn
              go_wp2
              refine wp_region_ext (by kernel_rfl) (by kernel_rfl) ?_
              repeat (go_big_quiet_step ((fail)))
              refine wpQuiet_nil ?_
              intro w5 hb5
              go_wp2
              go_ret
              exact ⟨by rw [HF.out]; rfl, bt hb hb5⟩
            · have hnb : ((gd l j).2.1 == (gd l k).2.1) = false := by simp [hn]
              have HN := Lib.hid (range_all_yes (p := fun n => (gd l n).2.1 != (gd l k).2.1) HALL.out (by simp [hn]))
              clear hn
              go_wp2
              refine wp_region_ext (by kernel_rfl) (by kernel_rfl) ?_
              repeat (go_big_quiet_step ((fail)))
              refine wpQuiet_nil ?_
              intro w5 hb5
              go_wp2
              go_roundg (gk - 1)
              case rel => exact ⟨j + 1, by have := HJ.out; omega, by go_num, HN.out, bt hb hb5⟩
              case measure => have := HJ.out; omega
          · obtain rfl : j = k := by have := HJ.out; omega
            have HN := Lib.hid (range_all_yes HT.out (show apartP l j = true by rw [apartP, HPN.out, HALL.out]; rfl))
            clear HALL
            go_wp2
            go_roundg (gO - 1)
            case rel => exact ⟨j + 1, by have := HK.out; have := HGO.out; omega, by go_num, HN.out, hb⟩
            case measure => have := HK.out; have := HGO.out; omega
    · obtain rfl : k = l.length := by have := HK.out; omega
      have HA := Lib.hid (show apartB l = true from HT.out)
      clear HT
      go_wp2
      go_ret
      exact ⟨by rw [HA.out]; rfl, hb⟩
end Go.Proofs.YtdjfdopgjlbloaaGreatDoor
/- Walks: cases of two assertions: the reference. -/
namespace Go.Proofs.YtdjfdopgjlbloaaGreatDoor
open Go.RowKit

theorem range1_no {p : Nat → Bool} {k n : Nat} (hk : k < n) (h : p (k + 1) = false) : (List.range' 1 n).all p = false := by
  rw [List.all_eq_false]; exact ⟨k + 1, by rw [List.mem_range'_1]; omega, by simp [h]⟩
theorem range1_yes {p : Nat → Bool} {k : Nat} (h1 : (List.range' 1 k).all p = true) (h : p (k + 1) = true) : (List.range' 1 (k + 1)).all p = true := by
  rw [List.range'_concat, List.all_append, h1, Nat.one_mul, Nat.add_comm 1 k]; simp [h]
set_option maxRecDepth 100000 in
set_option maxHeartbeats 3200000 in
theorem l6Both_any {S1 S2 S3 S4 : Nat → Prop} (v1 v2 u1 u2 : Value) (a b : Asn) (w : World) (h1 : RL w S1 v1 a.1) (h2 : RL w S2 v2 a.2) (k1 : RL w S3 u1 b.1) (k2 : RL w S4 u2 b.2) (ha : asnB a = true) (hb0 : asnB b = true) :
    Calls Tryz.prog 39 #[.agg #[v1, v2], .agg #[u1, u2]] w fun e w' => ∃ v, e = .returned v ∧ w'.ownsRow w.heap.size 4 1 v 9 (flagsOf (termsM (a.1 ++ b.1, a.2 ++ b.2))) ∧ Below w.heap.size w w' := by
  have hfa : (a.1.all factB = true ∧ a.2.all atomB = true) ∧ (b.1.all factB = true ∧ b.2.all atomB = true) := by
    simp only [asnB, factsB, Bool.and_eq_true] at ha hb0
    exact ⟨⟨ha.1.2, ha.2.2⟩, ⟨hb0.1.2, hb0.2.2⟩⟩
  have hl : (a.1.length ≤ 12 ∧ a.2.length ≤ 6) ∧ (b.1.length ≤ 12 ∧ b.2.length ≤ 6) := by
    simp only [asnB, factsB, Bool.and_eq_true, decide_eq_true_eq] at ha hb0
    exact ⟨⟨ha.1.1, ha.2.1⟩, ⟨hb0.1.1, hb0.2.1⟩⟩
  obtain ⟨a1, a2⟩ := a
  obtain ⟨b1, b2⟩ := b
  simp only at h1 h2 k1 k2 hfa hl
  obtain ⟨⟨n1, n2⟩, ⟨n3, n4⟩⟩ := hl
  have hx1 : (a1 ++ b1).all factB = true := by rw [List.all_append, hfa.1.1, hfa.2.1]; rfl
  have hx2 : (a2 ++ b2).all atomB = true := by rw [List.all_append, hfa.1.2, hfa.2.2]; rfl
  have HX := Lib.hid (And.intro hx1 hx2)
  obtain ⟨p1, c1, rfl⟩ := h1.form
  obtain ⟨p2, c2, rfl⟩ := h2.form
  obtain ⟨p3, c3, rfl⟩ := k1.form
  obtain ⟨p4, c4, rfl⟩ := k2.form
  clear hfa hx1 hx2 ha hb0
  go_enter Tryz.func39, Tryz.ntmps39
  go_wp2
  generalize hw0 : ((w.alloc (.cells #[.slice p1 a1.length c1, .slice p2 a2.length c2] 37)).alloc (.cells #[.slice p3 b1.length c3, .slice p4 b2.length c4] 37)) = w0
  have hc0 : w0.cell? ⟨w.heap.size, 0, none⟩ = some (.slice p1 a1.length c1) := by rw [← hw0]; simp [go_sem]
  have hc1 : w0.cell? ⟨w.heap.size, 1, none⟩ = some (.slice p2 a2.length c2) := by rw [← hw0]; simp [go_sem]
  have hd0 : w0.cell? ⟨w.heap.size + 1, 0, none⟩ = some (.slice p3 b1.length c3) := by rw [← hw0]; simp [go_sem]
  have hd1 : w0.cell? ⟨w.heap.size + 1, 1, none⟩ = some (.slice p4 b2.length c4) := by rw [← hw0]; simp [go_sem]
  have hW : Below w.heap.size w w0 := by rw [← hw0]; exact ba (below_alloc _ _) _
  clear hw0
  have q1 := h1.keep hW
  have q2 := h2.keep hW
  have q3 := k1.keep hW
  have q4 := k2.keep hW
  clear h1 h2 k1 k2
  go_region_held3 (fun w' => (w'.cell? ⟨w.heap.size, 0, none⟩ = some (.slice p1 a1.length c1) ∧ w'.cell? ⟨w.heap.size, 1, none⟩ = some (.slice p2 a2.length c2)) ∧ (w'.cell? ⟨w.heap.size + 1, 0, none⟩ = some (.slice p3 b1.length c3) ∧ w'.cell? ⟨w.heap.size + 1, 1, none⟩ = some (.slice p4 b2.length c4)))
    (exact ⟨⟨(by repeat (first | with_reducible exact hc0 | (with_reducible refine (fr_set _ _ _).cell (by first | (simp; done) | (simp; omega) | omega) ?_) | exact cell_keep Bl hc0)), (by repeat (first | with_reducible exact hc1 | (with_reducible refine (fr_set _ _ _).cell (by first | (simp; done) | (simp; omega) | omega) ?_) | exact cell_keep Bl hc1))⟩, ⟨(by repeat (first | with_reducible exact hd0 | (with_reducible refine (fr_set _ _ _).cell (by first | (simp; done) | (simp; omega) | omega) ?_) | exact cell_keep Bl hd0)), (by repeat (first | with_reducible exact hd1 | (with_reducible refine (fr_set _ _ _).cell (by first | (simp; done) | (simp; omega) | omega) ?_) | exact cell_keep Bl hd1))⟩⟩)
    (first
      | (go_at_call 60; go_must (refine (l3Terms_any _ _ (a1 ++ b1, a2 ++ b2) _ (rl6.keep (Below.trans hb68 Bl)) (rl8.keep Bl) HX.out.1 HX.out.2).mono ?_; rintro e w9 ⟨v9, rfl, hown, hb9'⟩; have hb9 : Below w0.heap.size w0 w9 := bt (bt hb8 Bl) hb9'))
      | (refine step_appE0 (l := a1) (by rfl) (.tmp 5) (.tmp 7) _ (by rfl) ti_fact (by rfl) (by rfl) (q1.keep Bl) (by omega) ?_; intro B1 hB1 v5 w5 y1 r1 t1 hb5'; have hle1 : w0.heap.size ≤ B1 := (by rw [hB1]; exact Below.size (w := w0) (B := w0.heap.size) Bl); have hle5 : B1 ≤ w5.heap.size := (by rw [hB1]; exact hb5'.size); have HB1 := Lib.hid hB1; clear hB1; have hb5 : Below w0.heap.size w0 w5 := Below.trans Bl (hb5'.mono hle1))
      | (refine step_appE (l := b1) (n := a1.length) (by rfl) (.tmp 8) (.tmp 10) _ (by rfl) (B := B1) ti_fact (by rfl) (r1.keep Bl) (by rfl) (q3.keep Bl) (by omega) (Nat.le_trans hle5 (Below.size (w := w5) (B := w5.heap.size) Bl)) ?_; intro v6 w6 y2 r2 _ t2 hb6'; have hb6 : Below w0.heap.size w0 w6 := Below.trans Bl (hb6'.mono hle1); have rl6 := rowE_app r2 r1.len t1 t2; obtain ⟨d6, m6, k6, rfl⟩ := rl6.forms)
      | (refine step_appE0 (l := a2) (by rfl) (.tmp 12) (.tmp 14) _ (by rfl) ti_atom (by rfl) (by rfl) (q2.keep Bl) (by omega) ?_; intro B2 hB2 v7 w7 y3 r3 t3 hb7'; have hle2 : w0.heap.size ≤ B2 := (by rw [hB2]; exact Below.size (w := w0) (B := w0.heap.size) Bl); have hle26 : w6.heap.size ≤ B2 := (by rw [hB2]; exact Below.size (w := w6) (B := w6.heap.size) Bl); have hle7 : B2 ≤ w7.heap.size := (by rw [hB2]; exact hb7'.size); have HB2 := Lib.hid hB2; clear hB2; have hb7 : Below w0.heap.size w0 w7 := Below.trans Bl (hb7'.mono hle2); have hb67 : Below w6.heap.size w6 w7 := Below.trans Bl (hb7'.mono hle26))
      | (refine step_appE (l := b2) (n := a2.length) (by rfl) (.tmp 15) (.tmp 17) _ (by rfl) (B := B2) ti_atom (by rfl) (r3.keep Bl) (by rfl) (q4.keep Bl) (by omega) (Nat.le_trans hle7 (Below.size (w := w7) (B := w7.heap.size) Bl)) ?_; intro v8 w8 y4 r4 _ t4 hb8'; have hb8 : Below w0.heap.size w0 w8 := Below.trans Bl (hb8'.mono hle2); have hb68 : Below w6.heap.size w6 w8 := Below.trans Bl (hb8'.mono hle26); have rl8 := rowE_app r4 r3.len t3 t4; obtain ⟨d8, m8, k8, rfl⟩ := rl8.forms; clear q1 q2 q3 q4))
  all_goals
    have HO := Lib.hid (And.intro (own_mono hown (Nat.le_trans hW.size (Below.size (w := w0) (B := w0.heap.size) (bt hb8 Bl)))) (bt hW hb9))
    clear hown hb9 hb9'
    go_wp2
    go_ret
    exact ⟨_, rfl, HO.out.1, HO.out.2⟩
set_option maxRecDepth 100000 in
set_option maxHeartbeats 6400000 in
theorem l6IsCase_any {S1 S2 : Nat → Prop} (v1 v2 tv_ cv : Value) (a : Asn) (M B : Nat) (cl : List Int) (w : World) (h1 : RL w S1 v1 a.1) (h2 : RL w S2 v2 a.2) (ht : w.ownsRow B 4 1 tv_ 9 (flagsOf M)) (hc : RInts w cv cl) (ha : asnB a = true) :
    Calls Tryz.prog 61 #[.agg #[v1, v2], tv_, cv] w fun e w' => e = .returned (.bool (isCaseB M a cl)) ∧ Below w.heap.size w w' := by
  have hfa : (a.1.all factB = true ∧ a.2.all atomB = true) ∧ a.2.length ≤ 1048576 := by
    simp only [asnB, factsB, Bool.and_eq_true, decide_eq_true_eq] at ha
    exact ⟨⟨ha.1.2, ha.2.2⟩, by omega⟩
  have HFA := Lib.hid hfa
  obtain ⟨xa1, xc1, rfl⟩ := h1.form
  obtain ⟨xa2, xc2, rfl⟩ := h2.form
  obtain ⟨va, vc, rfl⟩ := hc.form
  have hmv := hc.len
  unfold maxLen at hmv
  obtain ⟨tb, tcap, rfl⟩ := flags_form ht
  have htl := (ht.lt _ rfl).2
  have htc : ∀ k, k < 9 → w.cell? ⟨tb, k, none⟩ = some (.bool (M.testBit k)) := fun k hk => by
    rw [ht.cellAt k (by omega), flags_at M k hk]
  have HTC := Lib.hid htc
  clear hfa ht htc ha
  by_cases hL : cl.length = 9
  rotate_left
  · have hne : ((cl.length : Int) != 9) = true := by simp; omega
    have HR := Lib.hid (show isCaseB M a cl = false by simp [isCaseB, hL])
    clear hL
    go_enter Tryz.func61, Tryz.ntmps61
    go_wp2
    go_ret
    exact ⟨by rw [HR.out]; rfl, Bl⟩
  have hne : ((cl.length : Int) != 9) = false := by simp; omega
  obtain ⟨gb, co, cc, hfe, _, _, hcell⟩ := hc.ne (by omega)
  simp only [Value.slice.injEq] at hfe
  obtain ⟨rfl, hh, rfl⟩ := hfe
  clear hh
  have HCV := Lib.hid hc
  have hbl := World.block_lt_of_cell? w _ (hcell 0 (by omega))
  have HC := Lib.hid hcell
  have HL := Lib.hid hL
  have hc0 := hcell 0 (by omega)
  rw [Nat.add_zero] at hc0
  have h0l : (0 : Int) < (cl.length : Int) := by omega
  obtain ⟨Z, hZ⟩ : ∃ Z, gi cl 0 = Z := ⟨_, rfl⟩
  rw [hZ] at hc0
  clear hcell hL hc
  by_cases hz0 : Z = 0
  rotate_left
  · have hzb : (Z != 0) = true := by simp [hz0]
    have HR := Lib.hid (show isCaseB M a cl = false by rw [isCaseB, hZ]; simp [hz0])
    clear hZ hz0
    go_enter Tryz.func61, Tryz.ntmps61
    go_wp2
    go_ret
    exact ⟨by rw [HR.out]; rfl, Bl⟩
  have hzb : (Z != 0) = false := by simp [hz0]
  have HR := Lib.hid (show isCaseB M a cl = ((List.range' 1 8).all (stepS M cl) && (a.1.all (fitsF cl) && apartB (filledL cl a.2))) by rw [isCaseB, hZ, HL.out, hz0]; rfl)
  clear hZ hz0
  go_enter Tryz.func61, Tryz.ntmps61
  go_wp2
  go_loopg [7] 8 (fun q i wr => ∃ k : Nat, k + q = 8 ∧ i = .int .i64 ((k : Int) + 1) ∧ (List.range' 1 k).all (stepS M cl) = true ∧ (wr.cell? ⟨w.heap.size, 0, none⟩ = some (.slice xa1 a.1.length xc1) ∧ wr.cell? ⟨w.heap.size, 1, none⟩ = some (.slice xa2 a.2.length xc2)) ∧ Below w.heap.size w wr)
  case atStart => exact ⟨0, by omega, rfl, rfl, ⟨by simp [go_sem], by simp [go_sem]⟩, below_alloc _ _⟩
  case round =>
    clear hc0
    obtain ⟨k, hk, rfl, hal, ⟨hc0, hc1⟩, hb⟩ := hrel
    have HK := Lib.hid hk
    have HAL := Lib.hid hal
    clear hk hal
    by_cases hk8 : k < 8
    · have hki : (k : Int) + 1 < 9 := by omega
      have hki' : (k : Int) + 1 < (cl.length : Int) := by rw [HL.out]; omega
      have hcs := cell_below hb (p := ⟨gb, co + (k + 1), none⟩) hbl (HC.out (k + 1) (by rw [HL.out]; omega))
      have htk := cell_below hb (p := ⟨tb, k + 1, none⟩) htl (HTC.out (k + 1) (by omega))
      obtain ⟨E, hE⟩ : ∃ E, gi cl (k + 1) = E := ⟨_, rfl⟩
      obtain ⟨q, hq⟩ : ∃ q, M.testBit (k + 1) = q := ⟨_, rfl⟩
      have hst : stepS M cl (k + 1) = ((q == decide (0 ≤ E)) && (decide (-1 ≤ E) && (decide (E ≤ (k : Int) + 1) && (decide (E < 0) || (gi cl E.toNat == E))))) := by rw [stepS, hq, hE]; rfl
      rw [hE] at hcs
      rw [hq] at htk
      clear hE hq
      have HBAD := Lib.hid (fun h : stepS M cl (k + 1) = false => show isCaseB M a cl = false by rw [HR.out, range1_no hk8 h]; rfl)
      by_cases hE0 : 0 ≤ E
      · cases q with
        | false =>
          have HB := Lib.hid (HBAD.out (by rw [hst]; rw [decide_eq_true hE0]; rfl))
          clear hst
          go_wp2
          go_ret
          exact ⟨by rw [HB.out]; rfl, hb⟩
        | true =>
          have hlt : ¬ E < -1 := by omega
          by_cases hE1 : (k : Int) + 1 < E
          · have HB := Lib.hid (HBAD.out (by rw [hst]; rw [decide_eq_false (p := E ≤ (k : Int) + 1) (by omega)]; simp))
            clear hst
            go_wp2
            go_ret
            exact ⟨by rw [HB.out]; rfl, hb⟩
          · obtain ⟨n, rfl⟩ := Int.eq_ofNat_of_zero_le hE0
            have hn9 : (n : Int) < (cl.length : Int) := by rw [HL.out]; omega
            have hcn := cell_below hb (p := ⟨gb, co + n, none⟩) hbl (HC.out n (by rw [HL.out]; omega))
            obtain ⟨D, hD⟩ : ∃ D, gi cl n = D := ⟨_, rfl⟩
            rw [hD] at hcn
            rw [Int.toNat_natCast, hD, decide_eq_true hE0, decide_eq_true (show (-1 : Int) ≤ (n : Int) by omega), decide_eq_true (show (n : Int) ≤ (k : Int) + 1 by omega), decide_eq_false (show ¬ (n : Int) < 0 by omega)] at hst
            clear hD
            by_cases hDn : D = (n : Int)
            · have hDb : (D != (n : Int)) = false := by simp [hDn]
              have HS := Lib.hid (range1_yes HAL.out (show stepS M cl (k + 1) = true by rw [hst]; simp [hDn]))
              clear hst
              go_wp2
              go_roundg (gk - 1)
              case rel => exact ⟨k + 1, by have := HK.out; omega, by go_num, HS.out, ⟨hc0, hc1⟩, hb⟩
              case measure => have := HK.out; omega
            · have hDb : (D != (n : Int)) = true := by simp [hDn]
              have HB := Lib.hid (HBAD.out (by rw [hst]; simp [hDn]))
              clear hst
              go_wp2
              go_ret
              exact ⟨by rw [HB.out]; rfl, hb⟩
      · cases q with
        | true =>
          have HB := Lib.hid (HBAD.out (by rw [hst]; rw [decide_eq_false hE0]; rfl))
          clear hst
          go_wp2
          go_ret
          exact ⟨by rw [HB.out]; rfl, hb⟩
        | false =>
          by_cases hlt : E < -1
          · have HB := Lib.hid (HBAD.out (by rw [hst]; rw [decide_eq_false (p := -1 ≤ E) (by omega)]; simp))
            clear hst
            go_wp2
            go_ret
            exact ⟨by rw [HB.out]; rfl, hb⟩
          · have hgt : ¬ (k : Int) + 1 < E := by omega
            have HS := Lib.hid (range1_yes HAL.out (show stepS M cl (k + 1) = true by rw [hst]; rw [decide_eq_false hE0, decide_eq_true (show -1 ≤ E by omega), decide_eq_true (show E ≤ (k : Int) + 1 by omega), decide_eq_true (show E < 0 by omega)]; rfl))
            clear hst
            go_wp2
            go_roundg (gk - 1)
            case rel => exact ⟨k + 1, by have := HK.out; omega, by go_num, HS.out, ⟨hc0, hc1⟩, hb⟩
            case measure => have := HK.out; omega
    · obtain rfl : k = 8 := by have := HK.out; omega
      have HR' := Lib.hid (show isCaseB M a cl = (a.1.all (fitsF cl) && apartB (filledL cl a.2)) by rw [HR.out, HAL.out]; rfl)
      cases hf : a.1.all (fitsF cl)
      · have HF := Lib.hid hf
        clear hf
        go_wp2_with fail
        refine (cb (l5Fits_any _ _ a.1 cl _ (h1.keep hb) (HCV.out.keep hb) HFA.out.1.1 HL.out) HF.out).mono ?_
        rintro e w5 ⟨rfl, hb5⟩
        go_wp2
        go_ret
        exact ⟨by rw [HR'.out, HF.out]; rfl, bt hb hb5⟩
      · have HF := Lib.hid hf
        clear hf
        go_wp2_with fail
        refine (cb (l5Fits_any _ _ a.1 cl _ (h1.keep hb) (HCV.out.keep hb) HFA.out.1.1 HL.out) HF.out).mono ?_
        rintro e w5 ⟨rfl, hb5⟩
        replace hc0 := cell_keep hb5 hc0
        replace hc1 := cell_keep hb5 hc1
        have hb05 := bt hb hb5
        go_wp2_with fail
        refine (filledS_any _ _ cl a.2 _ (HCV.out.keep hb05) HL.out (h2.keep hb05) HFA.out.1.2 HFA.out.2).mono ?_
        rintro e w6 ⟨v6, rfl, hA, hb6⟩
        have hrl := hA.rl
        obtain ⟨fa, fc, rfl⟩ := hrl.form
        go_wp2_with fail
        refine (l5Apart_any _ (filledL cl a.2) _ hrl).mono ?_
        rintro e w7 ⟨rfl, hb7⟩
        go_wp2
        go_ret
        exact ⟨by rw [HR'.out, HF.out]; rfl, bt hb05 (bt hb6 hb7)⟩
end Go.Proofs.YtdjfdopgjlbloaaGreatDoor
/- Walks: atoms that an atom uses. -/
namespace Go.Proofs.YtdjfdopgjlbloaaGreatDoor
open Go.RowKit

/-- A chain of atoms from a class to another one. -/
def useList (left : List Atom) (B : Int) (closed : Bool) (at_ : Int) : List Int → Bool
  | [] => false
  | i :: r => if (gd left i.toNat).2.1 = at_ then (if (gd left i.toNat).2.2 = B then r.isEmpty else (if ((gd left i.toNat).1 == 2 && !closed) = true then false else useList left B closed (gd left i.toNat).2.2 r)) else false
def clsdB (left : List Atom) (B : Int) : Bool := (B == 0) || left.any fun y => y.2.1 == B
def allowB (left : List Atom) (x : Atom) (uses : List Int) : Bool :=
  if x.1 = 1 then (uses.length == 1) && decide (gd left (gi uses 0).toNat = x) else useList left x.2.2 (clsdB left x.2.2) x.2.1 uses
end Go.Proofs.YtdjfdopgjlbloaaGreatDoor
