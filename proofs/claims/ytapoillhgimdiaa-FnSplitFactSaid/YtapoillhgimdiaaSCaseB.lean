/- CaseB: texts Case5, Case6, Case7, Case8 in one. -/
import Derived.Test.YtapoillhgimdiaaSCaseA
import Derived.Test.YtapoillhgimdiaaSRens
import Derived.Deep.RegionHeld3
import Derived.Deep.MidRow
import Derived.Laws.IdiomCopy
import Derived.Test.YtapoillhgimdiaaSFam2
import Derived.Laws.StructEq
/- Walks: a case that is read. -/
namespace Go.Proofs.Ytapoillhgimdiaa
open Go.RowKit

/-- A class is possible. -/
def stepC (M : Nat) (cl : List Int) (t : Nat) : Bool := if M.testBit t = true then (decide (0 ≤ gi cl t) && (decide (gi cl t ≤ (t : Int)) && (gi cl (gi cl t).toNat == gi cl t))) else gi cl t == -1
def shapeC (M : Nat) (cl : List Int) : Bool := (cl.length == 9) && (List.range 9).all (stepC M cl)
theorem range_all_no {p : Nat → Bool} {k n : Nat} (hk : k < n) (h : p k = false) : (List.range n).all p = false := by
  rw [List.all_eq_false]; exact ⟨k, List.mem_range.2 hk, by simp [h]⟩
theorem range_all_yes {p : Nat → Bool} {k : Nat} (h1 : (List.range k).all p = true) (h : p k = true) : (List.range (k + 1)).all p = true := by
  rw [List.range_succ, List.all_append, h1]; simp [h]

theorem sizeC : (Try.prog.info? 116).map (·.size) = some 9 := by kernel_rfl
end Go.Proofs.Ytapoillhgimdiaa
/- Walks: cases: the reference. -/
namespace Go.Proofs.Ytapoillhgimdiaa
open Go.RowKit

/-- A fact holds as far as its terms have classes. -/
def fitsF (cl : List Int) (f : Fact) : Bool := !(decide (0 ≤ gi cl f.2.1.toNat) && (decide (0 ≤ gi cl f.2.2.toNat) && ((gi cl f.2.1.toNat == gi cl f.2.2.toNat) != f.1)))
/-- Atoms begin at different classes other than that of nil. -/
def apartP (l : List Atom) (i : Nat) : Bool := ((gd l i).2.1 != 0) && (List.range i).all fun k => (gd l k).2.1 != (gd l i).2.1
def apartB (l : List Atom) : Bool := (List.range l.length).all (apartP l)
set_option maxRecDepth 100000 in
set_option maxHeartbeats 3200000 in
theorem l5Fits_any {S : Nat → Prop} (v cv : Value) (l : List Fact) (cl : List Int) (w : World) (h : RL w S v l) (hc : RInts w cv cl) (hf : l.all factB = true) (hc9 : cl.length = 9) :
    Calls Try.prog 192 #[v, cv] w fun e w' => e = .returned (.bool (l.all (fitsF cl))) ∧ Below w.heap.size w w' := by
  have hm := h.len
  unfold maxLen at hm
  obtain ⟨a, c, rfl, _, _, hf1⟩ := h.factAt
  have F1 := Lib.hid hf1
  have HB := Lib.hid (all_of hf)
  obtain ⟨cb, co, cc, rfl, _, _, hcell⟩ := hc.ne (by omega)
  have HC := Lib.hid hcell
  have HC9 := Lib.hid hc9
  clear hf1 h hf hcell hc hc9
  go_enter Try.func192, Try.ntmps192
  go_wp2
  go_loopg [5] l.length (fun q i wr => ∃ k : Nat, k + q = l.length ∧ i = .int .i64 k ∧ (l.take k).all (fitsF cl) = true ∧ Below w.heap.size w wr)
  case atStart => exact ⟨0, by omega, rfl, by simp, Below.refl _ _⟩
  case round =>
    obtain ⟨k, hk, rfl, ht, hb⟩ := hrel
    have HK := Lib.hid hk
    have HT := Lib.hid ht
    clear hk ht
    by_cases hk8 : k < l.length
    · obtain ⟨b1, o1, rfl, _, hbl1, hp1, hp2, hp3⟩ := F1.out k hk8
      replace hp1 := cell_keep hb hp1; replace hp2 := cell_keep hb hp2; replace hp3 := cell_keep hb hp3
      have hs := hb.size
      have i1 : (k : Int) < (l.length : Int) := by omega
      have hzb : b1 < wr.heap.size := by omega
      obtain ⟨t1, t2, t3, t4⟩ := factB_le (HB.out k hk8)
      obtain ⟨i, hi⟩ := Int.eq_ofNat_of_zero_le t1
      obtain ⟨j, hj⟩ := Int.eq_ofNat_of_zero_le t3
      have hi9 : (i : Int) < (cl.length : Int) := by rw [HC9.out]; omega
      have hj9 : (j : Int) < (cl.length : Int) := by rw [HC9.out]; omega
      rw [hi] at hp2
      rw [hj] at hp3
      have hci := cell_keep hb (HC.out i (by omega))
      have hcj := cell_keep hb (HC.out j (by omega))
      obtain ⟨X, hX⟩ : ∃ X, gi cl i = X := ⟨_, rfl⟩
      obtain ⟨Y, hY⟩ : ∃ Y, gi cl j = Y := ⟨_, rfl⟩
      obtain ⟨fb, hfb⟩ : ∃ b, (gd l k).1 = b := ⟨_, rfl⟩
      have hft : fitsF cl (gd l k) = !(decide (0 ≤ X) && (decide (0 ≤ Y) && ((X == Y) != fb))) := by rw [fitsF, hi, hj, Int.toNat_natCast, Int.toNat_natCast, hX, hY, hfb]
      rw [hX] at hci
      rw [hY] at hcj
      rw [hfb] at hp1
      clear hi hj hX hY hfb t1 t2 t3 t4
      by_cases hx0 : 0 ≤ X
      rotate_left
      · have HP := Lib.hid (show fitsF cl (gd l k) = true by rw [hft, decide_eq_false hx0]; rfl)
        clear hft
        go_wp2
        go_roundg (gk - 1)
        case rel => exact ⟨k + 1, by have := HK.out; omega, by go_num, all_take_yes hk8 HT.out HP.out, hb⟩
        case measure => have := HK.out; omega
      by_cases hy0 : 0 ≤ Y
      rotate_left
      · have HP := Lib.hid (show fitsF cl (gd l k) = true by rw [hft, decide_eq_false hy0]; simp)
        clear hft
        go_wp2
        go_roundg (gk - 1)
        case rel => exact ⟨k + 1, by have := HK.out; omega, by go_num, all_take_yes hk8 HT.out HP.out, hb⟩
        case measure => have := HK.out; omega
      rw [decide_eq_true hx0, decide_eq_true hy0] at hft
      obtain ⟨eb, heb⟩ : ∃ b, (X == Y) = b := ⟨_, rfl⟩
      rw [heb] at hft
      cases eb with
      | true =>
        cases fb with
        | true =>
          have HP := Lib.hid (show fitsF cl (gd l k) = true by rw [hft]; rfl)
          clear hft
          go_wp2
          go_roundg (gk - 1)
          case rel => exact ⟨k + 1, by have := HK.out; omega, by go_num, all_take_yes hk8 HT.out HP.out, hb⟩
          case measure => have := HK.out; omega
        | false =>
          have HF := Lib.hid (all_no hk8 (show fitsF cl (gd l k) = false by rw [hft]; rfl))
          clear hft
          go_wp2
          go_ret
          exact ⟨by rw [HF.out]; rfl, hb⟩
      | false =>
        cases fb with
        | true =>
          have HF := Lib.hid (all_no hk8 (show fitsF cl (gd l k) = false by rw [hft]; rfl))
          clear hft
          go_wp2
          go_ret
          exact ⟨by rw [HF.out]; rfl, hb⟩
        | false =>
          have HP := Lib.hid (show fitsF cl (gd l k) = true by rw [hft]; rfl)
          clear hft
          go_wp2
          go_roundg (gk - 1)
          case rel => exact ⟨k + 1, by have := HK.out; omega, by go_num, all_take_yes hk8 HT.out HP.out, hb⟩
          case measure => have := HK.out; omega
    · obtain rfl : k = l.length := by have := HK.out; omega
      have HA := Lib.hid (all_end HT.out)
      clear HT
      go_wp2
      go_ret
      exact ⟨by rw [HA.out]; rfl, hb⟩
set_option maxRecDepth 100000 in
set_option maxHeartbeats 1600000 in
theorem l5Apart_any {S : Nat → Prop} (v : Value) (l : List Atom) (w : World) (hv : RL w S v l) :
    Calls Try.prog 193 #[v] w fun e w' => e = .returned (.bool (apartB l)) ∧ Below w.heap.size w w' := by
  have hm := hv.len
  unfold maxLen at hm
  obtain ⟨a, cp, rfl, _, _, hf1⟩ := hv.atomAt
  have F1 := Lib.hid hf1
  clear hf1 hv
  go_enter Try.func193, Try.ntmps193
  go_wp2
  go_loopg [3] l.length (fun q i wr => ∃ k : Nat, k + q = l.length ∧ i = .int .i64 k ∧ (List.range k).all (apartP l) = true ∧ Below w.heap.size w wr)
  case atStart => exact ⟨0, by omega, rfl, rfl, Below.refl _ _⟩
  case round =>
    obtain ⟨k, hk, rfl, ht, hb⟩ := hrel
    have HK := Lib.hid hk
    have HT := Lib.hid ht
    clear hk ht
    by_cases hk8 : k < l.length
    · obtain ⟨b1, o1, rfl, _, hbl1, hp1, hp2, hp3⟩ := F1.out k hk8
      have F2 := Lib.hid (fun j (hj : j < l.length) => F1.out j hj)
      replace hp2 := cell_keep hb hp2
      have i1 : (k : Int) < (l.length : Int) := by omega
      by_cases hp : (gd l k).2.1 = 0
      · have hpb : ((gd l k).2.1 == 0) = true := by simp [hp]
        have HF := Lib.hid (show apartB l = false by rw [apartB, range_all_no hk8 (show apartP l k = false by rw [apartP, hp]; rfl)])
        clear hp hp1 hp3
        go_wp2
        go_ret
        exact ⟨by rw [HF.out]; rfl, hb⟩
      · have hpb : ((gd l k).2.1 == 0) = false := by simp [hp]
        have hpn : ((gd l k).2.1 != 0) = true := by simp [hp]
        have HPN := Lib.hid hpn
        obtain ⟨gO, hgO⟩ : ∃ g, g = gk := ⟨_, rfl⟩
        have HGO := Lib.hid hgO
        obtain ⟨wo, rfl⟩ : ∃ wo : World, wo = wr := ⟨_, rfl⟩
        clear hp hp1 hp3 hgO hpn
        go_wp2
        go_loopg [4] k (fun q i wr => ∃ j : Nat, j + q = k ∧ i = .int .i64 j ∧ ((List.range j).all fun n => (gd l n).2.1 != (gd l k).2.1) = true ∧ Below w.heap.size w wr)
        case atStart => exact ⟨0, by omega, rfl, rfl, hb⟩
        case round =>
          clear hb hp2
          obtain ⟨j, hj, rfl, hall, hb⟩ := hrel
          have HJ := Lib.hid hj
          have HALL := Lib.hid hall
          clear hj hall
          obtain ⟨b2, o2, he, _, _, _, hq2, _⟩ := F1.out k hk8
          obtain ⟨rfl, rfl⟩ : b1 = b2 ∧ o1 = o2 := by simpa using he
          clear he
          replace hq2 := cell_keep hb hq2
          have hzb : b1 < wr.heap.size := World.block_lt_of_cell? wr _ hq2
          by_cases hj8 : j < k
          · obtain ⟨b3, o3, he, _, _, _, hr2, _⟩ := F1.out j (by omega)
            obtain ⟨rfl, rfl⟩ : b1 = b3 ∧ o1 = o3 := by simpa using he
            clear he
            replace hr2 := cell_keep hb hr2
            have j1 : (j : Int) < (l.length : Int) := by omega
            have j2 : (j : Int) < (k : Int) := by omega
            by_cases hn : (gd l j).2.1 = (gd l k).2.1
            · have hnb : ((gd l j).2.1 == (gd l k).2.1) = true := by simp [hn]
              have HF := Lib.hid (show apartB l = false by rw [apartB, range_all_no hk8 (show apartP l k = false by rw [apartP, range_all_no (p := fun n => (gd l n).2.1 != (gd l k).2.1) hj8 (by simp [hn])]; simp)])
              clear hn
              go_wp2
              refine wp_region_ext (by kernel_rfl) (by kernel_rfl) ?_
              repeat (go_big_quiet_step ((fail)))
              refine wpQuiet_nil ?_
              intro w5 hb5
              go_wp2
              go_ret
              exact ⟨by rw [HF.out]; rfl, bt hb hb5⟩
            · have hnb : ((gd l j).2.1 == (gd l k).2.1) = false := by simp [hn]
              have HN := Lib.hid (range_all_yes (p := fun n => (gd l n).2.1 != (gd l k).2.1) HALL.out (by simp [hn]))
              clear hn
              go_wp2
              refine wp_region_ext (by kernel_rfl) (by kernel_rfl) ?_
              repeat (go_big_quiet_step ((fail)))
              refine wpQuiet_nil ?_
              intro w5 hb5
              go_wp2
              go_roundg (gk - 1)
              case rel => exact ⟨j + 1, by have := HJ.out; omega, by go_num, HN.out, bt hb hb5⟩
              case measure => have := HJ.out; omega
          · obtain rfl : j = k := by have := HJ.out; omega
            have HN := Lib.hid (range_all_yes HT.out (show apartP l j = true by rw [apartP, HPN.out, HALL.out]; rfl))
            clear HALL
            go_wp2
            go_roundg (gO - 1)
            case rel => exact ⟨j + 1, by have := HK.out; have := HGO.out; omega, by go_num, HN.out, hb⟩
            case measure => have := HK.out; have := HGO.out; omega
    · obtain rfl : k = l.length := by have := HK.out; omega
      have HA := Lib.hid (show apartB l = true from HT.out)
      clear HT
      go_wp2
      go_ret
      exact ⟨by rw [HA.out]; rfl, hb⟩
end Go.Proofs.Ytapoillhgimdiaa
/- Walks: cases of two assertions: the reference. -/
namespace Go.Proofs.Ytapoillhgimdiaa
open Go.RowKit

end Go.Proofs.Ytapoillhgimdiaa
/- Walks: atoms that an atom uses. -/
namespace Go.Proofs.Ytapoillhgimdiaa
open Go.RowKit

/-- A chain of atoms from a class to another one. -/
def useList (left : List Atom) (B : Int) (closed : Bool) (at_ : Int) : List Int → Bool
  | [] => false
  | i :: r => if (gd left i.toNat).2.1 = at_ then (if (gd left i.toNat).2.2 = B then r.isEmpty else (if ((gd left i.toNat).1 == 2 && !closed) = true then false else useList left B closed (gd left i.toNat).2.2 r)) else false
def clsdB (left : List Atom) (B : Int) : Bool := (B == 0) || left.any fun y => y.2.1 == B
def allowB (left : List Atom) (x : Atom) (uses : List Int) : Bool :=
  if x.1 = 1 then (uses.length == 1) && decide (gd left (gi uses 0).toNat = x) else useList left x.2.2 (clsdB left x.2.2) x.2.1 uses
end Go.Proofs.Ytapoillhgimdiaa
