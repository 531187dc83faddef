/- Walks: possible cases. -/
import Derived.Test.YthoingdcmdhllaaCase3
namespace Go.Proofs.Ythoingdcmdhllaa
open Go.RowKit

/-- A fact of terms up to a last one holds. -/
def okF (cl : List Int) (last : Int) (f : Fact) : Bool := if f.2.1 ≤ last ∧ f.2.2 ≤ last then factC cl f else true
/-- An atom is counted. -/
def inA (cl : List Int) (last : Int) (x : Atom) : Bool := decide (x.2.1 ≤ last) && (decide (x.2.2 ≤ last) && fillC cl x)
/-- Atoms begin at different classes. -/
def startsO (cl : List Int) (last : Int) (m : Nat) : List Atom → Bool
  | [] => true
  | x :: r => if inA cl last x = true then (if (gi cl x.2.1.toNat == 0 || hasT m (gi cl x.2.1.toNat)) = true then false else startsO cl last (termM m (gi cl x.2.1.toNat)) r) else startsO cl last m r
def possC (cl : List Int) (last : Int) (a : Asn) : Bool := a.1.all (okF cl last) && startsO cl last 0 a.2
theorem drop_gd' {α : Type} [Inhabited α] {l : List α} {k : Nat} (h : k < l.length) : l.drop k = gd l k :: l.drop (k + 1) := by
  rw [List.drop_eq_getElem_cons h, gd_of h]
section
variable {cl : List Int} {last : Int} {m k : Nat} {l : List Atom}
theorem startsO_skip (h : k < l.length) (hi : inA cl last (gd l k) = false) : startsO cl last m (l.drop k) = startsO cl last m (l.drop (k + 1)) := by
  rw [drop_gd' h, startsO, hi]; rfl
theorem startsO_stop (h : k < l.length) (hi : inA cl last (gd l k) = true) (hs : (gi cl (gd l k).2.1.toNat == 0 || hasT m (gi cl (gd l k).2.1.toNat)) = true) : startsO cl last m (l.drop k) = false := by
  rw [drop_gd' h, startsO, hi, hs]; rfl
theorem startsO_next (h : k < l.length) (hi : inA cl last (gd l k) = true) (hs : (gi cl (gd l k).2.1.toNat == 0 || hasT m (gi cl (gd l k).2.1.toNat)) = false) : startsO cl last m (l.drop k) = startsO cl last (termM m (gi cl (gd l k).2.1.toNat)) (l.drop (k + 1)) := by
  rw [drop_gd' h, startsO, hi, hs]; rfl
end
theorem hasT_val {m : Nat} {t : Int} {r : Bool} (w : World) (hm : m < 65536) (h : hasT m t = r) :
    Calls Try.prog 186 #[.int .u16 m, .int .i64 t] w fun e w' => e = .returned (.bool r) ∧ w = w' := by
  subst h; exact hasT_any m t w hm

set_option maxRecDepth 100000 in
set_option maxHeartbeats 6400000 in
theorem possibleC_any {S1 S2 : Nat → Prop} (b : Nat) (cl : List Int) (v1 v2 : Value) (a : Asn) (last : Int) (w : World) (h : RArr w b cl) (h1 : RL w S1 v1 a.1) (h2 : RL w S2 v2 a.2) (hx1 : a.1.all factB = true) (hx2 : a.2.all atomB = true) :
    Calls Try.prog 187 #[.pointer (some ⟨b, 0, none⟩), .agg #[v1, v2], .int .i64 last] w fun e w' => e = .returned (.bool (possC cl last a)) ∧ Below w.heap.size w w' := by
  have hm1 := h1.len
  have hm2 := h2.len
  unfold maxLen at hm1 hm2
  obtain ⟨l1, l2⟩ := a
  simp only at h1 h2 hm1 hm2 hx1 hx2
  obtain ⟨a1, c1, rfl, _, _, hf1⟩ := h1.factAt
  obtain ⟨a2, c2, rfl, _, _, hf2⟩ := h2.atomAt
  have F1 := Lib.hid hf1
  have F2 := Lib.hid hf2
  have B1 := Lib.hid (all_of hx1)
  have B2 := Lib.hid (all_of hx2)
  have HPO := Lib.hid (show possC cl last (l1, l2) = (l1.all (okF cl last) && startsO cl last 0 l2) from rfl)
  clear hf1 hf2 h1 h2 hx1 hx2
  go_enter Try.func187, Try.ntmps187
  go_wp2
  go_loopg [15] l1.length (fun q i wr => ∃ k : Nat, k + q = l1.length ∧ i = .int .i64 k ∧ (l1.take k).all (okF cl last) = true ∧ wr.cell? ⟨w.heap.size, 1, none⟩ = some (.slice a2 l2.length c2) ∧ Below w.heap.size w wr)
  case atStart => exact ⟨0, by omega, rfl, by simp, by simp, below_alloc _ _⟩
  case round =>
    obtain ⟨k, hk, rfl, ht, hc1, hb⟩ := hrel
    have HK := Lib.hid hk
    have HT := Lib.hid ht
    clear hk ht
    have hz : w.heap.size < wr.heap.size := World.block_lt_of_cell? wr _ hc1
    by_cases hk8 : k < l1.length
    · obtain ⟨b1, o1, rfl, _, hbl1, hp1, hp2, hp3⟩ := F1.out k hk8
      replace hp1 := cell_keep hb hp1; replace hp2 := cell_keep hb hp2; replace hp3 := cell_keep hb hp3
      have i1 : (k : Int) < (l1.length : Int) := by omega
      have hzb : b1 < wr.heap.size := World.block_lt_of_cell? wr _ hp1
      have HOK := Lib.hid (B1.out k hk8)
      by_cases hA : (gd l1 k).2.1 ≤ last
      · by_cases hB : (gd l1 k).2.2 ≤ last
        · cases hp : factC cl (gd l1 k)
          · have hq : okF cl last (gd l1 k) = false := by rw [okF, if_pos ⟨hA, hB⟩, hp]
            have HF := Lib.hid (all_no hk8 hq)
            have HP := Lib.hid hp
            clear hp hq
            go_wp2_with fail
            refine (cb (factHoldsC_any b cl (gd l1 k) _ (h.keep (bt hb (by repeat (first | exact Below.refl _ _ | with_reducible assumption | exact below_alloc _ _ | (refine Below.setCell ?_ (by first | (simp; done) | (simp; omega) | omega) _) | apply bd | apply ba | apply be)))) HOK.out) HP.out).mono ?_
            rintro e w5 ⟨rfl, hb5⟩
            go_wp2
            go_ret
            exact ⟨by rw [HPO.out, HF.out]; rfl, bt (bt hb (by repeat (first | exact Below.refl _ _ | with_reducible assumption | exact below_alloc _ _ | (refine Below.setCell ?_ (by first | (simp; done) | (simp; omega) | omega) _) | apply bd | apply ba | apply be))) hb5⟩
          · have hq : okF cl last (gd l1 k) = true := by rw [okF, if_pos ⟨hA, hB⟩, hp]
            have HP := Lib.hid (And.intro hp hq)
            clear hp hq
            go_wp2_with fail
            refine (cb (factHoldsC_any b cl (gd l1 k) _ (h.keep (bt hb (by repeat (first | exact Below.refl _ _ | with_reducible assumption | exact below_alloc _ _ | (refine Below.setCell ?_ (by first | (simp; done) | (simp; omega) | omega) _) | apply bd | apply ba | apply be)))) HOK.out) HP.out.1).mono ?_
            rintro e w5 ⟨rfl, hb5⟩
            go_wp2
            go_roundg (gk - 1)
            case rel => exact ⟨k + 1, by have := HK.out; omega, by go_num, all_take_yes hk8 HT.out HP.out.2, cell_keep (bt (by repeat (first | exact Below.refl _ _ | with_reducible assumption | exact below_alloc _ _ | (refine Below.setCell ?_ (by first | (simp; done) | (simp; omega) | omega) _) | apply bd | apply ba | apply be)) hb5) hc1, bt (bt hb (by repeat (first | exact Below.refl _ _ | with_reducible assumption | exact below_alloc _ _ | (refine Below.setCell ?_ (by first | (simp; done) | (simp; omega) | omega) _) | apply bd | apply ba | apply be))) hb5⟩
            case measure => have := HK.out; omega
        · have hq : okF cl last (gd l1 k) = true := by rw [okF, if_neg (by omega)]
          have HP := Lib.hid hq
          clear hq
          go_wp2
          go_roundg (gk - 1)
          case rel => exact ⟨k + 1, by have := HK.out; omega, by go_num, all_take_yes hk8 HT.out HP.out, cell_keep (by repeat (first | exact Below.refl _ _ | with_reducible assumption | exact below_alloc _ _ | (refine Below.setCell ?_ (by first | (simp; done) | (simp; omega) | omega) _) | apply bd | apply ba | apply be)) hc1, bt hb (by repeat (first | exact Below.refl _ _ | with_reducible assumption | exact below_alloc _ _ | (refine Below.setCell ?_ (by first | (simp; done) | (simp; omega) | omega) _) | apply bd | apply ba | apply be))⟩
          case measure => have := HK.out; omega
      · have hq : okF cl last (gd l1 k) = true := by rw [okF, if_neg (by omega)]
        have HP := Lib.hid hq
        clear hq
        go_wp2
        go_roundg (gk - 1)
        case rel => exact ⟨k + 1, by have := HK.out; omega, by go_num, all_take_yes hk8 HT.out HP.out, cell_keep (by repeat (first | exact Below.refl _ _ | with_reducible assumption | exact below_alloc _ _ | (refine Below.setCell ?_ (by first | (simp; done) | (simp; omega) | omega) _) | apply bd | apply ba | apply be)) hc1, bt hb (by repeat (first | exact Below.refl _ _ | with_reducible assumption | exact below_alloc _ _ | (refine Below.setCell ?_ (by first | (simp; done) | (simp; omega) | omega) _) | apply bd | apply ba | apply be))⟩
        case measure => have := HK.out; omega
    · obtain rfl : k = l1.length := by have := HK.out; omega
      have hall := all_end HT.out
      have HPS := Lib.hid (show possC cl last (l1, l2) = startsO cl last 0 (l2.drop 0) by rw [HPO.out, hall]; rfl)
      clear hall HT HPO
      have hbe : Below wr.heap.size wr wr := Below.refl _ _
      obtain ⟨wo, rfl⟩ : ∃ wo : World, wo = wr := ⟨_, rfl⟩
      have h' := h.keep hb
      go_wp2
      go_loopg [9, 39] l2.length (fun q x i wr => ∃ (k m : Nat), k + q = l2.length ∧ i = .int .i64 k ∧ x = .int .u16 m ∧ m < 65536 ∧ possC cl last (l1, l2) = startsO cl last m (l2.drop k) ∧ Below wo.heap.size wo wr)
      case atStart => exact ⟨0, 0, by omega, rfl, rfl, by omega, HPS.out, hbe⟩
      case round =>
        clear hbe hc1
        obtain ⟨k, m, hk, rfl, rfl, hm6, hps, hb'⟩ := hrel
        have HK := Lib.hid hk
        have HPS := Lib.hid hps
        clear hk hps
        by_cases hk8 : k < l2.length
        · obtain ⟨b1, o1, rfl, _, hbl1, hp1, hp2, hp3⟩ := F2.out k hk8
          replace hp1 := cell_keep (bt hb hb') hp1; replace hp2 := cell_keep (bt hb hb') hp2; replace hp3 := cell_keep (bt hb hb') hp3
          have i1 : (k : Int) < (l2.length : Int) := by omega
          have hzb : b1 < wr.heap.size := World.block_lt_of_cell? wr _ hp1
          have HOK := Lib.hid (B2.out k hk8)
          by_cases hA : last < (gd l2 k).2.1
          · have hq : inA cl last (gd l2 k) = false := by rw [inA, decide_eq_false (by omega)]; rfl
            have HN := Lib.hid (startsO_skip (m := m) hk8 hq)
            clear hq
            go_wp2
            go_roundg (gk - 1)
            case rel => exact ⟨k + 1, m, by have := HK.out; omega, by go_num, rfl, hm6, by rw [HPS.out, HN.out], bt hb' (by repeat (first | exact Below.refl _ _ | with_reducible assumption | exact below_alloc _ _ | (refine Below.setCell ?_ (by first | (simp; done) | (simp; omega) | omega) _) | apply bd | apply ba | apply be))⟩
            case measure => have := HK.out; omega
          by_cases hB : last < (gd l2 k).2.2
          · have hq : inA cl last (gd l2 k) = false := by rw [inA, decide_eq_false (p := (gd l2 k).2.2 ≤ last) (by omega)]; simp
            have HN := Lib.hid (startsO_skip (m := m) hk8 hq)
            clear hq
            go_wp2
            go_roundg (gk - 1)
            case rel => exact ⟨k + 1, m, by have := HK.out; omega, by go_num, rfl, hm6, by rw [HPS.out, HN.out], bt hb' (by repeat (first | exact Below.refl _ _ | with_reducible assumption | exact below_alloc _ _ | (refine Below.setCell ?_ (by first | (simp; done) | (simp; omega) | omega) _) | apply bd | apply ba | apply be))⟩
            case measure => have := HK.out; omega
          cases hp : fillC cl (gd l2 k)
          · have hq : inA cl last (gd l2 k) = false := by rw [inA, hp]; simp
            have HN := Lib.hid (startsO_skip (m := m) hk8 hq)
            have HP := Lib.hid hp
            clear hq hp
            go_wp2_with fail
            refine (cb (isFilledC_any b cl (gd l2 k) _ (h'.keep (bt hb' (by repeat (first | exact Below.refl _ _ | with_reducible assumption | exact below_alloc _ _ | (refine Below.setCell ?_ (by first | (simp; done) | (simp; omega) | omega) _) | apply bd | apply ba | apply be)))) HOK.out) HP.out).mono ?_
            rintro e w5 ⟨rfl, hb5⟩
            go_wp2
            go_roundg (gk - 1)
            case rel => exact ⟨k + 1, m, by have := HK.out; omega, by go_num, rfl, hm6, by rw [HPS.out, HN.out], bt (bt hb' (by repeat (first | exact Below.refl _ _ | with_reducible assumption | exact below_alloc _ _ | (refine Below.setCell ?_ (by first | (simp; done) | (simp; omega) | omega) _) | apply bd | apply ba | apply be))) hb5⟩
            case measure => have := HK.out; omega
          · have hq : inA cl last (gd l2 k) = true := by rw [inA, hp, decide_eq_true (by omega), decide_eq_true (by omega)]; rfl
            obtain ⟨t1, t2, t3, t4⟩ := atomB_le' HOK.out
            obtain ⟨i, hi⟩ := Int.eq_ofNat_of_zero_le t1
            have hi9 : (i : Int) < 9 := by omega
            obtain ⟨E, hE⟩ : ∃ E, gi cl i = E := ⟨_, rfl⟩
            have hEt : gi cl (gd l2 k).2.1.toNat = E := by rw [hi, Int.toNat_natCast, hE]
            have HP := Lib.hid (And.intro hp hi)
            have HE := Lib.hid hE
            by_cases hE0 : E = 0
            · have hkb : (E == 0) = true := by simp [hE0]
              have hs : (gi cl (gd l2 k).2.1.toNat == 0 || hasT m (gi cl (gd l2 k).2.1.toNat)) = true := by rw [hEt, hkb]; rfl
              have HN := Lib.hid (startsO_stop hk8 hq hs)
              clear hs hEt hE hi hp hq t1 t2 t3 t4 hE0
              go_wp2_with fail
              refine (cb (isFilledC_any b cl (gd l2 k) _ (h'.keep (bt hb' (by repeat (first | exact Below.refl _ _ | with_reducible assumption | exact below_alloc _ _ | (refine Below.setCell ?_ (by first | (simp; done) | (simp; omega) | omega) _) | apply bd | apply ba | apply be)))) HOK.out) HP.out.1).mono ?_
              rintro e w5 ⟨rfl, hb5⟩
              have hd1 := cell_keep hb5 (p := ⟨wr.heap.size, 1, none⟩) (v := .int .i64 (gd l2 k).2.1) (by simp [go_sem])
              rw [HP.out.2] at hd1
              have hw5 : Below wr.heap.size wr w5 := bt (by repeat (first | exact Below.refl _ _ | with_reducible assumption | exact below_alloc _ _ | (refine Below.setCell ?_ (by first | (simp; done) | (simp; omega) | omega) _) | apply bd | apply ba | apply be)) hb5
              have hA5 := h'.keep (bt hb' hw5)
              have hci := hA5.2.2 i (by omega)
              rw [HE.out] at hci
              have hzz : b < w5.heap.size := hA5.2.1
              have hzy : wr.heap.size < w5.heap.size := World.block_lt_of_cell? w5 _ hd1
              clear hb5 hA5
              go_wp2
              refine wp_region_ext (by kernel_rfl) (by kernel_rfl) ?_
              repeat (go_big_quiet_step ((fail)))
              refine wpQuiet_nil ?_
              intro w6 hb6
              go_wp2
              go_ret
              exact ⟨by rw [HPS.out, HN.out]; rfl, bt (bt hb hb') (bt hw5 hb6)⟩
            · have hkb : (E == 0) = false := by simp [hE0]
              cases hh : hasT m E
              · have hs : (gi cl (gd l2 k).2.1.toNat == 0 || hasT m (gi cl (gd l2 k).2.1.toNat)) = false := by rw [hEt, hkb, hh]; rfl
                have hn := startsO_next hk8 hq hs
                rw [hEt] at hn
                have hnl := termM_lt (t := E) hm6
                obtain ⟨n, hnn⟩ : ∃ n, termM m E = n := ⟨_, rfl⟩
                rw [hnn] at hn hnl
                have HN := Lib.hid hn
                have HH := Lib.hid (And.intro hh hnn)
                clear hs hEt hE hi hp hq t1 t2 t3 t4 hE0 hh hn hnn
                go_wp2_with fail
                refine (cb (isFilledC_any b cl (gd l2 k) _ (h'.keep (bt hb' (by repeat (first | exact Below.refl _ _ | with_reducible assumption | exact below_alloc _ _ | (refine Below.setCell ?_ (by first | (simp; done) | (simp; omega) | omega) _) | apply bd | apply ba | apply be)))) HOK.out) HP.out.1).mono ?_
                rintro e w5 ⟨rfl, hb5⟩
                have hd1 := cell_keep hb5 (p := ⟨wr.heap.size, 1, none⟩) (v := .int .i64 (gd l2 k).2.1) (by simp [go_sem])
                rw [HP.out.2] at hd1
                have hw5 : Below wr.heap.size wr w5 := bt (by repeat (first | exact Below.refl _ _ | with_reducible assumption | exact below_alloc _ _ | (refine Below.setCell ?_ (by first | (simp; done) | (simp; omega) | omega) _) | apply bd | apply ba | apply be)) hb5
                have hA5 := h'.keep (bt hb' hw5)
                have hci := hA5.2.2 i (by omega)
                rw [HE.out] at hci
                have hzz : b < w5.heap.size := hA5.2.1
                have hzy : wr.heap.size < w5.heap.size := World.block_lt_of_cell? w5 _ hd1
                clear hb5 hA5
                go_wp2
                refine wp_region_ext (by kernel_rfl) (by kernel_rfl) ?_
                repeat (go_big_quiet_step ((go_at_call 186; with_reducible exact ext_same (hasT_val _ hm6 HH.out.1))))
                refine wpQuiet_nil ?_
                intro w6 hb6
                replace hd1 := cell_keep hb6 hd1
                replace hci := cell_keep hb6 hci
                have hzz : b < w6.heap.size := World.block_lt_of_cell? w6 _ hci
                have hzy : wr.heap.size < w6.heap.size := World.block_lt_of_cell? w6 _ hd1
                go_wp2
                refine wp_region_ext (by kernel_rfl) (by kernel_rfl) ?_
                repeat (go_big_quiet_step ((go_at_call 94; with_reducible exact ext_same (withT_val _ hm6 HH.out.2))))
                refine wpQuiet_nil ?_
                intro w7 hb7
                go_wp2
                go_roundg (gk - 1)
                case rel => exact ⟨k + 1, n, by have := HK.out; omega, by go_num, rfl, hnl, by rw [HPS.out, HN.out], bt hb' (bt hw5 (bt hb6 hb7))⟩
                case measure => have := HK.out; omega
              · have hs : (gi cl (gd l2 k).2.1.toNat == 0 || hasT m (gi cl (gd l2 k).2.1.toNat)) = true := by rw [hEt, hkb, hh]; rfl
                have HN := Lib.hid (startsO_stop hk8 hq hs)
                have HH := Lib.hid hh
                clear hs hEt hE hi hp hq t1 t2 t3 t4 hE0 hh
                go_wp2_with fail
                refine (cb (isFilledC_any b cl (gd l2 k) _ (h'.keep (bt hb' (by repeat (first | exact Below.refl _ _ | with_reducible assumption | exact below_alloc _ _ | (refine Below.setCell ?_ (by first | (simp; done) | (simp; omega) | omega) _) | apply bd | apply ba | apply be)))) HOK.out) HP.out.1).mono ?_
                rintro e w5 ⟨rfl, hb5⟩
                have hd1 := cell_keep hb5 (p := ⟨wr.heap.size, 1, none⟩) (v := .int .i64 (gd l2 k).2.1) (by simp [go_sem])
                rw [HP.out.2] at hd1
                have hw5 : Below wr.heap.size wr w5 := bt (by repeat (first | exact Below.refl _ _ | with_reducible assumption | exact below_alloc _ _ | (refine Below.setCell ?_ (by first | (simp; done) | (simp; omega) | omega) _) | apply bd | apply ba | apply be)) hb5
                have hA5 := h'.keep (bt hb' hw5)
                have hci := hA5.2.2 i (by omega)
                rw [HE.out] at hci
                have hzz : b < w5.heap.size := hA5.2.1
                have hzy : wr.heap.size < w5.heap.size := World.block_lt_of_cell? w5 _ hd1
                clear hb5 hA5
                go_wp2
                refine wp_region_ext (by kernel_rfl) (by kernel_rfl) ?_
                repeat (go_big_quiet_step ((go_at_call 186; with_reducible exact ext_same (hasT_val _ hm6 HH.out))))
                refine wpQuiet_nil ?_
                intro w6 hb6
                go_wp2
                go_ret
                exact ⟨by rw [HPS.out, HN.out]; rfl, bt (bt hb hb') (bt hw5 hb6)⟩
        · obtain rfl : k = l2.length := by have := HK.out; omega
          have HE := Lib.hid (show possC cl last (l1, l2) = true by rw [HPS.out, List.drop_length]; rfl)
          go_wp2
          go_ret
          exact ⟨by rw [HE.out]; rfl, bt hb hb'⟩
end Go.Proofs.Ythoingdcmdhllaa
