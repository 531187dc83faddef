/- Walks: sets of terms; cases: facts and atoms. -/
import Derived.Test.YthoingdcmdhllaaData3
import Derived.Test.YthoingdcmdhllaaHold1
import Derived.Deep.Cut
namespace Go.Proofs.Ythoingdcmdhllaa
open Go.RowKit

/-- A set of terms with one more. -/
def termM (m : Nat) (t : Int) : Nat := if isTermB t = true then m ||| 2 ^ t.toNat else m
def hasT (m : Nat) (t : Int) : Bool := isTermB t && m.testBit t.toNat
theorem termM_lt {m : Nat} {t : Int} (h : m < 65536) : termM m t < 65536 := by
  unfold termM
  split
  · rename_i ht; have := isTermB_iff.1 ht; exact or_lt m _ h (by omega)
  · exact h
theorem termM_bit (m : Nat) (t : Int) (j : Nat) : (termM m t).testBit j = (m.testBit j || (isTermB t && decide (t = (j : Int)))) := by
  unfold termM
  split
  · rename_i ht
    have := isTermB_iff.1 ht
    rw [testBit_or_pow, ht, Bool.true_and]
    congr 1
    rw [decide_eq_decide]; omega
  · rename_i ht
    have ht' : isTermB t = false := by simpa using ht
    rw [ht', Bool.false_and, Bool.or_false]
def factsM (m : Nat) (l : List Fact) : Nat := l.foldl (fun m f => termM (termM m f.2.1) f.2.2) m
def atomsM (m : Nat) (l : List Atom) : Nat := l.foldl (fun m x => termM (termM m x.2.1) x.2.2) m
/-- The terms of an assertion. -/
def termsM (a : Asn) : Nat := atomsM (factsM 0 a.1) a.2
theorem factsM_step {m k : Nat} {l : List Fact} (h : k < l.length) : factsM m (l.take (k + 1)) = termM (termM (factsM m (l.take k)) (gd l k).2.1) (gd l k).2.2 := by
  rw [take_gd h, factsM, List.foldl_append]; rfl
theorem atomsM_step {m k : Nat} {l : List Atom} (h : k < l.length) : atomsM m (l.take (k + 1)) = termM (termM (atomsM m (l.take k)) (gd l k).2.1) (gd l k).2.2 := by
  rw [take_gd h, atomsM, List.foldl_append]; rfl
theorem factsM_lt {l : List Fact} : ∀ {m : Nat}, m < 65536 → factsM m l < 65536 := by
  induction l with
  | nil => exact fun h => h
  | cons f l ih => exact fun h => ih (termM_lt (termM_lt h))
theorem atomsM_lt {l : List Atom} : ∀ {m : Nat}, m < 65536 → atomsM m l < 65536 := by
  induction l with
  | nil => exact fun h => h
  | cons f l ih => exact fun h => ih (termM_lt (termM_lt h))
theorem termsM_lt (a : Asn) : termsM a < 65536 := atomsM_lt (factsM_lt (by decide))

set_option maxHeartbeats 400000 in
theorem withT_any (m : Nat) (t : Int) (w : World) (hm : m < 65536) :
    Calls Try.prog 94 #[.int .u16 m, .int .i64 t] w fun e w' => e = .returned (.int .u16 (termM m t)) ∧ w = w' := by
  by_cases ha : isTermB t = true
  · have hn := isTermB_iff.1 ha
    obtain ⟨k, rfl⟩ := Int.eq_ofNat_of_zero_le (show 0 ≤ t by omega)
    have hor := or_bit m k hm (by omega)
    have HO := Lib.hid hor
    clear hor
    go_enter Try.func94, Try.ntmps94
    go_wp2_with (go_at_call 164; refine (isTerm_any _ _).mono ?_; rintro e w' ⟨rfl, rfl⟩)
    go_ret
    refine ⟨?_, rfl⟩
    rw [termM, if_pos ha, Int.toNat_natCast, ← HO.out]; rfl
  · have ha' : isTermB t = false := by simpa using ha
    go_enter Try.func94, Try.ntmps94
    go_wp2_with (go_at_call 164; refine (isTerm_any _ _).mono ?_; rintro e w' ⟨rfl, rfl⟩)
    go_ret
    exact ⟨by rw [termM, if_neg ha]; rfl, rfl⟩
theorem withT_val {m n : Nat} {t : Int} (w : World) (hm : m < 65536) (h : termM m t = n) :
    Calls Try.prog 94 #[.int .u16 m, .int .i64 t] w fun e w' => e = .returned (.int .u16 n) ∧ w = w' := by
  subst h; exact withT_any m t w hm
set_option maxHeartbeats 400000 in
theorem hasT_any (m : Nat) (t : Int) (w : World) (hm : m < 65536) :
    Calls Try.prog 186 #[.int .u16 m, .int .i64 t] w fun e w' => e = .returned (.bool (hasT m t)) ∧ w = w' := by
  by_cases ha : isTermB t = true
  · have hn := isTermB_iff.1 ha
    obtain ⟨k, rfl⟩ := Int.eq_ofNat_of_zero_le (show 0 ≤ t by omega)
    have hfin := has_bit m k hm
    have HF := Lib.hid hfin
    clear hfin
    go_enter Try.func186, Try.ntmps186
    go_wp2_with (go_at_call 164; refine (isTerm_any _ _).mono ?_; rintro e w' ⟨rfl, rfl⟩)
    go_ret
    exact ⟨by simp [HF.out, hasT, ha], rfl⟩
  · have ha' : isTermB t = false := by simpa using ha
    go_enter Try.func186, Try.ntmps186
    go_wp2_with (go_at_call 164; refine (isTerm_any _ _).mono ?_; rintro e w' ⟨rfl, rfl⟩)
    go_ret
    exact ⟨by simp [ha', hasT], rfl⟩

theorem atomB_le' {x : Atom} (h : atomB x = true) : 0 ≤ x.2.1 ∧ x.2.1 ≤ 8 ∧ 0 ≤ x.2.2 ∧ x.2.2 ≤ 8 := by
  simp [atomB, isTermB] at h; omega
theorem any_yes' {α : Type} [Inhabited α] {p : α → Bool} {l : List α} {k : Nat} (h : k < l.length) (hp : p (gd l k) = true) : l.any p = true := by
  rw [List.any_eq_true]; exact ⟨_, gd_mem h, hp⟩
theorem any_take_no' {α : Type} [Inhabited α] {p : α → Bool} {l : List α} {k : Nat} (h : k < l.length) (ht : (l.take k).any p = false) (hp : p (gd l k) = false) : (l.take (k + 1)).any p = false := by
  rw [take_gd h, List.any_append, ht]; simp [hp]
theorem any_end' {α : Type} {p : α → Bool} {l : List α} (ht : (l.take l.length).any p = false) : l.any p = false := by rwa [List.take_length] at ht
/-- A block that holds nine numbers. -/
def RArr (w : World) (b : Nat) (cl : List Int) : Prop := cl.length = 9 ∧ b < w.heap.size ∧ ∀ i, i < 9 → w.cell? ⟨b, i, none⟩ = some (.int .i64 (gi cl i))
theorem RArr.keep {w w' : World} {b : Nat} {cl : List Int} (h : RArr w b cl) (hb : Below w.heap.size w w') : RArr w' b cl :=
  ⟨h.1, Nat.lt_of_lt_of_le h.2.1 hb.size, fun i hi => cell_keep hb (h.2.2 i hi)⟩
/-- A fact holds in a case. -/
def factC (cl : List Int) (f : Fact) : Bool := (gi cl f.2.1.toNat == gi cl f.2.2.toNat) == f.1
/-- An atom is filled in a case. -/
def fillC (cl : List Int) (x : Atom) : Bool := (x.1 == 1) || (gi cl x.2.1.toNat != gi cl x.2.2.toNat)
def atC (cl : List Int) (x : Atom) : Atom := (x.1, gi cl x.2.1.toNat, gi cl x.2.2.toNat)
def filledL (cl : List Int) (l : List Atom) : List Atom := (l.filter (fillC cl)).map (atC cl)

set_option maxRecDepth 100000 in
set_option maxHeartbeats 1600000 in
theorem factHoldsC_any (b : Nat) (cl : List Int) (f : Fact) (w : World) (h : RArr w b cl) (hf : factB f = true) :
    Calls Try.prog 95 #[.pointer (some ⟨b, 0, none⟩), .agg #[.bool f.1, .int .i64 f.2.1, .int .i64 f.2.2]] w fun e w' => e = .returned (.bool (factC cl f)) ∧ Below w.heap.size w w' := by
  obtain ⟨f1, f2, f3⟩ := f
  obtain ⟨t1, t2, t3, t4⟩ := factB_le hf
  simp only at t1 t2 t3 t4
  obtain ⟨i, rfl⟩ := Int.eq_ofNat_of_zero_le t1
  obtain ⟨j, rfl⟩ := Int.eq_ofNat_of_zero_le t3
  have hi9 : (i : Int) < 9 := by omega
  have hj9 : (j : Int) < 9 := by omega
  have hci := h.2.2 i (by omega)
  have hcj := h.2.2 j (by omega)
  have hzb := h.2.1
  have hres : factC cl (f1, ((i : Int), (j : Int))) = ((gi cl i == gi cl j) == f1) := rfl
  have HR := Lib.hid hres
  clear hres hf h
  go_enter Try.func95, Try.ntmps95
  go_wp2
  refine wp_region_ext (by kernel_rfl) (by kernel_rfl) ?_
  repeat (go_big_quiet_step ((fail)))
  refine wpQuiet_nil ?_
  intro w5 hb5
  go_wp2
  go_ret
  exact ⟨by rw [HR.out]; rfl, bt (by repeat (first | exact Below.refl _ _ | with_reducible assumption | exact below_alloc _ _ | (refine Below.setCell ?_ (by first | (simp; done) | (simp; omega) | omega) _) | apply bd | apply ba | apply be)) hb5⟩
set_option maxRecDepth 100000 in
set_option maxHeartbeats 1600000 in
theorem factsHoldC_any {S : Nat → Prop} (b : Nat) (cl : List Int) (v : Value) (l : List Fact) (w : World) (h : RArr w b cl) (hv : RL w S v l) (hf : l.all factB = true) :
    Calls Try.prog 188 #[.pointer (some ⟨b, 0, none⟩), v] w fun e w' => e = .returned (.bool (l.all (factC cl))) ∧ Below w.heap.size w w' := by
  have hm := hv.len
  unfold maxLen at hm
  obtain ⟨a, c, rfl, _, _, hf1⟩ := hv.factAt
  have F1 := Lib.hid hf1
  have HB := Lib.hid (all_of hf)
  clear hf1 hv hf
  go_enter Try.func188, Try.ntmps188
  go_wp2
  go_loopg [9] l.length (fun q i wr => ∃ k : Nat, k + q = l.length ∧ i = .int .i64 k ∧ (l.take k).all (factC cl) = true ∧ Below w.heap.size w wr)
  case atStart => exact ⟨0, by omega, rfl, by simp, Below.refl _ _⟩
  case round =>
    obtain ⟨k, hk, rfl, ht, hb⟩ := hrel
    have HK := Lib.hid hk
    have HT := Lib.hid ht
    clear hk ht
    by_cases hk8 : k < l.length
    · obtain ⟨b1, o1, rfl, _, hbl1, hp1, hp2, hp3⟩ := F1.out k hk8
      replace hp1 := cell_keep hb hp1; replace hp2 := cell_keep hb hp2; replace hp3 := cell_keep hb hp3
      have hs := hb.size
      have i1 : (k : Int) < (l.length : Int) := by omega
      have hzb : b1 < wr.heap.size := by omega
      have hok := HB.out k hk8
      have HOK := Lib.hid hok
      clear hok
      cases hp : factC cl (gd l k)
      · have HF := Lib.hid (all_no hk8 hp)
        have HP := Lib.hid hp
        clear hp
        go_wp2_with fail
        refine (cb (factHoldsC_any b cl (gd l k) _ (h.keep (bt hb (by repeat (first | exact Below.refl _ _ | with_reducible assumption | exact below_alloc _ _ | (refine Below.setCell ?_ (by first | (simp; done) | (simp; omega) | omega) _) | apply bd | apply ba | apply be)))) HOK.out) HP.out).mono ?_
        rintro e w5 ⟨rfl, hb5⟩
        go_wp2
        go_ret
        exact ⟨by rw [HF.out]; rfl, bt (bt hb (by repeat (first | exact Below.refl _ _ | with_reducible assumption | exact below_alloc _ _ | (refine Below.setCell ?_ (by first | (simp; done) | (simp; omega) | omega) _) | apply bd | apply ba | apply be))) hb5⟩
      · have HP := Lib.hid hp
        clear hp
        go_wp2_with fail
        refine (cb (factHoldsC_any b cl (gd l k) _ (h.keep (bt hb (by repeat (first | exact Below.refl _ _ | with_reducible assumption | exact below_alloc _ _ | (refine Below.setCell ?_ (by first | (simp; done) | (simp; omega) | omega) _) | apply bd | apply ba | apply be)))) HOK.out) HP.out).mono ?_
        rintro e w5 ⟨rfl, hb5⟩
        go_wp2
        go_roundg (gk - 1)
        case rel => exact ⟨k + 1, by have := HK.out; omega, by go_num, all_take_yes hk8 HT.out HP.out, bt (bt hb (by repeat (first | exact Below.refl _ _ | with_reducible assumption | exact below_alloc _ _ | (refine Below.setCell ?_ (by first | (simp; done) | (simp; omega) | omega) _) | apply bd | apply ba | apply be))) hb5⟩
        case measure => have := HK.out; omega
    · obtain rfl : k = l.length := by have := HK.out; omega
      have HA := Lib.hid (all_end HT.out)
      clear HT
      go_wp2
      go_ret
      exact ⟨by rw [HA.out]; rfl, hb⟩
set_option maxRecDepth 100000 in
set_option maxHeartbeats 1600000 in
theorem isFilledC_any (b : Nat) (cl : List Int) (x : Atom) (w : World) (h : RArr w b cl) (hx : atomB x = true) :
    Calls Try.prog 214 #[.pointer (some ⟨b, 0, none⟩), .agg #[.int .i64 x.1, .int .i64 x.2.1, .int .i64 x.2.2]] w fun e w' => e = .returned (.bool (fillC cl x)) ∧ Below w.heap.size w w' := by
  obtain ⟨x1, x2, x3⟩ := x
  obtain ⟨t1, t2, t3, t4⟩ := atomB_le' hx
  simp only at t1 t2 t3 t4
  obtain ⟨i, rfl⟩ := Int.eq_ofNat_of_zero_le t1
  obtain ⟨j, rfl⟩ := Int.eq_ofNat_of_zero_le t3
  have hi9 : (i : Int) < 9 := by omega
  have hj9 : (j : Int) < 9 := by omega
  have hci := h.2.2 i (by omega)
  have hcj := h.2.2 j (by omega)
  have hzb := h.2.1
  have hres : fillC cl (x1, ((i : Int), (j : Int))) = ((x1 == 1) || (gi cl i != gi cl j)) := rfl
  have HR := Lib.hid hres
  clear hres hx h
  by_cases hk : x1 = 1
  · have hkb : (x1 == 1) = true := by simp [hk]
    go_enter Try.func214, Try.ntmps214
    go_wp2
    refine wp_region_ext (by kernel_rfl) (by kernel_rfl) ?_
    repeat (go_big_quiet_step ((fail)))
    refine wpQuiet_nil ?_
    intro w5 hb5
    go_wp2
    go_ret
    exact ⟨by rw [HR.out, hkb]; rfl, bt (by repeat (first | exact Below.refl _ _ | with_reducible assumption | exact below_alloc _ _ | (refine Below.setCell ?_ (by first | (simp; done) | (simp; omega) | omega) _) | apply bd | apply ba | apply be)) hb5⟩
  · have hkb : (x1 == 1) = false := by simp [hk]
    go_enter Try.func214, Try.ntmps214
    go_wp2
    refine wp_region_ext (by kernel_rfl) (by kernel_rfl) ?_
    repeat (go_big_quiet_step ((fail)))
    refine wpQuiet_nil ?_
    intro w5 hb5
    go_wp2
    go_ret
    exact ⟨by rw [HR.out, hkb]; rfl, bt (by repeat (first | exact Below.refl _ _ | with_reducible assumption | exact below_alloc _ _ | (refine Below.setCell ?_ (by first | (simp; done) | (simp; omega) | omega) _) | apply bd | apply ba | apply be)) hb5⟩
set_option maxRecDepth 100000 in
set_option maxHeartbeats 1600000 in
theorem beginsAt_any {S : Nat → Prop} (v : Value) (l : List Atom) (c : Int) (w : World) (hv : RL w S v l) :
    Calls Try.prog 217 #[v, .int .i64 c] w fun e w' => e = .returned (.bool (l.any fun x => x.2.1 == c)) ∧ Below w.heap.size w w' := by
  have hm := hv.len
  unfold maxLen at hm
  obtain ⟨a, cp, rfl, _, _, hf1⟩ := hv.atomAt
  have F1 := Lib.hid hf1
  clear hf1 hv
  go_enter Try.func217, Try.ntmps217
  go_wp2
  go_loopg [9] l.length (fun q i wr => ∃ k : Nat, k + q = l.length ∧ i = .int .i64 k ∧ ((l.take k).any fun x => x.2.1 == c) = false ∧ Below w.heap.size w wr)
  case atStart => exact ⟨0, by omega, rfl, by simp, Below.refl _ _⟩
  case round =>
    obtain ⟨k, hk, rfl, ht, hb⟩ := hrel
    have HK := Lib.hid hk
    have HT := Lib.hid ht
    clear hk ht
    by_cases hk8 : k < l.length
    · obtain ⟨b1, o1, rfl, _, hbl1, hp1, hp2, hp3⟩ := F1.out k hk8
      replace hp1 := cell_keep hb hp1; replace hp2 := cell_keep hb hp2; replace hp3 := cell_keep hb hp3
      have hs := hb.size
      have i1 : (k : Int) < (l.length : Int) := by omega
      have hzb : b1 < wr.heap.size := by omega
      by_cases hp : (gd l k).2.1 = c
      · have hpb : ((gd l k).2.1 == c) = true := by simp [hp]
        have HF := Lib.hid (any_yes' (p := fun x : Atom => x.2.1 == c) hk8 hpb)
        clear hp
        go_wp2
        go_ret
        exact ⟨by rw [HF.out]; rfl, bt hb (by repeat (first | exact Below.refl _ _ | with_reducible assumption | exact below_alloc _ _ | (refine Below.setCell ?_ (by first | (simp; done) | (simp; omega) | omega) _) | apply bd | apply ba | apply be))⟩
      · have hpb : ((gd l k).2.1 == c) = false := by simp [hp]
        have HP := Lib.hid hpb
        clear hp
        go_wp2
        go_roundg (gk - 1)
        case rel => exact ⟨k + 1, by have := HK.out; omega, by go_num, any_take_no' (p := fun x : Atom => x.2.1 == c) hk8 HT.out HP.out, bt hb (by repeat (first | exact Below.refl _ _ | with_reducible assumption | exact below_alloc _ _ | (refine Below.setCell ?_ (by first | (simp; done) | (simp; omega) | omega) _) | apply bd | apply ba | apply be))⟩
        case measure => have := HK.out; omega
    · obtain rfl : k = l.length := by have := HK.out; omega
      have HA := Lib.hid (any_end' HT.out)
      clear HT
      go_wp2
      go_ret
      exact ⟨by rw [HA.out]; rfl, hb⟩
end Go.Proofs.Ythoingdcmdhllaa
