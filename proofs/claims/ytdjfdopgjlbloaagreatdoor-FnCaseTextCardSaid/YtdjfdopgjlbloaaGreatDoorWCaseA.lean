/- CaseA: texts Case1, Case2, Case3, Case4 in one. -/
import Derived.Test.YtdjfdopgjlbloaaGreatDoorWData3
import Derived.Test.YtdjfdopgjlbloaaGreatDoorWMath1
import Derived.Deep.Cut
import Derived.Deep.RegionHeld3
/- Walks: sets of terms; cases: facts and atoms. -/
namespace Go.Proofs.YtdjfdopgjlbloaaGreatDoor
open Go.RowKit

/-- A set of terms with one more. -/
def termM (m : Nat) (t : Int) : Nat := if isTermB t = true then m ||| 2 ^ t.toNat else m
def hasT (m : Nat) (t : Int) : Bool := isTermB t && m.testBit t.toNat
theorem termM_bit (m : Nat) (t : Int) (j : Nat) : (termM m t).testBit j = (m.testBit j || (isTermB t && decide (t = (j : Int)))) := by
  unfold termM
  split
  · rename_i ht
    have := isTermB_iff.1 ht
    rw [testBit_or_pow, ht, Bool.true_and]
    congr 1
    rw [decide_eq_decide]; omega
  · rename_i ht
    have ht' : isTermB t = false := by simpa using ht
    rw [ht', Bool.false_and, Bool.or_false]
def factsM (m : Nat) (l : List Fact) : Nat := l.foldl (fun m f => termM (termM m f.2.1) f.2.2) m
def atomsM (m : Nat) (l : List Atom) : Nat := l.foldl (fun m x => termM (termM m x.2.1) x.2.2) m
/-- The terms of an assertion. -/
def termsM (a : Asn) : Nat := atomsM (factsM 0 a.1) a.2
theorem factsM_step {m k : Nat} {l : List Fact} (h : k < l.length) : factsM m (l.take (k + 1)) = termM (termM (factsM m (l.take k)) (gd l k).2.1) (gd l k).2.2 := by
  rw [take_gd h, factsM, List.foldl_append]; rfl
theorem atomsM_step {m k : Nat} {l : List Atom} (h : k < l.length) : atomsM m (l.take (k + 1)) = termM (termM (atomsM m (l.take k)) (gd l k).2.1) (gd l k).2.2 := by
  rw [take_gd h, atomsM, List.foldl_append]; rfl
theorem atomB_le' {x : Atom} (h : atomB x = true) : 0 ≤ x.2.1 ∧ x.2.1 ≤ 8 ∧ 0 ≤ x.2.2 ∧ x.2.2 ≤ 8 := by
  simp [atomB, isTermB] at h; omega
theorem any_yes' {α : Type} [Inhabited α] {p : α → Bool} {l : List α} {k : Nat} (h : k < l.length) (hp : p (gd l k) = true) : l.any p = true := by
  rw [List.any_eq_true]; exact ⟨_, gd_mem h, hp⟩
theorem any_take_no' {α : Type} [Inhabited α] {p : α → Bool} {l : List α} {k : Nat} (h : k < l.length) (ht : (l.take k).any p = false) (hp : p (gd l k) = false) : (l.take (k + 1)).any p = false := by
  rw [take_gd h, List.any_append, ht]; simp [hp]
theorem any_end' {α : Type} {p : α → Bool} {l : List α} (ht : (l.take l.length).any p = false) : l.any p = false := by rwa [List.take_length] at ht
/-- A block that holds nine numbers. -/
def RArr (w : World) (b : Nat) (cl : List Int) : Prop := cl.length = 9 ∧ b < w.heap.size ∧ ∀ i, i < 9 → w.cell? ⟨b, i, none⟩ = some (.int .i64 (gi cl i))
theorem RArr.keep {w w' : World} {b : Nat} {cl : List Int} (h : RArr w b cl) (hb : Below w.heap.size w w') : RArr w' b cl :=
  ⟨h.1, Nat.lt_of_lt_of_le h.2.1 hb.size, fun i hi => cell_keep hb (h.2.2 i hi)⟩
/-- A fact holds in a case. -/
def factC (cl : List Int) (f : Fact) : Bool := (gi cl f.2.1.toNat == gi cl f.2.2.toNat) == f.1
/-- An atom is filled in a case. -/
def fillC (cl : List Int) (x : Atom) : Bool := (x.1 == 1) || (gi cl x.2.1.toNat != gi cl x.2.2.toNat)
def atC (cl : List Int) (x : Atom) : Atom := (x.1, gi cl x.2.1.toNat, gi cl x.2.2.toNat)
def filledL (cl : List Int) (l : List Atom) : List Atom := (l.filter (fillC cl)).map (atC cl)

end Go.Proofs.YtdjfdopgjlbloaaGreatDoor
/- Walks: cases: filled atoms; terms of an assertion. -/
namespace Go.Proofs.YtdjfdopgjlbloaaGreatDoor
open Go.RowKit

/-- The cells of atoms. -/
def acl (l : List Atom) : List Value := (l.map fun x => [Value.int .i64 x.1, .int .i64 x.2.1, .int .i64 x.2.2]).flatten
theorem acl_app (l m : List Atom) : acl (l ++ m) = acl l ++ acl m := by simp [acl]
theorem acl_one (x : Atom) : acl [x] = [.int .i64 x.1, .int .i64 x.2.1, .int .i64 x.2.2] := rfl
theorem acl_nth {l : List Atom} {i : Nat} (h : i < l.length) : nth 3 (acl l) i = [.int .i64 (gd l i).1, .int .i64 (gd l i).2.1, .int .i64 (gd l i).2.2] := by
  rw [acl, nth_flat (by intro c hc; obtain ⟨x, _, rfl⟩ := List.mem_map.1 hc; rfl) (by simpa using h)]
  simp [gd, h]
/-- A row of atoms of one's own. -/
def AO (w : World) (B : Nat) (v : Value) (l : List Atom) : Prop := w.ownsRow B 84 3 v l.length (acl l)
theorem AO.rl {w : World} {B : Nat} {v : Value} {l : List Atom} (h : AO w B v l) : RL w (fun k => B ≤ k) v l := by
  refine (RowE.rl (α := Atom) (S := fun _ => False) (.inr h) fun i hi => ?_).more fun k _ hk => ?_
  · rw [show Dat.sz Atom = 3 from rfl, acl_nth hi]
    exact ⟨[.int .i64 (gd l i).1], [.int .i64 (gd l i).2.1, .int .i64 (gd l i).2.2], rfl, rfl, ⟨[.int .i64 (gd l i).2.1], [.int .i64 (gd l i).2.2], rfl, rfl, rfl⟩⟩
  · rcases hk with hk | hk
    · exact hk.elim
    · exact hk
theorem AO.keep {w w' : World} {B : Nat} {v : Value} {l : List Atom} (h : AO w B v l) (hb : Below w.heap.size w w') : AO w' B v l := own_keep h hb
theorem AO.mono {w : World} {B B' : Nat} {v : Value} {l : List Atom} (h : AO w B v l) (hB : B' ≤ B) : AO w B' v l := own_mono h hB
theorem AO.snoc {w : World} {B : Nat} {v : Value} {l : List Atom} {x : Atom} (h : w.ownsRow B 84 3 v (l.length + 1) (acl l ++ [.int .i64 x.1, .int .i64 x.2.1, .int .i64 x.2.2])) : AO w B v (l ++ [x]) := by
  unfold AO
  rw [List.length_append, acl_app, acl_one]
  exact h
theorem news3 (w : World) (x y z : Value) (e : TypeId) : 0 < 1 → ∃ b o, some (⟨w.heap.size, 0, none⟩ : Addr) = some ⟨b, o, none⟩ ∧ ∀ j u, [x, y, z][j]? = some u → (w.alloc (.cells #[x, y, z] e)).cell? ⟨b, o + j, none⟩ = some u := fun _ =>
  ⟨w.heap.size, 0, rfl, fun j u hj => by
    match j, hj with
    | 0, hj => simp at hj; subst hj; simp
    | 1, hj => simp at hj; subst hj; simp
    | 2, hj => simp at hj; subst hj; simp⟩
theorem news3g (w : World) (g : Nat) (hg : w.heap.size = g) (x y z : Value) (e : TypeId) : 0 < 1 → ∃ b o, some (⟨g, 0, none⟩ : Addr) = some ⟨b, o, none⟩ ∧ ∀ j u, [x, y, z][j]? = some u → (w.alloc (.cells #[x, y, z] e)).cell? ⟨b, o + j, none⟩ = some u := by
  subst hg; exact news3 w x y z e
theorem own_empA (w : World) (B : Nat) (hB : B ≤ w.heap.size) : AO (w.alloc (.cells #[] 84)) B (.slice (some ⟨w.heap.size, 0, none⟩) 0 0) [] :=
  World.ownsRow_lit (size := 3) w #[] 0 hB (by unfold maxLen; omega) rfl
theorem one3 (x y z : Int) : ∀ u ∈ [Value.int .i64 x, Value.int .i64 y, Value.int .i64 z], u.oneCell' = true := fun u hu => by
  simp at hu
  rcases hu with rfl | rfl | rfl <;> rfl
theorem filledL_yes {cl : List Int} {l : List Atom} {k : Nat} (h : k < l.length) (hf : fillC cl (gd l k) = true) : filledL cl (l.take (k + 1)) = filledL cl (l.take k) ++ [atC cl (gd l k)] := by
  rw [take_gd h, filledL, List.filter_append, List.map_append]
  simp [hf, filledL]
theorem filledL_no {cl : List Int} {l : List Atom} {k : Nat} (h : k < l.length) (hf : fillC cl (gd l k) = false) : filledL cl (l.take (k + 1)) = filledL cl (l.take k) := by
  rw [take_gd h, filledL, List.filter_append, List.map_append]
  simp [hf, filledL]
theorem filledL_len (cl : List Int) (l : List Atom) : (filledL cl l).length ≤ l.length := by
  rw [filledL, List.length_map]; exact List.length_filter_le _ _
theorem filledL_lenk (cl : List Int) (l : List Atom) (k : Nat) : (filledL cl (l.take k)).length ≤ l.length := by
  refine Nat.le_trans (filledL_len _ _) ?_
  rw [List.length_take]; omega

set_option maxRecDepth 100000 in
set_option maxHeartbeats 3200000 in
theorem filledS_any {S : Nat → Prop} (cv v : Value) (cl : List Int) (l : List Atom) (w : World) (hc : RInts w cv cl) (hc9 : cl.length = 9) (hv : RL w S v l) (hx : l.all atomB = true) (hl : l.length ≤ 1048576) :
    Calls Tryz.prog 43 #[v, cv] w fun e w' => ∃ v', e = .returned v' ∧ AO w' w.heap.size v' (filledL cl l) ∧ Below w.heap.size w w' := by
  obtain ⟨a, c, rfl, _, _, hf1⟩ := hv.atomAt
  have F1 := Lib.hid hf1
  have HB := Lib.hid (all_of hx)
  obtain ⟨cb, co, cc, rfl, _, _, hcell⟩ := hc.ne (by omega)
  have HC := Lib.hid hcell
  have HC9 := Lib.hid hc9
  clear hf1 hv hx hcell hc9 hc
  go_enter Tryz.func43, Tryz.ntmps43
  go_wp2
  go_loopg [5, 6] l.length (fun q x i wr => ∃ k : Nat, k + q = l.length ∧ i = .int .i64 k ∧ AO wr w.heap.size x (filledL cl (l.take k)) ∧ Below w.heap.size w wr)
  case atStart => exact ⟨0, by omega, rfl, own_empA w _ (Nat.le_refl _), below_alloc _ _⟩
  case round =>
    obtain ⟨k, hk, rfl, ho, hb⟩ := hrel
    have HK := Lib.hid hk
    clear hk
    by_cases hk8 : k < l.length
    · obtain ⟨b1, o1, rfl, _, hbl1, hp1, hp2, hp3⟩ := F1.out k hk8
      replace hp1 := cell_keep hb hp1; replace hp2 := cell_keep hb hp2; replace hp3 := cell_keep hb hp3
      have hs := hb.size
      have i1 : (k : Int) < (l.length : Int) := by omega
      have hzb : b1 < wr.heap.size := by omega
      have hok := HB.out k hk8
      have HO := Lib.hid ho
      obtain ⟨t1, t2, t3, t4⟩ := atomB_le' hok
      obtain ⟨i, hi⟩ := Int.eq_ofNat_of_zero_le t1
      obtain ⟨j, hj⟩ := Int.eq_ofNat_of_zero_le t3
      have hi9 : (i : Int) < (cl.length : Int) := by rw [HC9.out]; omega
      have hj9 : (j : Int) < (cl.length : Int) := by rw [HC9.out]; omega
      have hat : atC cl (gd l k) = ((gd l k).1, gi cl i, gi cl j) := by simp only [atC, hi, hj, Int.toNat_natCast]
      have hfl : fillC cl (gd l k) = (((gd l k).1 == 1) || (gi cl i != gi cl j)) := by simp only [fillC, hi, hj, Int.toNat_natCast]
      have HA := Lib.hid hat
      rw [hi] at hp2
      rw [hj] at hp3
      have hci := cell_keep hb (HC.out i (by omega))
      have hcj := cell_keep hb (HC.out j (by omega))
      have hzc : cb < wr.heap.size := World.block_lt_of_cell? wr _ hci
      have hln := filledL_lenk cl l k
      clear hat t1 t2 t3 t4 hi hj hok ho
      by_cases hk1 : (gd l k).1 = 1
      · have hkb : ((gd l k).1 == 1) = true := by simp [hk1]
        have hp : fillC cl (gd l k) = true := by rw [hfl, hkb]; rfl
        have hN := filledL_yes hk8 hp
        have HP := Lib.hid (And.intro hp hN)
        clear hp hN hfl hk1
        go_wp2
        go_region_held3 (fun w' => (w'.cell? ⟨b1, o1 + k * 3, none⟩ = some (.int .i64 (gd l k).1) ∧ w'.cell? ⟨b1, o1 + k * 3 + 1, none⟩ = some (.int .i64 i) ∧ w'.cell? ⟨b1, o1 + k * 3 + 2, none⟩ = some (.int .i64 j)) ∧ (w'.cell? ⟨cb, co + i, none⟩ = some (.int .i64 (gi cl i)) ∧ w'.cell? ⟨cb, co + j, none⟩ = some (.int .i64 (gi cl j))))
          (exact ⟨⟨cell_keep Bl hp1, cell_keep Bl hp2, cell_keep Bl hp3⟩, cell_keep Bl hci, cell_keep Bl hcj⟩)
          (first | fail)
        go_wp2_with (at_builtin; go_must (refine app_cells (n := (filledL cl (l.take k)).length) (m := 1) (news := [.int .i64 (gd l k).1, .int .i64 (gi cl i), .int .i64 (gi cl j)]) rfl (.tmp 47) (.tmp 49) _ rfl (B := w.heap.size) ti_atom rfl (own_keep HO.out Bl) rfl rfl (news3g _ _ (by simp) _ _ _ _) (one3 _ _ _) (by omega) (by simp; omega) ?_; intro v' w7 hr7 hf7 hl7))
        have hbb : Below w.heap.size w w7 := below_own (own_keep HO.out Bl) hf7 (bt hb Bl) (by simp; omega)
        go_roundg (gk - 1)
        case rel => exact ⟨k + 1, by have := HK.out; omega, by go_num, by rw [HP.out.2, HA.out]; exact AO.snoc hr7, hbb⟩
        case measure => have := HK.out; omega
      · have hkb : ((gd l k).1 == 1) = false := by simp [hk1]
        clear hk1
        by_cases hn1 : gi cl i = gi cl j
        · have hnb : (gi cl i != gi cl j) = false := by simp [hn1]
          have hp : fillC cl (gd l k) = false := by rw [hfl, hkb, hnb]; rfl
          have hN := filledL_no hk8 hp
          have HP := Lib.hid (And.intro hp hN)
          clear hp hN hfl hn1
          go_wp2
          go_region_held3 (fun w' => (w'.cell? ⟨b1, o1 + k * 3, none⟩ = some (.int .i64 (gd l k).1) ∧ w'.cell? ⟨b1, o1 + k * 3 + 1, none⟩ = some (.int .i64 i) ∧ w'.cell? ⟨b1, o1 + k * 3 + 2, none⟩ = some (.int .i64 j)) ∧ (w'.cell? ⟨cb, co + i, none⟩ = some (.int .i64 (gi cl i)) ∧ w'.cell? ⟨cb, co + j, none⟩ = some (.int .i64 (gi cl j))))
            (exact ⟨⟨cell_keep Bl hp1, cell_keep Bl hp2, cell_keep Bl hp3⟩, cell_keep Bl hci, cell_keep Bl hcj⟩)
            (first | fail)
          go_wp2
          go_roundg (gk - 1)
          case rel => exact ⟨k + 1, by have := HK.out; omega, by go_num, by rw [HP.out.2]; exact HO.out.keep Bl, bt hb Bl⟩
          case measure => have := HK.out; omega
        · have hnb : (gi cl i != gi cl j) = true := by simp [hn1]
          have hp : fillC cl (gd l k) = true := by rw [hfl, hkb, hnb]; rfl
          have hN := filledL_yes hk8 hp
          have HP := Lib.hid (And.intro hp hN)
          clear hp hN hfl hn1
          go_wp2
          go_region_held3 (fun w' => (w'.cell? ⟨b1, o1 + k * 3, none⟩ = some (.int .i64 (gd l k).1) ∧ w'.cell? ⟨b1, o1 + k * 3 + 1, none⟩ = some (.int .i64 i) ∧ w'.cell? ⟨b1, o1 + k * 3 + 2, none⟩ = some (.int .i64 j)) ∧ (w'.cell? ⟨cb, co + i, none⟩ = some (.int .i64 (gi cl i)) ∧ w'.cell? ⟨cb, co + j, none⟩ = some (.int .i64 (gi cl j))))
            (exact ⟨⟨cell_keep Bl hp1, cell_keep Bl hp2, cell_keep Bl hp3⟩, cell_keep Bl hci, cell_keep Bl hcj⟩)
            (first | fail)
          go_wp2_with (at_builtin; go_must (refine app_cells (n := (filledL cl (l.take k)).length) (m := 1) (news := [.int .i64 (gd l k).1, .int .i64 (gi cl i), .int .i64 (gi cl j)]) rfl (.tmp 47) (.tmp 49) _ rfl (B := w.heap.size) ti_atom rfl (own_keep HO.out Bl) rfl rfl (news3g _ _ (by simp) _ _ _ _) (one3 _ _ _) (by omega) (by simp; omega) ?_; intro v' w7 hr7 hf7 hl7))
          have hbb : Below w.heap.size w w7 := below_own (own_keep HO.out Bl) hf7 (bt hb Bl) (by simp; omega)
          go_roundg (gk - 1)
          case rel => exact ⟨k + 1, by have := HK.out; omega, by go_num, by rw [HP.out.2, HA.out]; exact AO.snoc hr7, hbb⟩
          case measure => have := HK.out; omega
    · obtain rfl : k = l.length := by have := HK.out; omega
      rw [List.take_length] at ho
      go_wp2
      go_ret
      exact ⟨_, rfl, ho, hb⟩
end Go.Proofs.YtdjfdopgjlbloaaGreatDoor
/- Walks: the terms of an assertion. -/
namespace Go.Proofs.YtdjfdopgjlbloaaGreatDoor
open Go.RowKit

theorem mk9T (w : World) : (Instr.makeSlice 76 (.int .i64 9) (.int .i64 9)).run Tryz.prog w =
    .ok (.slice (some ⟨w.heap.size, 0, none⟩) 9 9) (w.alloc (.cells #[.bool false, .bool false, .bool false, .bool false, .bool false, .bool false, .bool false, .bool false, .bool false] 4)) := by kernel_rfl
theorem own9T (w : World) (B : Nat) (hB : B ≤ w.heap.size) :
    (w.alloc (.cells #[.bool false, .bool false, .bool false, .bool false, .bool false, .bool false, .bool false, .bool false, .bool false] 4)).ownsRow B 4 1 (.slice (some ⟨w.heap.size, 0, none⟩) 9 9) 9 (flagsOf 0) :=
  World.ownsRow_lit (size := 1) w _ 9 hB (by unfold maxLen; omega) rfl
theorem termM_nat {m n : Nat} (h : n ≤ 8) : termM m (n : Int) = m ||| 2 ^ n := by
  rw [termM, if_pos (isTermB_iff.2 (by omega)), Int.toNat_natCast]
set_option maxRecDepth 100000 in
set_option maxHeartbeats 3200000 in
theorem l3Terms_any {S1 S2 : Nat → Prop} (v1 v2 : Value) (a : Asn) (w : World) (h1 : RL w S1 v1 a.1) (h2 : RL w S2 v2 a.2) (hx1 : a.1.all factB = true) (hx2 : a.2.all atomB = true) :
    Calls Tryz.prog 60 #[.agg #[v1, v2]] w fun e w' => ∃ v, e = .returned v ∧ w'.ownsRow w.heap.size 4 1 v 9 (flagsOf (termsM a)) ∧ Below w.heap.size w w' := by
  have hmk := mk9T
  have hm1 := h1.len
  have hm2 := h2.len
  unfold maxLen at hm1 hm2
  obtain ⟨l1, l2⟩ := a
  simp only at h1 h2 hm1 hm2 hx1 hx2
  obtain ⟨a1, c1, rfl, _, _, hf1⟩ := h1.factAt
  obtain ⟨a2, c2, rfl, _, _, hf2⟩ := h2.atomAt
  have F1 := Lib.hid hf1
  have F2 := Lib.hid hf2
  have B1 := Lib.hid (all_of hx1)
  have B2 := Lib.hid (all_of hx2)
  clear hf1 hf2 h1 h2 hx1 hx2
  have hfl := own9T (w.alloc (.cells #[.slice a1 l1.length c1, .slice a2 l2.length c2] 37)) w.heap.size (by simp)
  simp only [World.size_alloc] at hfl
  have HFL := Lib.hid hfl
  clear hfl
  go_enter Tryz.func60, Tryz.ntmps60
  go_wp2
  go_loopg [4] l1.length (fun q i wr => ∃ k : Nat, k + q = l1.length ∧ i = .int .i64 k ∧ wr.ownsRow w.heap.size 4 1 (.slice (some ⟨w.heap.size + 1, 0, none⟩) 9 9) 9 (flagsOf (factsM 0 (l1.take k))) ∧ (wr.cell? ⟨w.heap.size, 0, none⟩ = some (.slice a1 l1.length c1) ∧ wr.cell? ⟨w.heap.size, 1, none⟩ = some (.slice a2 l2.length c2)) ∧ Below w.heap.size w wr)
  case atStart => exact ⟨0, by omega, rfl, HFL.out, ⟨by simp [go_sem], by simp [go_sem]⟩, Bl⟩
  case round =>
    obtain ⟨k, hk, rfl, ho, ⟨hc0, hc1⟩, hb⟩ := hrel
    have HK := Lib.hid hk
    clear hk
    have hz : w.heap.size < wr.heap.size := World.block_lt_of_cell? wr _ hc1
    have hzf : w.heap.size + 1 < wr.heap.size := (ho.lt _ rfl).2
    by_cases hk8 : k < l1.length
    · obtain ⟨b1, o1, rfl, _, hbl1, hp1, hp2, hp3⟩ := F1.out k hk8
      replace hp1 := cell_keep hb hp1; replace hp2 := cell_keep hb hp2; replace hp3 := cell_keep hb hp3
      have i1 : (k : Int) < (l1.length : Int) := by omega
      have hne : ¬ b1 = w.heap.size + 1 := by omega
      have hst := factsM_step (m := 0) hk8
      obtain ⟨t1, t2, t3, t4⟩ := factB_le (B1.out k hk8)
      obtain ⟨i, hi⟩ := Int.eq_ofNat_of_zero_le t1
      obtain ⟨j, hj⟩ := Int.eq_ofNat_of_zero_le t3
      have hi9 : (i : Int) < 9 := by omega
      have hj9 : (j : Int) < 9 := by omega
      obtain ⟨m, hm⟩ : ∃ m, factsM 0 (l1.take k) = m := ⟨_, rfl⟩
      rw [hi, hj, termM_nat (by omega), termM_nat (by omega), hm] at hst
      rw [hm] at ho
      rw [hi] at hp2
      rw [hj] at hp3
      have HST := Lib.hid hst
      obtain ⟨s1, g1⟩ := ho.stored i (.bool true)
      rw [flags_set m i (by omega)] at s1
      have f1 := grown_fr g1
      have z1 := ho.frozenAt i
      have y1 : wr.cell? ⟨w.heap.size + 1, i, none⟩ = some (.bool (m.testBit i)) := by
        have := ho.cellAt i (by omega)
        rw [flags_at m i (by omega)] at this
        simpa using this
      have hc0' := f1.cell (p := ⟨w.heap.size, 0, none⟩) (fun e => by have := Option.some.inj e; simp at this) hc0
      have hc1' := f1.cell (p := ⟨w.heap.size, 1, none⟩) (fun e => by have := Option.some.inj e; simp at this) hc1
      have hp3' := f1.cell (p := ⟨b1, o1 + k * 3 + 2, none⟩) (fun e => hne (Option.some.inj e)) hp3
      have hb1 := hb.trans (f1.below hb.size fun k _ e => by have := Option.some.inj e; omega)
      have HS1 := Lib.hid (And.intro s1 hb1)
      have HC1 := Lib.hid (And.intro hp3' (And.intro hc0' hc1'))
      clear hst t1 t2 t3 t4 hi hj hm ho s1 g1 f1 hp3' hb1 hc0' hc1'
      go_upto_region 6 with fail
      generalize wr.setCell ⟨w.heap.size + 1, i, none⟩ (.bool true) = w6 at HS1 HC1 ⊢
      have s1 := HS1.out.1
      have hb6 := HS1.out.2
      have hp6 := HC1.out.1
      have hd0 := HC1.out.2.1
      have hd1 := HC1.out.2.2
      obtain ⟨s2, g2⟩ := s1.stored j (.bool true)
      rw [flags_set _ j (by omega)] at s2
      have z2 := s1.frozenAt j
      have y2 : w6.cell? ⟨w.heap.size + 1, j, none⟩ = some (.bool ((m ||| 2 ^ i).testBit j)) := by
        have := s1.cellAt j (by omega)
        rw [flags_at _ j (by omega)] at this
        simpa using this
      have HS := Lib.hid (And.intro s2 (grown_fr g2))
      clear s1 s2 g2 hc1 z1 y1 hc0 hp1 hp2 hp3
      go_wp2
      go_roundg (gk - 1)
      case rel => exact ⟨k + 1, by have := HK.out; omega, by go_num, by rw [HST.out]; exact HS.out.1, ⟨HS.out.2.cell (fun e => by have := Option.some.inj e; simp at this) hd0, HS.out.2.cell (fun e => by have := Option.some.inj e; simp at this) hd1⟩, hb6.trans (HS.out.2.below hb6.size fun k _ e => by have := Option.some.inj e; omega)⟩
      case measure => have := HK.out; omega
    · obtain rfl : k = l1.length := by have := HK.out; omega
      rw [List.take_length] at ho
      have hT : termsM (l1, l2) = atomsM (factsM 0 l1) l2 := rfl
      obtain ⟨M, hM⟩ : ∃ m, factsM 0 l1 = m := ⟨_, rfl⟩
      rw [hM] at ho hT
      have HT := Lib.hid hT
      have HO := Lib.hid ho
      clear hM hT ho
      obtain ⟨wo, rfl⟩ : ∃ wo : World, wo = wr := ⟨_, rfl⟩
      go_wp2
      go_loopg [5] l2.length (fun q i wr => ∃ k : Nat, k + q = l2.length ∧ i = .int .i64 k ∧ wr.ownsRow w.heap.size 4 1 (.slice (some ⟨w.heap.size + 1, 0, none⟩) 9 9) 9 (flagsOf (atomsM M (l2.take k))) ∧ wr.cell? ⟨w.heap.size, 1, none⟩ = some (.slice a2 l2.length c2) ∧ Below w.heap.size w wr)
      case atStart => exact ⟨0, by omega, rfl, HO.out, hc1, hb⟩
      case round =>
        clear hc0 hc1 hb hz hzf
        obtain ⟨k, hk, rfl, ho, hc1, hb⟩ := hrel
        have HK := Lib.hid hk
        clear hk
        have hz : w.heap.size < wr.heap.size := World.block_lt_of_cell? wr _ hc1
        have hzf : w.heap.size + 1 < wr.heap.size := (ho.lt _ rfl).2
        by_cases hk8 : k < l2.length
        · obtain ⟨b1, o1, rfl, _, hbl1, hp1, hp2, hp3⟩ := F2.out k hk8
          replace hp1 := cell_keep hb hp1; replace hp2 := cell_keep hb hp2; replace hp3 := cell_keep hb hp3
          have i1 : (k : Int) < (l2.length : Int) := by omega
          have hne : ¬ b1 = w.heap.size + 1 := by omega
          have hst := atomsM_step (m := M) hk8
          obtain ⟨t1, t2, t3, t4⟩ := atomB_le' (B2.out k hk8)
          obtain ⟨i, hi⟩ := Int.eq_ofNat_of_zero_le t1
          obtain ⟨j, hj⟩ := Int.eq_ofNat_of_zero_le t3
          have hi9 : (i : Int) < 9 := by omega
          have hj9 : (j : Int) < 9 := by omega
          obtain ⟨m, hm⟩ : ∃ m, atomsM M (l2.take k) = m := ⟨_, rfl⟩
          rw [hi, hj, termM_nat (by omega), termM_nat (by omega), hm] at hst
          rw [hm] at ho
          rw [hi] at hp2
          rw [hj] at hp3
          have HST := Lib.hid hst
          obtain ⟨s1, g1⟩ := ho.stored i (.bool true)
          rw [flags_set m i (by omega)] at s1
          have f1 := grown_fr g1
          have z1 := ho.frozenAt i
          have y1 : wr.cell? ⟨w.heap.size + 1, i, none⟩ = some (.bool (m.testBit i)) := by
            have := ho.cellAt i (by omega)
            rw [flags_at m i (by omega)] at this
            simpa using this
          have hc1' := f1.cell (p := ⟨w.heap.size, 1, none⟩) (fun e => by have := Option.some.inj e; simp at this) hc1
          have hp3' := f1.cell (p := ⟨b1, o1 + k * 3 + 2, none⟩) (fun e => hne (Option.some.inj e)) hp3
          have hb1 := hb.trans (f1.below hb.size fun k _ e => by have := Option.some.inj e; omega)
          have HS1 := Lib.hid (And.intro s1 hb1)
          have HC1 := Lib.hid (And.intro hp3' hc1')
          clear hst t1 t2 t3 t4 hi hj hm ho s1 g1 f1 hp3' hb1 hc1'
          go_upto_region 11 with fail
          generalize wr.setCell ⟨w.heap.size + 1, i, none⟩ (.bool true) = w6 at HS1 HC1 ⊢
          have s1 := HS1.out.1
          have hb6 := HS1.out.2
          have hp6 := HC1.out.1
          have hd1 := HC1.out.2
          obtain ⟨s2, g2⟩ := s1.stored j (.bool true)
          rw [flags_set _ j (by omega)] at s2
          have z2 := s1.frozenAt j
          have y2 : w6.cell? ⟨w.heap.size + 1, j, none⟩ = some (.bool ((m ||| 2 ^ i).testBit j)) := by
            have := s1.cellAt j (by omega)
            rw [flags_at _ j (by omega)] at this
            simpa using this
          have HS := Lib.hid (And.intro s2 (grown_fr g2))
          clear s1 s2 g2 hc1 z1 y1 hp1 hp2 hp3
          go_wp2
          go_roundg (gk - 1)
          case rel => exact ⟨k + 1, by have := HK.out; omega, by go_num, by rw [HST.out]; exact HS.out.1, HS.out.2.cell (fun e => by have := Option.some.inj e; simp at this) hd1, hb6.trans (HS.out.2.below hb6.size fun k _ e => by have := Option.some.inj e; omega)⟩
          case measure => have := HK.out; omega
        · obtain rfl : k = l2.length := by have := HK.out; omega
          rw [List.take_length] at ho
          go_wp2
          go_ret
          exact ⟨_, rfl, by rw [HT.out]; exact ho, hb⟩
end Go.Proofs.YtdjfdopgjlbloaaGreatDoor
/- Walks: possible cases. -/
namespace Go.Proofs.YtdjfdopgjlbloaaGreatDoor
open Go.RowKit

/-- A fact of terms up to a last one holds. -/
def okF (cl : List Int) (last : Int) (f : Fact) : Bool := if f.2.1 ≤ last ∧ f.2.2 ≤ last then factC cl f else true
/-- An atom is counted. -/
def inA (cl : List Int) (last : Int) (x : Atom) : Bool := decide (x.2.1 ≤ last) && (decide (x.2.2 ≤ last) && fillC cl x)
/-- Atoms begin at different classes. -/
def startsO (cl : List Int) (last : Int) (m : Nat) : List Atom → Bool
  | [] => true
  | x :: r => if inA cl last x = true then (if (gi cl x.2.1.toNat == 0 || hasT m (gi cl x.2.1.toNat)) = true then false else startsO cl last (termM m (gi cl x.2.1.toNat)) r) else startsO cl last m r
def possC (cl : List Int) (last : Int) (a : Asn) : Bool := a.1.all (okF cl last) && startsO cl last 0 a.2
theorem drop_gd' {α : Type} [Inhabited α] {l : List α} {k : Nat} (h : k < l.length) : l.drop k = gd l k :: l.drop (k + 1) := by
  rw [List.drop_eq_getElem_cons h, gd_of h]
section
variable {cl : List Int} {last : Int} {m k : Nat} {l : List Atom}
end

end Go.Proofs.YtdjfdopgjlbloaaGreatDoor
