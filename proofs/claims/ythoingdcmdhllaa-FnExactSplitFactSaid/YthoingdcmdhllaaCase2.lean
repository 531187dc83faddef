/- Walks: cases: filled atoms; terms of an assertion. -/
import Derived.Test.YthoingdcmdhllaaCase1
import Derived.Test.YthoingdcmdhllaaMath1
import Derived.Deep.RegionHeld3
namespace Go.Proofs.Ythoingdcmdhllaa
open Go.RowKit

/-- The cells of atoms. -/
def acl (l : List Atom) : List Value := (l.map fun x => [Value.int .i64 x.1, .int .i64 x.2.1, .int .i64 x.2.2]).flatten
theorem acl_app (l m : List Atom) : acl (l ++ m) = acl l ++ acl m := by simp [acl]
theorem acl_one (x : Atom) : acl [x] = [.int .i64 x.1, .int .i64 x.2.1, .int .i64 x.2.2] := rfl
theorem acl_nth {l : List Atom} {i : Nat} (h : i < l.length) : nth 3 (acl l) i = [.int .i64 (gd l i).1, .int .i64 (gd l i).2.1, .int .i64 (gd l i).2.2] := by
  rw [acl, nth_flat (by intro c hc; obtain ⟨x, _, rfl⟩ := List.mem_map.1 hc; rfl) (by simpa using h)]
  simp [gd, h]
/-- A row of atoms of one's own. -/
def AO (w : World) (B : Nat) (v : Value) (l : List Atom) : Prop := w.ownsRow B 142 3 v l.length (acl l)
theorem AO.rl {w : World} {B : Nat} {v : Value} {l : List Atom} (h : AO w B v l) : RL w (fun k => B ≤ k) v l := by
  refine (RowE.rl (α := Atom) (S := fun _ => False) (.inr h) fun i hi => ?_).more fun k _ hk => ?_
  · rw [show Dat.sz Atom = 3 from rfl, acl_nth hi]
    exact ⟨[.int .i64 (gd l i).1], [.int .i64 (gd l i).2.1, .int .i64 (gd l i).2.2], rfl, rfl, ⟨[.int .i64 (gd l i).2.1], [.int .i64 (gd l i).2.2], rfl, rfl, rfl⟩⟩
  · rcases hk with hk | hk
    · exact hk.elim
    · exact hk
theorem AO.keep {w w' : World} {B : Nat} {v : Value} {l : List Atom} (h : AO w B v l) (hb : Below w.heap.size w w') : AO w' B v l := own_keep h hb
theorem AO.mono {w : World} {B B' : Nat} {v : Value} {l : List Atom} (h : AO w B v l) (hB : B' ≤ B) : AO w B' v l := own_mono h hB
theorem AO.snoc {w : World} {B : Nat} {v : Value} {l : List Atom} {x : Atom} (h : w.ownsRow B 142 3 v (l.length + 1) (acl l ++ [.int .i64 x.1, .int .i64 x.2.1, .int .i64 x.2.2])) : AO w B v (l ++ [x]) := by
  unfold AO
  rw [List.length_append, acl_app, acl_one]
  exact h
theorem news3 (w : World) (x y z : Value) (e : TypeId) : 0 < 1 → ∃ b o, some (⟨w.heap.size, 0, none⟩ : Addr) = some ⟨b, o, none⟩ ∧ ∀ j u, [x, y, z][j]? = some u → (w.alloc (.cells #[x, y, z] e)).cell? ⟨b, o + j, none⟩ = some u := fun _ =>
  ⟨w.heap.size, 0, rfl, fun j u hj => by
    match j, hj with
    | 0, hj => simp at hj; subst hj; simp
    | 1, hj => simp at hj; subst hj; simp
    | 2, hj => simp at hj; subst hj; simp⟩
theorem news3g (w : World) (g : Nat) (hg : w.heap.size = g) (x y z : Value) (e : TypeId) : 0 < 1 → ∃ b o, some (⟨g, 0, none⟩ : Addr) = some ⟨b, o, none⟩ ∧ ∀ j u, [x, y, z][j]? = some u → (w.alloc (.cells #[x, y, z] e)).cell? ⟨b, o + j, none⟩ = some u := by
  subst hg; exact news3 w x y z e
theorem own_empA (w : World) (B : Nat) (hB : B ≤ w.heap.size) : AO (w.alloc (.cells #[] 142)) B (.slice (some ⟨w.heap.size, 0, none⟩) 0 0) [] :=
  World.ownsRow_lit (size := 3) w #[] 0 hB (by unfold maxLen; omega) rfl
theorem one3 (x y z : Int) : ∀ u ∈ [Value.int .i64 x, Value.int .i64 y, Value.int .i64 z], u.oneCell' = true := fun u hu => by
  simp at hu
  rcases hu with rfl | rfl | rfl <;> rfl
theorem filledL_yes {cl : List Int} {l : List Atom} {k : Nat} (h : k < l.length) (hf : fillC cl (gd l k) = true) : filledL cl (l.take (k + 1)) = filledL cl (l.take k) ++ [atC cl (gd l k)] := by
  rw [take_gd h, filledL, List.filter_append, List.map_append]
  simp [hf, filledL]
theorem filledL_no {cl : List Int} {l : List Atom} {k : Nat} (h : k < l.length) (hf : fillC cl (gd l k) = false) : filledL cl (l.take (k + 1)) = filledL cl (l.take k) := by
  rw [take_gd h, filledL, List.filter_append, List.map_append]
  simp [hf, filledL]
theorem filledL_len (cl : List Int) (l : List Atom) : (filledL cl l).length ≤ l.length := by
  rw [filledL, List.length_map]; exact List.length_filter_le _ _
theorem filledL_lenk (cl : List Int) (l : List Atom) (k : Nat) : (filledL cl (l.take k)).length ≤ l.length := by
  refine Nat.le_trans (filledL_len _ _) ?_
  rw [List.length_take]; omega

set_option maxRecDepth 100000 in
set_option maxHeartbeats 3200000 in
theorem filledC_any {S : Nat → Prop} (b : Nat) (cl : List Int) (v : Value) (l : List Atom) (w : World) (h : RArr w b cl) (hv : RL w S v l) (hx : l.all atomB = true) (hl : l.length ≤ 1048576) :
    Calls Try.prog 189 #[.pointer (some ⟨b, 0, none⟩), v] w fun e w' => ∃ v', e = .returned v' ∧ AO w' w.heap.size v' (filledL cl l) ∧ Below w.heap.size w w' := by
  obtain ⟨a, c, rfl, _, _, hf1⟩ := hv.atomAt
  have F1 := Lib.hid hf1
  have HB := Lib.hid (all_of hx)
  clear hf1 hv hx
  go_enter Try.func189, Try.ntmps189
  go_wp2
  go_loopg [5, 10] l.length (fun q x i wr => ∃ k : Nat, k + q = l.length ∧ i = .int .i64 k ∧ AO wr w.heap.size x (filledL cl (l.take k)) ∧ Below w.heap.size w wr)
  case atStart => exact ⟨0, by omega, rfl, World.ownsRow_nil _ _ _ _, Below.refl _ _⟩
  case round =>
    obtain ⟨k, hk, rfl, ho, hb⟩ := hrel
    have HK := Lib.hid hk
    clear hk
    by_cases hk8 : k < l.length
    · obtain ⟨b1, o1, rfl, _, hbl1, hp1, hp2, hp3⟩ := F1.out k hk8
      replace hp1 := cell_keep hb hp1; replace hp2 := cell_keep hb hp2; replace hp3 := cell_keep hb hp3
      have hs := hb.size
      have i1 : (k : Int) < (l.length : Int) := by omega
      have hzb : b1 < wr.heap.size := by omega
      have hok := HB.out k hk8
      have HOK := Lib.hid hok
      have HO := Lib.hid ho
      clear hok ho
      cases hp : fillC cl (gd l k)
      · have hN := filledL_no hk8 hp
        have HP := Lib.hid (And.intro hp hN)
        clear hp hN
        go_wp2_with fail
        refine (cb (isFilledC_any b cl (gd l k) _ (h.keep (bt hb (by repeat (first | exact Below.refl _ _ | with_reducible assumption | exact below_alloc _ _ | (refine Below.setCell ?_ (by first | (simp; done) | (simp; omega) | omega) _) | apply bd | apply ba | apply be)))) HOK.out) HP.out.1).mono ?_
        rintro e w5 ⟨rfl, hb5⟩
        go_wp2
        go_roundg (gk - 1)
        case rel => exact ⟨k + 1, by have := HK.out; omega, by go_num, by rw [HP.out.2]; exact HO.out.keep (bt (by repeat (first | exact Below.refl _ _ | with_reducible assumption | exact below_alloc _ _ | (refine Below.setCell ?_ (by first | (simp; done) | (simp; omega) | omega) _) | apply bd | apply ba | apply be)) hb5), bt (bt hb (by repeat (first | exact Below.refl _ _ | with_reducible assumption | exact below_alloc _ _ | (refine Below.setCell ?_ (by first | (simp; done) | (simp; omega) | omega) _) | apply bd | apply ba | apply be))) hb5⟩
        case measure => have := HK.out; omega
      · have hN := filledL_yes hk8 hp
        have HP := Lib.hid (And.intro hp hN)
        clear hp hN
        obtain ⟨t1, t2, t3, t4⟩ := atomB_le' HOK.out
        obtain ⟨i, hi⟩ := Int.eq_ofNat_of_zero_le t1
        obtain ⟨j, hj⟩ := Int.eq_ofNat_of_zero_le t3
        have hi9 : (i : Int) < 9 := by omega
        have hj9 : (j : Int) < 9 := by omega
        have hat : atC cl (gd l k) = ((gd l k).1, gi cl i, gi cl j) := by simp only [atC, hi, hj, Int.toNat_natCast]
        have HA := Lib.hid hat
        have HI := Lib.hid (And.intro hi hj)
        clear hat t1 t2 t3 t4 hi hj
        go_wp2_with fail
        refine (cb (isFilledC_any b cl (gd l k) _ (h.keep (bt hb (by repeat (first | exact Below.refl _ _ | with_reducible assumption | exact below_alloc _ _ | (refine Below.setCell ?_ (by first | (simp; done) | (simp; omega) | omega) _) | apply bd | apply ba | apply be)))) HOK.out) HP.out.1).mono ?_
        rintro e w5 ⟨rfl, hb5⟩
        have hd0 := cell_keep hb5 (p := ⟨wr.heap.size, 0, none⟩) (v := .int .i64 (gd l k).1) (by simp [go_sem])
        have hd1 := cell_keep hb5 (p := ⟨wr.heap.size, 1, none⟩) (v := .int .i64 (gd l k).2.1) (by simp [go_sem])
        have hd2 := cell_keep hb5 (p := ⟨wr.heap.size, 2, none⟩) (v := .int .i64 (gd l k).2.2) (by simp [go_sem])
        rw [HI.out.1] at hd1
        rw [HI.out.2] at hd2
        have hwr5 : Below wr.heap.size wr w5 := bt (by repeat (first | exact Below.refl _ _ | with_reducible assumption | exact below_alloc _ _ | (refine Below.setCell ?_ (by first | (simp; done) | (simp; omega) | omega) _) | apply bd | apply ba | apply be)) hb5
        have hb05 := bt hb hwr5
        have hA5 := h.keep hb05
        have hci := hA5.2.2 i (by omega)
        have hcj := hA5.2.2 j (by omega)
        have hr := HO.out.keep hwr5
        unfold AO at hr
        have hln := filledL_lenk cl l k
        have hzA := h.2.1
        have hs5 := hb05.size
        clear hb5
        go_wp2
        go_region_held3 (fun w' => (w'.cell? ⟨wr.heap.size, 0, none⟩ = some (.int .i64 (gd l k).1) ∧ w'.cell? ⟨wr.heap.size, 1, none⟩ = some (.int .i64 i) ∧ w'.cell? ⟨wr.heap.size, 2, none⟩ = some (.int .i64 j)) ∧ (w'.cell? ⟨b, i, none⟩ = some (.int .i64 (gi cl i)) ∧ w'.cell? ⟨b, j, none⟩ = some (.int .i64 (gi cl j))))
          (first | exact ⟨⟨e0, e1, e2⟩, e3, e4⟩ | exact ⟨⟨cell_keep (by repeat (first | exact Below.refl _ _ | with_reducible assumption | exact below_alloc _ _ | (refine Below.setCell ?_ (by first | (simp; done) | (simp; omega) | omega) _) | apply bd | apply ba | apply be)) hd0, cell_keep (by repeat (first | exact Below.refl _ _ | with_reducible assumption | exact below_alloc _ _ | (refine Below.setCell ?_ (by first | (simp; done) | (simp; omega) | omega) _) | apply bd | apply ba | apply be)) hd1, cell_keep (by repeat (first | exact Below.refl _ _ | with_reducible assumption | exact below_alloc _ _ | (refine Below.setCell ?_ (by first | (simp; done) | (simp; omega) | omega) _) | apply bd | apply ba | apply be)) hd2⟩, cell_keep (by repeat (first | exact Below.refl _ _ | with_reducible assumption | exact below_alloc _ _ | (refine Below.setCell ?_ (by first | (simp; done) | (simp; omega) | omega) _) | apply bd | apply ba | apply be)) hci, cell_keep (by repeat (first | exact Below.refl _ _ | with_reducible assumption | exact below_alloc _ _ | (refine Below.setCell ?_ (by first | (simp; done) | (simp; omega) | omega) _) | apply bd | apply ba | apply be)) hcj⟩)
          (first
            | (refine step_cells (n := (filledL cl (l.take k)).length) (m := 1) (news := [.int .i64 (gd l k).1, .int .i64 (gi cl i), .int .i64 (gi cl j)]) (by rfl) (.tmp 17) (.tmp 33) _ (by rfl) (B := w.heap.size) ti_atom (by rfl) (own_keep hr (by repeat (first | exact Below.refl _ _ | with_reducible assumption | exact below_alloc _ _ | (refine Below.setCell ?_ (by first | (simp; done) | (simp; omega) | omega) _) | apply bd | apply ba | apply be))) (by rfl) (by rfl) (news3 _ _ _ _ _) (one3 _ _ _) (by omega) (by simp; omega) ?_; intro v' w7 hr7 hf7 hl7; have e0 := hf7.cell (fun e => Nat.lt_irrefl _ (own_lt HO.out e).2) (cell_keep (by repeat (first | exact Below.refl _ _ | with_reducible assumption | exact below_alloc _ _ | (refine Below.setCell ?_ (by first | (simp; done) | (simp; omega) | omega) _) | apply bd | apply ba | apply be)) hd0); have e1 := hf7.cell (fun e => Nat.lt_irrefl _ (own_lt HO.out e).2) (cell_keep (by repeat (first | exact Below.refl _ _ | with_reducible assumption | exact below_alloc _ _ | (refine Below.setCell ?_ (by first | (simp; done) | (simp; omega) | omega) _) | apply bd | apply ba | apply be)) hd1); have e2 := hf7.cell (fun e => Nat.lt_irrefl _ (own_lt HO.out e).2) (cell_keep (by repeat (first | exact Below.refl _ _ | with_reducible assumption | exact below_alloc _ _ | (refine Below.setCell ?_ (by first | (simp; done) | (simp; omega) | omega) _) | apply bd | apply ba | apply be)) hd2); have e3 := hf7.cell (fun e => Nat.not_le.2 hzA (own_lt HO.out e).1) (cell_keep (by repeat (first | exact Below.refl _ _ | with_reducible assumption | exact below_alloc _ _ | (refine Below.setCell ?_ (by first | (simp; done) | (simp; omega) | omega) _) | apply bd | apply ba | apply be)) hci); have e4 := hf7.cell (fun e => Nat.not_le.2 hzA (own_lt HO.out e).1) (cell_keep (by repeat (first | exact Below.refl _ _ | with_reducible assumption | exact below_alloc _ _ | (refine Below.setCell ?_ (by first | (simp; done) | (simp; omega) | omega) _) | apply bd | apply ba | apply be)) hcj)))
        all_goals
          have hbb : Below w.heap.size w w7 := below_own (own_keep hr (by repeat (first | exact Below.refl _ _ | with_reducible assumption | exact below_alloc _ _ | (refine Below.setCell ?_ (by first | (simp; done) | (simp; omega) | omega) _) | apply bd | apply ba | apply be))) hf7 (bt hb05 (by repeat (first | exact Below.refl _ _ | with_reducible assumption | exact below_alloc _ _ | (refine Below.setCell ?_ (by first | (simp; done) | (simp; omega) | omega) _) | apply bd | apply ba | apply be))) (by simp; omega)
          go_wp2
          go_roundg (gk - 1)
          case rel => exact ⟨k + 1, by have := HK.out; omega, by go_num, by rw [HP.out.2, HA.out]; exact AO.snoc hr7, hbb⟩
          case measure => have := HK.out; omega
    · obtain rfl : k = l.length := by have := HK.out; omega
      rw [List.take_length] at ho
      go_wp2
      go_ret
      exact ⟨_, rfl, ho, hb⟩
set_option maxRecDepth 100000 in
set_option maxHeartbeats 3200000 in
theorem filledS_any {S : Nat → Prop} (cv v : Value) (cl : List Int) (l : List Atom) (w : World) (hc : RInts w cv cl) (hc9 : cl.length = 9) (hv : RL w S v l) (hx : l.all atomB = true) (hl : l.length ≤ 1048576) :
    Calls Try.prog 120 #[v, cv] w fun e w' => ∃ v', e = .returned v' ∧ AO w' w.heap.size v' (filledL cl l) ∧ Below w.heap.size w w' := by
  obtain ⟨a, c, rfl, _, _, hf1⟩ := hv.atomAt
  have F1 := Lib.hid hf1
  have HB := Lib.hid (all_of hx)
  obtain ⟨cb, co, cc, rfl, _, _, hcell⟩ := hc.ne (by omega)
  have HC := Lib.hid hcell
  have HC9 := Lib.hid hc9
  clear hf1 hv hx hcell hc9 hc
  go_enter Try.func120, Try.ntmps120
  go_wp2
  go_loopg [5, 6] l.length (fun q x i wr => ∃ k : Nat, k + q = l.length ∧ i = .int .i64 k ∧ AO wr w.heap.size x (filledL cl (l.take k)) ∧ Below w.heap.size w wr)
  case atStart => exact ⟨0, by omega, rfl, own_empA w _ (Nat.le_refl _), below_alloc _ _⟩
  case round =>
    obtain ⟨k, hk, rfl, ho, hb⟩ := hrel
    have HK := Lib.hid hk
    clear hk
    by_cases hk8 : k < l.length
    · obtain ⟨b1, o1, rfl, _, hbl1, hp1, hp2, hp3⟩ := F1.out k hk8
      replace hp1 := cell_keep hb hp1; replace hp2 := cell_keep hb hp2; replace hp3 := cell_keep hb hp3
      have hs := hb.size
      have i1 : (k : Int) < (l.length : Int) := by omega
      have hzb : b1 < wr.heap.size := by omega
      have hok := HB.out k hk8
      have HO := Lib.hid ho
      obtain ⟨t1, t2, t3, t4⟩ := atomB_le' hok
      obtain ⟨i, hi⟩ := Int.eq_ofNat_of_zero_le t1
      obtain ⟨j, hj⟩ := Int.eq_ofNat_of_zero_le t3
      have hi9 : (i : Int) < (cl.length : Int) := by rw [HC9.out]; omega
      have hj9 : (j : Int) < (cl.length : Int) := by rw [HC9.out]; omega
      have hat : atC cl (gd l k) = ((gd l k).1, gi cl i, gi cl j) := by simp only [atC, hi, hj, Int.toNat_natCast]
      have hfl : fillC cl (gd l k) = (((gd l k).1 == 1) || (gi cl i != gi cl j)) := by simp only [fillC, hi, hj, Int.toNat_natCast]
      have HA := Lib.hid hat
      rw [hi] at hp2
      rw [hj] at hp3
      have hci := cell_keep hb (HC.out i (by omega))
      have hcj := cell_keep hb (HC.out j (by omega))
      have hzc : cb < wr.heap.size := World.block_lt_of_cell? wr _ hci
      have hln := filledL_lenk cl l k
      clear hat t1 t2 t3 t4 hi hj hok ho
      by_cases hk1 : (gd l k).1 = 1
      · have hkb : ((gd l k).1 == 1) = true := by simp [hk1]
        have hp : fillC cl (gd l k) = true := by rw [hfl, hkb]; rfl
        have hN := filledL_yes hk8 hp
        have HP := Lib.hid (And.intro hp hN)
        clear hp hN hfl hk1
        go_wp2
        go_region_held3 (fun w' => (w'.cell? ⟨b1, o1 + k * 3, none⟩ = some (.int .i64 (gd l k).1) ∧ w'.cell? ⟨b1, o1 + k * 3 + 1, none⟩ = some (.int .i64 i) ∧ w'.cell? ⟨b1, o1 + k * 3 + 2, none⟩ = some (.int .i64 j)) ∧ (w'.cell? ⟨cb, co + i, none⟩ = some (.int .i64 (gi cl i)) ∧ w'.cell? ⟨cb, co + j, none⟩ = some (.int .i64 (gi cl j))))
          (exact ⟨⟨cell_keep (by repeat (first | exact Below.refl _ _ | with_reducible assumption | exact below_alloc _ _ | (refine Below.setCell ?_ (by first | (simp; done) | (simp; omega) | omega) _) | apply bd | apply ba | apply be)) hp1, cell_keep (by repeat (first | exact Below.refl _ _ | with_reducible assumption | exact below_alloc _ _ | (refine Below.setCell ?_ (by first | (simp; done) | (simp; omega) | omega) _) | apply bd | apply ba | apply be)) hp2, cell_keep (by repeat (first | exact Below.refl _ _ | with_reducible assumption | exact below_alloc _ _ | (refine Below.setCell ?_ (by first | (simp; done) | (simp; omega) | omega) _) | apply bd | apply ba | apply be)) hp3⟩, cell_keep (by repeat (first | exact Below.refl _ _ | with_reducible assumption | exact below_alloc _ _ | (refine Below.setCell ?_ (by first | (simp; done) | (simp; omega) | omega) _) | apply bd | apply ba | apply be)) hci, cell_keep (by repeat (first | exact Below.refl _ _ | with_reducible assumption | exact below_alloc _ _ | (refine Below.setCell ?_ (by first | (simp; done) | (simp; omega) | omega) _) | apply bd | apply ba | apply be)) hcj⟩)
          (first | fail)
        go_wp2_with (at_builtin; go_must (refine app_cells (n := (filledL cl (l.take k)).length) (m := 1) (news := [.int .i64 (gd l k).1, .int .i64 (gi cl i), .int .i64 (gi cl j)]) rfl (.tmp 47) (.tmp 49) _ rfl (B := w.heap.size) ti_atom rfl (own_keep HO.out (by repeat (first | exact Below.refl _ _ | with_reducible assumption | exact below_alloc _ _ | (refine Below.setCell ?_ (by first | (simp; done) | (simp; omega) | omega) _) | apply bd | apply ba | apply be))) rfl rfl (news3g _ _ (by simp) _ _ _ _) (one3 _ _ _) (by omega) (by simp; omega) ?_; intro v' w7 hr7 hf7 hl7))
        have hbb : Below w.heap.size w w7 := below_own (own_keep HO.out (by repeat (first | exact Below.refl _ _ | with_reducible assumption | exact below_alloc _ _ | (refine Below.setCell ?_ (by first | (simp; done) | (simp; omega) | omega) _) | apply bd | apply ba | apply be))) hf7 (bt hb (by repeat (first | exact Below.refl _ _ | with_reducible assumption | exact below_alloc _ _ | (refine Below.setCell ?_ (by first | (simp; done) | (simp; omega) | omega) _) | apply bd | apply ba | apply be))) (by simp; omega)
        go_roundg (gk - 1)
        case rel => exact ⟨k + 1, by have := HK.out; omega, by go_num, by rw [HP.out.2, HA.out]; exact AO.snoc hr7, hbb⟩
        case measure => have := HK.out; omega
      · have hkb : ((gd l k).1 == 1) = false := by simp [hk1]
        clear hk1
        by_cases hn1 : gi cl i = gi cl j
        · have hnb : (gi cl i != gi cl j) = false := by simp [hn1]
          have hp : fillC cl (gd l k) = false := by rw [hfl, hkb, hnb]; rfl
          have hN := filledL_no hk8 hp
          have HP := Lib.hid (And.intro hp hN)
          clear hp hN hfl hn1
          go_wp2
          go_region_held3 (fun w' => (w'.cell? ⟨b1, o1 + k * 3, none⟩ = some (.int .i64 (gd l k).1) ∧ w'.cell? ⟨b1, o1 + k * 3 + 1, none⟩ = some (.int .i64 i) ∧ w'.cell? ⟨b1, o1 + k * 3 + 2, none⟩ = some (.int .i64 j)) ∧ (w'.cell? ⟨cb, co + i, none⟩ = some (.int .i64 (gi cl i)) ∧ w'.cell? ⟨cb, co + j, none⟩ = some (.int .i64 (gi cl j))))
            (exact ⟨⟨cell_keep (by repeat (first | exact Below.refl _ _ | with_reducible assumption | exact below_alloc _ _ | (refine Below.setCell ?_ (by first | (simp; done) | (simp; omega) | omega) _) | apply bd | apply ba | apply be)) hp1, cell_keep (by repeat (first | exact Below.refl _ _ | with_reducible assumption | exact below_alloc _ _ | (refine Below.setCell ?_ (by first | (simp; done) | (simp; omega) | omega) _) | apply bd | apply ba | apply be)) hp2, cell_keep (by repeat (first | exact Below.refl _ _ | with_reducible assumption | exact below_alloc _ _ | (refine Below.setCell ?_ (by first | (simp; done) | (simp; omega) | omega) _) | apply bd | apply ba | apply be)) hp3⟩, cell_keep (by repeat (first | exact Below.refl _ _ | with_reducible assumption | exact below_alloc _ _ | (refine Below.setCell ?_ (by first | (simp; done) | (simp; omega) | omega) _) | apply bd | apply ba | apply be)) hci, cell_keep (by repeat (first | exact Below.refl _ _ | with_reducible assumption | exact below_alloc _ _ | (refine Below.setCell ?_ (by first | (simp; done) | (simp; omega) | omega) _) | apply bd | apply ba | apply be)) hcj⟩)
            (first | fail)
          go_wp2
          go_roundg (gk - 1)
          case rel => exact ⟨k + 1, by have := HK.out; omega, by go_num, by rw [HP.out.2]; exact HO.out.keep (by repeat (first | exact Below.refl _ _ | with_reducible assumption | exact below_alloc _ _ | (refine Below.setCell ?_ (by first | (simp; done) | (simp; omega) | omega) _) | apply bd | apply ba | apply be)), bt hb (by repeat (first | exact Below.refl _ _ | with_reducible assumption | exact below_alloc _ _ | (refine Below.setCell ?_ (by first | (simp; done) | (simp; omega) | omega) _) | apply bd | apply ba | apply be))⟩
          case measure => have := HK.out; omega
        · have hnb : (gi cl i != gi cl j) = true := by simp [hn1]
          have hp : fillC cl (gd l k) = true := by rw [hfl, hkb, hnb]; rfl
          have hN := filledL_yes hk8 hp
          have HP := Lib.hid (And.intro hp hN)
          clear hp hN hfl hn1
          go_wp2
          go_region_held3 (fun w' => (w'.cell? ⟨b1, o1 + k * 3, none⟩ = some (.int .i64 (gd l k).1) ∧ w'.cell? ⟨b1, o1 + k * 3 + 1, none⟩ = some (.int .i64 i) ∧ w'.cell? ⟨b1, o1 + k * 3 + 2, none⟩ = some (.int .i64 j)) ∧ (w'.cell? ⟨cb, co + i, none⟩ = some (.int .i64 (gi cl i)) ∧ w'.cell? ⟨cb, co + j, none⟩ = some (.int .i64 (gi cl j))))
            (exact ⟨⟨cell_keep (by repeat (first | exact Below.refl _ _ | with_reducible assumption | exact below_alloc _ _ | (refine Below.setCell ?_ (by first | (simp; done) | (simp; omega) | omega) _) | apply bd | apply ba | apply be)) hp1, cell_keep (by repeat (first | exact Below.refl _ _ | with_reducible assumption | exact below_alloc _ _ | (refine Below.setCell ?_ (by first | (simp; done) | (simp; omega) | omega) _) | apply bd | apply ba | apply be)) hp2, cell_keep (by repeat (first | exact Below.refl _ _ | with_reducible assumption | exact below_alloc _ _ | (refine Below.setCell ?_ (by first | (simp; done) | (simp; omega) | omega) _) | apply bd | apply ba | apply be)) hp3⟩, cell_keep (by repeat (first | exact Below.refl _ _ | with_reducible assumption | exact below_alloc _ _ | (refine Below.setCell ?_ (by first | (simp; done) | (simp; omega) | omega) _) | apply bd | apply ba | apply be)) hci, cell_keep (by repeat (first | exact Below.refl _ _ | with_reducible assumption | exact below_alloc _ _ | (refine Below.setCell ?_ (by first | (simp; done) | (simp; omega) | omega) _) | apply bd | apply ba | apply be)) hcj⟩)
            (first | fail)
          go_wp2_with (at_builtin; go_must (refine app_cells (n := (filledL cl (l.take k)).length) (m := 1) (news := [.int .i64 (gd l k).1, .int .i64 (gi cl i), .int .i64 (gi cl j)]) rfl (.tmp 47) (.tmp 49) _ rfl (B := w.heap.size) ti_atom rfl (own_keep HO.out (by repeat (first | exact Below.refl _ _ | with_reducible assumption | exact below_alloc _ _ | (refine Below.setCell ?_ (by first | (simp; done) | (simp; omega) | omega) _) | apply bd | apply ba | apply be))) rfl rfl (news3g _ _ (by simp) _ _ _ _) (one3 _ _ _) (by omega) (by simp; omega) ?_; intro v' w7 hr7 hf7 hl7))
          have hbb : Below w.heap.size w w7 := below_own (own_keep HO.out (by repeat (first | exact Below.refl _ _ | with_reducible assumption | exact below_alloc _ _ | (refine Below.setCell ?_ (by first | (simp; done) | (simp; omega) | omega) _) | apply bd | apply ba | apply be))) hf7 (bt hb (by repeat (first | exact Below.refl _ _ | with_reducible assumption | exact below_alloc _ _ | (refine Below.setCell ?_ (by first | (simp; done) | (simp; omega) | omega) _) | apply bd | apply ba | apply be))) (by simp; omega)
          go_roundg (gk - 1)
          case rel => exact ⟨k + 1, by have := HK.out; omega, by go_num, by rw [HP.out.2, HA.out]; exact AO.snoc hr7, hbb⟩
          case measure => have := HK.out; omega
    · obtain rfl : k = l.length := by have := HK.out; omega
      rw [List.take_length] at ho
      go_wp2
      go_ret
      exact ⟨_, rfl, ho, hb⟩
end Go.Proofs.Ythoingdcmdhllaa
