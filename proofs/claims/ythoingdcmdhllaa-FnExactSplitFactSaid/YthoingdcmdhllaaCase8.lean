/- Walks: atoms that an atom uses. -/
import Derived.Test.YthoingdcmdhllaaCase7
import Derived.Laws.StructEq
namespace Go.Proofs.Ythoingdcmdhllaa
open Go.RowKit

/-- A chain of atoms from a class to another one. -/
def useList (left : List Atom) (B : Int) (closed : Bool) (at_ : Int) : List Int → Bool
  | [] => false
  | i :: r => if (gd left i.toNat).2.1 = at_ then (if (gd left i.toNat).2.2 = B then r.isEmpty else (if ((gd left i.toNat).1 == 2 && !closed) = true then false else useList left B closed (gd left i.toNat).2.2 r)) else false
def clsdB (left : List Atom) (B : Int) : Bool := (B == 0) || left.any fun y => y.2.1 == B
def allowB (left : List Atom) (x : Atom) (uses : List Int) : Bool :=
  if x.1 = 1 then (uses.length == 1) && decide (gd left (gi uses 0).toNat = x) else useList left x.2.2 (clsdB left x.2.2) x.2.1 uses
theorem drop_gi {l : List Int} {k : Nat} (h : k < l.length) : l.drop k = gi l k :: l.drop (k + 1) := by
  rw [List.drop_eq_getElem_cons h, gi_of h]
theorem drop_empty {l : List Int} {k : Nat} (h : k < l.length) : (l.drop (k + 1)).isEmpty = decide (k + 1 = l.length) := by
  rw [Bool.eq_iff_iff, List.isEmpty_iff, decide_eq_true_eq, List.drop_eq_nil_iff]; omega

set_option maxRecDepth 100000 in
set_option maxHeartbeats 6400000 in
theorem useAllowed_any {S : Nat → Prop} (v uv : Value) (left : List Atom) (x : Atom) (uses : List Int) (w : World) (h : RL w S v left) (hu : RInts w uv uses) (hin : ∀ i ∈ uses, 0 ≤ i ∧ i < left.length) :
    Calls Try.prog 199 #[v, .agg #[.int .i64 x.1, .int .i64 x.2.1, .int .i64 x.2.2], uv] w fun e w' => e = .returned (.bool (allowB left x uses)) ∧ Below w.heap.size w w' := by
  have hm := h.len
  have hmu := hu.len
  unfold maxLen at hm hmu
  have HL := Lib.hid h
  obtain ⟨a, c, rfl, _, _, hf1⟩ := h.atomAt
  have F1 := Lib.hid hf1
  have HIN := Lib.hid hin
  have HU := Lib.hid hu
  obtain ⟨ua, uc, rfl⟩ := hu.form
  obtain ⟨x1, x2, x3⟩ := x
  simp only
  clear hf1 h hin
  by_cases hk : x1 = 1
  · have hkb : (x1 == 1) = true := by simp [hk]
    by_cases hl1 : uses.length = 1
    rotate_left
    · have hlb : ((uses.length : Int) == 1) = false := by simp; omega
      have HR := Lib.hid (show allowB left (x1, x2, x3) uses = false by rw [allowB, if_pos hk]; simp [hl1])
      clear hk hl1 hu
      go_enter Try.func199, Try.ntmps199
      go_wp2
      refine wp_region_ext (by kernel_rfl) (by kernel_rfl) ?_
      repeat (go_big_quiet_step ((fail)))
      refine wpQuiet_nil ?_
      intro w5 hb5
      go_wp2
      go_ret
      exact ⟨by rw [HR.out]; rfl, bt (by repeat (first | exact Below.refl _ _ | with_reducible assumption | exact below_alloc _ _ | (refine Below.setCell ?_ (by first | (simp; done) | (simp; omega) | omega) _) | apply bd | apply ba | apply be)) hb5⟩
    · have hlb : ((uses.length : Int) == 1) = true := by simp; omega
      obtain ⟨gb, go_, gc, hfe, _, _, hcell⟩ := hu.ne (by omega)
      simp only [Value.slice.injEq] at hfe
      obtain ⟨rfl, hh, rfl⟩ := hfe
      clear hh
      have hc0 := hcell 0 (by omega)
      rw [Nat.add_zero] at hc0
      have hmem := HIN.out _ (gi_mem (l := uses) (i := 0) (by omega))
      obtain ⟨n, hn⟩ := Int.eq_ofNat_of_zero_le hmem.1
      have hnl : n < left.length := by omega
      have hni : (n : Int) < (left.length : Int) := by omega
      have h0u : (0 : Int) < (uses.length : Int) := by omega
      obtain ⟨b1, o1, rfl, _, hbl1, hp1, hp2, hp3⟩ := F1.out n hnl
      have hzb : gb < w.heap.size := World.block_lt_of_cell? w _ hc0
      have HR := Lib.hid (show allowB left (x1, x2, x3) uses = decide (gd left n = (x1, x2, x3)) by rw [allowB, if_pos hk, hl1, hn, Int.toNat_natCast]; rfl)
      rw [hn] at hc0
      clear hk hl1 hcell hn hmem hu
      by_cases he0 : (gd left n).1 = x1
      rotate_left
      · have hb0 : ((gd left n).1 == x1) = false := by simp [he0]
        have hEQ : decide ((gd left n) = (x1, x2, x3)) = false := by simp [Prod.ext_iff, he0]
        have HEQ := Lib.hid hEQ
        clear hEQ he0
        go_enter Try.func199, Try.ntmps199
        go_wp2
        refine wp_region_ext (by kernel_rfl) (by kernel_rfl) ?_
        repeat (go_big_quiet_step ((fail)))
        refine wpQuiet_nil ?_
        intro w5 hb5
        go_wp2
        go_ret
        exact ⟨by rw [HR.out, HEQ.out]; rfl, bt (by repeat (first | exact Below.refl _ _ | with_reducible assumption | exact below_alloc _ _ | (refine Below.setCell ?_ (by first | (simp; done) | (simp; omega) | omega) _) | apply bd | apply ba | apply be)) hb5⟩
      · have hb0 : ((gd left n).1 == x1) = true := by simp [he0]
        by_cases he1 : (gd left n).2.1 = x2
        rotate_left
        · have hb1 : ((gd left n).2.1 == x2) = false := by simp [he1]
          have hEQ : decide ((gd left n) = (x1, x2, x3)) = false := by simp [Prod.ext_iff, he1]
          have HEQ := Lib.hid hEQ
          clear hEQ he0 he1
          go_enter Try.func199, Try.ntmps199
          go_wp2
          refine wp_region_ext (by kernel_rfl) (by kernel_rfl) ?_
          repeat (go_big_quiet_step ((fail)))
          refine wpQuiet_nil ?_
          intro w5 hb5
          go_wp2
          go_ret
          exact ⟨by rw [HR.out, HEQ.out]; rfl, bt (by repeat (first | exact Below.refl _ _ | with_reducible assumption | exact below_alloc _ _ | (refine Below.setCell ?_ (by first | (simp; done) | (simp; omega) | omega) _) | apply bd | apply ba | apply be)) hb5⟩
        · have hb1 : ((gd left n).2.1 == x2) = true := by simp [he1]
          by_cases he2 : (gd left n).2.2 = x3
          rotate_left
          · have hb2 : ((gd left n).2.2 == x3) = false := by simp [he2]
            have hEQ : decide ((gd left n) = (x1, x2, x3)) = false := by simp [Prod.ext_iff, he2]
            have HEQ := Lib.hid hEQ
            clear hEQ he0 he1 he2
            go_enter Try.func199, Try.ntmps199
            go_wp2
            refine wp_region_ext (by kernel_rfl) (by kernel_rfl) ?_
            repeat (go_big_quiet_step ((fail)))
            refine wpQuiet_nil ?_
            intro w5 hb5
            go_wp2
            go_ret
            exact ⟨by rw [HR.out, HEQ.out]; rfl, bt (by repeat (first | exact Below.refl _ _ | with_reducible assumption | exact below_alloc _ _ | (refine Below.setCell ?_ (by first | (simp; done) | (simp; omega) | omega) _) | apply bd | apply ba | apply be)) hb5⟩
          · have hb2 : ((gd left n).2.2 == x3) = true := by simp [he2]
            have hEQ : decide ((gd left n) = (x1, x2, x3)) = true := by simp [Prod.ext_iff, he0, he1, he2]
            have HEQ := Lib.hid hEQ
            clear he0 he1 he2 hEQ
            go_enter Try.func199, Try.ntmps199
            go_wp2
            refine wp_region_ext (by kernel_rfl) (by kernel_rfl) ?_
            repeat (go_big_quiet_step ((fail)))
            refine wpQuiet_nil ?_
            intro w5 hb5
            go_wp2
            go_ret
            exact ⟨by rw [HR.out, HEQ.out]; rfl, bt (by repeat (first | exact Below.refl _ _ | with_reducible assumption | exact below_alloc _ _ | (refine Below.setCell ?_ (by first | (simp; done) | (simp; omega) | omega) _) | apply bd | apply ba | apply be)) hb5⟩
  · have hkb : (x1 == 1) = false := by simp [hk]
    obtain ⟨cl, hcl⟩ : ∃ b, clsdB left x3 = b := ⟨_, rfl⟩
    have hres : allowB left (x1, x2, x3) uses = useList left x3 cl x2 (uses.drop 0) := by rw [allowB, if_neg hk, hcl]; rfl
    have HRES := Lib.hid hres
    have HK1 := Lib.hid hk
    clear hk hres hu
    obtain ⟨bg, hbg⟩ : ∃ b, (left.any fun y => y.2.1 == x3) = b := ⟨_, rfl⟩
    have HBG := Lib.hid hbg
    by_cases hx0 : x3 = 0
    · have hxb : (x3 == 0) = true := by simp [hx0]
      have hclt : cl = true := by rw [← hcl, clsdB, hxb]; rfl
      clear hx0 hcl hbg
      subst hclt
      go_enter Try.func199, Try.ntmps199
      go_wp2
      have hb0 : Below w.heap.size w (w.alloc (.cells #[.int .i64 x1, .int .i64 x2, .int .i64 x3] 142)) := below_alloc _ _
      have hd2 : (w.alloc (.cells #[.int .i64 x1, .int .i64 x2, .int .i64 x3] 142)).cell? ⟨w.heap.size, 2, none⟩ = some (.int .i64 x3) := by simp [go_sem]
      go_loopg [8, 41] uses.length (fun q x i wr => ∃ (k : Nat) (A : Int), k + q = uses.length ∧ i = .int .i64 k ∧ x = .int .i64 A ∧ allowB left (x1, x2, x3) uses = useList left x3 true A (uses.drop k) ∧ wr.cell? ⟨w.heap.size, 2, none⟩ = some (.int .i64 x3) ∧ Below w.heap.size w wr)
      case atStart => exact ⟨0, x2, by omega, rfl, rfl, HRES.out, hd2, hb0⟩
      case round =>
        clear hd2 hb0
        obtain ⟨k, A, hk, rfl, rfl, hus, hd2, hb⟩ := hrel
        have HK := Lib.hid hk
        have HUS := Lib.hid hus
        clear hk hus
        by_cases hk8 : k < uses.length
        · have hki : (k : Int) < (uses.length : Int) := by omega
          obtain ⟨gb, go_, gc, hfe, _, _, hcell⟩ := (HU.out.keep hb).ne (by omega)
          simp only [Value.slice.injEq] at hfe
          obtain ⟨rfl, hh, rfl⟩ := hfe
          clear hh
          have hck := hcell k hk8
          have hmem := HIN.out _ (gi_mem (l := uses) (i := k) hk8)
          obtain ⟨n, hn⟩ := Int.eq_ofNat_of_zero_le hmem.1
          have hnl : n < left.length := by omega
          have hni : (n : Int) < (left.length : Int) := by omega
          obtain ⟨b1, o1, rfl, _, hbl1, hp1, hp2, hp3⟩ := F1.out n hnl
          replace hp1 := cell_keep hb hp1
          replace hp2 := cell_keep hb hp2
          replace hp3 := cell_keep hb hp3
          have hzb : gb < wr.heap.size := World.block_lt_of_cell? wr _ hck
          have hzc : b1 < wr.heap.size := World.block_lt_of_cell? wr _ hp1
          have hzd : w.heap.size < wr.heap.size := World.block_lt_of_cell? wr _ hd2
          rw [hn] at hck
          obtain ⟨K1, hK1⟩ : ∃ x, (gd left n).1 = x := ⟨_, rfl⟩
          obtain ⟨A1, hA1⟩ : ∃ x, (gd left n).2.1 = x := ⟨_, rfl⟩
          obtain ⟨B1, hB1⟩ : ∃ x, (gd left n).2.2 = x := ⟨_, rfl⟩
          have hstep : useList left x3 true A (uses.drop k) = if A1 = A then (if B1 = x3 then decide (k + 1 = uses.length) else (if (K1 == 2 && !true) = true then false else useList left x3 true B1 (uses.drop (k + 1)))) else false := by
            rw [drop_gi hk8, hn, useList, Int.toNat_natCast, hK1, hA1, hB1, drop_empty hk8]
          rw [hK1] at hp1
          rw [hA1] at hp2
          rw [hB1] at hp3
          clear hcell hmem hn hK1 hA1 hB1
          by_cases hA : A1 = A
          rotate_left
          · have hab : (A1 != A) = true := by simp [hA]
            have HF := Lib.hid (show allowB left (x1, x2, x3) uses = false by rw [HUS.out, hstep, if_neg hA])
            clear hstep hA
            go_wp2
            go_ret
            exact ⟨by rw [HF.out]; rfl, bt hb (by repeat (first | exact Below.refl _ _ | with_reducible assumption | exact below_alloc _ _ | (refine Below.setCell ?_ (by first | (simp; done) | (simp; omega) | omega) _) | apply bd | apply ba | apply be))⟩
          have hab : (A1 != A) = false := by simp [hA]
          rw [if_pos hA] at hstep
          clear hA
          by_cases hB : B1 = x3
          · have hbb : (B1 == x3) = true := by simp [hB]
            rw [if_pos hB] at hstep
            have hwr : IntKind.i64.wrap ((uses.length : Int) - 1) = (uses.length : Int) - 1 := IntWalk.i64_in _ (by omega)
            obtain ⟨q, hq⟩ : ∃ q, ((k : Int) == (uses.length : Int) - 1) = q := ⟨_, rfl⟩
            have HF := Lib.hid (show allowB left (x1, x2, x3) uses = q by rw [HUS.out, hstep, ← hq, Bool.eq_iff_iff]; simp; omega)
            clear hstep hB
            go_wp2
            go_ret
            exact ⟨by rw [HF.out]; rfl, bt hb (by repeat (first | exact Below.refl _ _ | with_reducible assumption | exact below_alloc _ _ | (refine Below.setCell ?_ (by first | (simp; done) | (simp; omega) | omega) _) | apply bd | apply ba | apply be))⟩
          have hbb : (B1 == x3) = false := by simp [hB]
          rw [if_neg hB] at hstep
          clear hB
          by_cases hK : K1 = 2
          · have hkk : (K1 == 2) = true := by simp [hK]
            rw [hkk] at hstep
            have HN := Lib.hid (show allowB left (x1, x2, x3) uses = useList left x3 true B1 (uses.drop (k + 1)) by rw [HUS.out, hstep]; rfl)
            clear hstep hK
            go_wp2
            go_roundg (gk - 1)
            case rel => exact ⟨k + 1, B1, by have := HK.out; omega, by go_num, rfl, HN.out, cell_keep (by repeat (first | exact Below.refl _ _ | with_reducible assumption | exact below_alloc _ _ | (refine Below.setCell ?_ (by first | (simp; done) | (simp; omega) | omega) _) | apply bd | apply ba | apply be)) hd2, bt hb (by repeat (first | exact Below.refl _ _ | with_reducible assumption | exact below_alloc _ _ | (refine Below.setCell ?_ (by first | (simp; done) | (simp; omega) | omega) _) | apply bd | apply ba | apply be))⟩
            case measure => have := HK.out; omega
          · have hkk : (K1 == 2) = false := by simp [hK]
            rw [hkk] at hstep
            have HN := Lib.hid (show allowB left (x1, x2, x3) uses = useList left x3 true B1 (uses.drop (k + 1)) by rw [HUS.out, hstep]; rfl)
            clear hstep hK
            go_wp2
            go_roundg (gk - 1)
            case rel => exact ⟨k + 1, B1, by have := HK.out; omega, by go_num, rfl, HN.out, cell_keep (by repeat (first | exact Below.refl _ _ | with_reducible assumption | exact below_alloc _ _ | (refine Below.setCell ?_ (by first | (simp; done) | (simp; omega) | omega) _) | apply bd | apply ba | apply be)) hd2, bt hb (by repeat (first | exact Below.refl _ _ | with_reducible assumption | exact below_alloc _ _ | (refine Below.setCell ?_ (by first | (simp; done) | (simp; omega) | omega) _) | apply bd | apply ba | apply be))⟩
            case measure => have := HK.out; omega
        · obtain rfl : k = uses.length := by have := HK.out; omega
          have HF := Lib.hid (show allowB left (x1, x2, x3) uses = false by rw [HUS.out, List.drop_length]; rfl)
          go_wp2
          go_ret
          exact ⟨by rw [HF.out]; rfl, hb⟩
    · have hxb : (x3 == 0) = false := by simp [hx0]
      have hclt : cl = bg := by rw [← hcl, clsdB, hxb, hbg]; rfl
      clear hx0 hcl hbg
      subst hclt
      go_enter Try.func199, Try.ntmps199
      go_wp2_with fail
      refine (cb (beginsAt_any _ left x3 _ (HL.out.keep (by repeat (first | exact Below.refl _ _ | with_reducible assumption | exact below_alloc _ _ | (refine Below.setCell ?_ (by first | (simp; done) | (simp; omega) | omega) _) | apply bd | apply ba | apply be)))) HBG.out).mono ?_
      rintro e w1 ⟨rfl, hb1⟩
      have hd1 := cell_keep hb1 (p := ⟨w.heap.size, 1, none⟩) (v := .int .i64 x2) (by simp [go_sem])
      have hd2 := cell_keep hb1 (p := ⟨w.heap.size, 2, none⟩) (v := .int .i64 x3) (by simp [go_sem])
      have hb0 : Below w.heap.size w w1 := bt (by repeat (first | exact Below.refl _ _ | with_reducible assumption | exact below_alloc _ _ | (refine Below.setCell ?_ (by first | (simp; done) | (simp; omega) | omega) _) | apply bd | apply ba | apply be)) hb1
      clear hb1
      go_wp2
      cases cl with
      | true =>
        go_loopg [8, 41] uses.length (fun q x i wr => ∃ (k : Nat) (A : Int), k + q = uses.length ∧ i = .int .i64 k ∧ x = .int .i64 A ∧ allowB left (x1, x2, x3) uses = useList left x3 true A (uses.drop k) ∧ wr.cell? ⟨w.heap.size, 2, none⟩ = some (.int .i64 x3) ∧ Below w.heap.size w wr)
        case atStart => exact ⟨0, x2, by omega, rfl, rfl, HRES.out, hd2, hb0⟩
        case round =>
          clear hd2 hb0
          obtain ⟨k, A, hk, rfl, rfl, hus, hd2, hb⟩ := hrel
          have HK := Lib.hid hk
          have HUS := Lib.hid hus
          clear hk hus
          by_cases hk8 : k < uses.length
          · have hki : (k : Int) < (uses.length : Int) := by omega
            obtain ⟨gb, go_, gc, hfe, _, _, hcell⟩ := (HU.out.keep hb).ne (by omega)
            simp only [Value.slice.injEq] at hfe
            obtain ⟨rfl, hh, rfl⟩ := hfe
            clear hh
            have hck := hcell k hk8
            have hmem := HIN.out _ (gi_mem (l := uses) (i := k) hk8)
            obtain ⟨n, hn⟩ := Int.eq_ofNat_of_zero_le hmem.1
            have hnl : n < left.length := by omega
            have hni : (n : Int) < (left.length : Int) := by omega
            obtain ⟨b1, o1, rfl, _, hbl1, hp1, hp2, hp3⟩ := F1.out n hnl
            replace hp1 := cell_keep hb hp1
            replace hp2 := cell_keep hb hp2
            replace hp3 := cell_keep hb hp3
            have hzb : gb < wr.heap.size := World.block_lt_of_cell? wr _ hck
            have hzc : b1 < wr.heap.size := World.block_lt_of_cell? wr _ hp1
            have hzd : w.heap.size < wr.heap.size := World.block_lt_of_cell? wr _ hd2
            rw [hn] at hck
            obtain ⟨K1, hK1⟩ : ∃ x, (gd left n).1 = x := ⟨_, rfl⟩
            obtain ⟨A1, hA1⟩ : ∃ x, (gd left n).2.1 = x := ⟨_, rfl⟩
            obtain ⟨B1, hB1⟩ : ∃ x, (gd left n).2.2 = x := ⟨_, rfl⟩
            have hstep : useList left x3 true A (uses.drop k) = if A1 = A then (if B1 = x3 then decide (k + 1 = uses.length) else (if (K1 == 2 && !true) = true then false else useList left x3 true B1 (uses.drop (k + 1)))) else false := by
              rw [drop_gi hk8, hn, useList, Int.toNat_natCast, hK1, hA1, hB1, drop_empty hk8]
            rw [hK1] at hp1
            rw [hA1] at hp2
            rw [hB1] at hp3
            clear hcell hmem hn hK1 hA1 hB1
            by_cases hA : A1 = A
            rotate_left
            · have hab : (A1 != A) = true := by simp [hA]
              have HF := Lib.hid (show allowB left (x1, x2, x3) uses = false by rw [HUS.out, hstep, if_neg hA])
              clear hstep hA
              go_wp2
              go_ret
              exact ⟨by rw [HF.out]; rfl, bt hb (by repeat (first | exact Below.refl _ _ | with_reducible assumption | exact below_alloc _ _ | (refine Below.setCell ?_ (by first | (simp; done) | (simp; omega) | omega) _) | apply bd | apply ba | apply be))⟩
            have hab : (A1 != A) = false := by simp [hA]
            rw [if_pos hA] at hstep
            clear hA
            by_cases hB : B1 = x3
            · have hbb : (B1 == x3) = true := by simp [hB]
              rw [if_pos hB] at hstep
              have hwr : IntKind.i64.wrap ((uses.length : Int) - 1) = (uses.length : Int) - 1 := IntWalk.i64_in _ (by omega)
              obtain ⟨q, hq⟩ : ∃ q, ((k : Int) == (uses.length : Int) - 1) = q := ⟨_, rfl⟩
              have HF := Lib.hid (show allowB left (x1, x2, x3) uses = q by rw [HUS.out, hstep, ← hq, Bool.eq_iff_iff]; simp; omega)
              clear hstep hB
              go_wp2
              go_ret
              exact ⟨by rw [HF.out]; rfl, bt hb (by repeat (first | exact Below.refl _ _ | with_reducible assumption | exact below_alloc _ _ | (refine Below.setCell ?_ (by first | (simp; done) | (simp; omega) | omega) _) | apply bd | apply ba | apply be))⟩
            have hbb : (B1 == x3) = false := by simp [hB]
            rw [if_neg hB] at hstep
            clear hB
            by_cases hK : K1 = 2
            · have hkk : (K1 == 2) = true := by simp [hK]
              rw [hkk] at hstep
              have HN := Lib.hid (show allowB left (x1, x2, x3) uses = useList left x3 true B1 (uses.drop (k + 1)) by rw [HUS.out, hstep]; rfl)
              clear hstep hK
              go_wp2
              go_roundg (gk - 1)
              case rel => exact ⟨k + 1, B1, by have := HK.out; omega, by go_num, rfl, HN.out, cell_keep (by repeat (first | exact Below.refl _ _ | with_reducible assumption | exact below_alloc _ _ | (refine Below.setCell ?_ (by first | (simp; done) | (simp; omega) | omega) _) | apply bd | apply ba | apply be)) hd2, bt hb (by repeat (first | exact Below.refl _ _ | with_reducible assumption | exact below_alloc _ _ | (refine Below.setCell ?_ (by first | (simp; done) | (simp; omega) | omega) _) | apply bd | apply ba | apply be))⟩
              case measure => have := HK.out; omega
            · have hkk : (K1 == 2) = false := by simp [hK]
              rw [hkk] at hstep
              have HN := Lib.hid (show allowB left (x1, x2, x3) uses = useList left x3 true B1 (uses.drop (k + 1)) by rw [HUS.out, hstep]; rfl)
              clear hstep hK
              go_wp2
              go_roundg (gk - 1)
              case rel => exact ⟨k + 1, B1, by have := HK.out; omega, by go_num, rfl, HN.out, cell_keep (by repeat (first | exact Below.refl _ _ | with_reducible assumption | exact below_alloc _ _ | (refine Below.setCell ?_ (by first | (simp; done) | (simp; omega) | omega) _) | apply bd | apply ba | apply be)) hd2, bt hb (by repeat (first | exact Below.refl _ _ | with_reducible assumption | exact below_alloc _ _ | (refine Below.setCell ?_ (by first | (simp; done) | (simp; omega) | omega) _) | apply bd | apply ba | apply be))⟩
              case measure => have := HK.out; omega
          · obtain rfl : k = uses.length := by have := HK.out; omega
            have HF := Lib.hid (show allowB left (x1, x2, x3) uses = false by rw [HUS.out, List.drop_length]; rfl)
            go_wp2
            go_ret
            exact ⟨by rw [HF.out]; rfl, hb⟩
      | false =>
        go_loopg [8, 41] uses.length (fun q x i wr => ∃ (k : Nat) (A : Int), k + q = uses.length ∧ i = .int .i64 k ∧ x = .int .i64 A ∧ allowB left (x1, x2, x3) uses = useList left x3 false A (uses.drop k) ∧ wr.cell? ⟨w.heap.size, 2, none⟩ = some (.int .i64 x3) ∧ Below w.heap.size w wr)
        case atStart => exact ⟨0, x2, by omega, rfl, rfl, HRES.out, hd2, hb0⟩
        case round =>
          clear hd2 hb0
          obtain ⟨k, A, hk, rfl, rfl, hus, hd2, hb⟩ := hrel
          have HK := Lib.hid hk
          have HUS := Lib.hid hus
          clear hk hus
          by_cases hk8 : k < uses.length
          · have hki : (k : Int) < (uses.length : Int) := by omega
            obtain ⟨gb, go_, gc, hfe, _, _, hcell⟩ := (HU.out.keep hb).ne (by omega)
            simp only [Value.slice.injEq] at hfe
            obtain ⟨rfl, hh, rfl⟩ := hfe
            clear hh
            have hck := hcell k hk8
            have hmem := HIN.out _ (gi_mem (l := uses) (i := k) hk8)
            obtain ⟨n, hn⟩ := Int.eq_ofNat_of_zero_le hmem.1
            have hnl : n < left.length := by omega
            have hni : (n : Int) < (left.length : Int) := by omega
            obtain ⟨b1, o1, rfl, _, hbl1, hp1, hp2, hp3⟩ := F1.out n hnl
            replace hp1 := cell_keep hb hp1
            replace hp2 := cell_keep hb hp2
            replace hp3 := cell_keep hb hp3
            have hzb : gb < wr.heap.size := World.block_lt_of_cell? wr _ hck
            have hzc : b1 < wr.heap.size := World.block_lt_of_cell? wr _ hp1
            have hzd : w.heap.size < wr.heap.size := World.block_lt_of_cell? wr _ hd2
            rw [hn] at hck
            obtain ⟨K1, hK1⟩ : ∃ x, (gd left n).1 = x := ⟨_, rfl⟩
            obtain ⟨A1, hA1⟩ : ∃ x, (gd left n).2.1 = x := ⟨_, rfl⟩
            obtain ⟨B1, hB1⟩ : ∃ x, (gd left n).2.2 = x := ⟨_, rfl⟩
            have hstep : useList left x3 false A (uses.drop k) = if A1 = A then (if B1 = x3 then decide (k + 1 = uses.length) else (if (K1 == 2 && !false) = true then false else useList left x3 false B1 (uses.drop (k + 1)))) else false := by
              rw [drop_gi hk8, hn, useList, Int.toNat_natCast, hK1, hA1, hB1, drop_empty hk8]
            rw [hK1] at hp1
            rw [hA1] at hp2
            rw [hB1] at hp3
            clear hcell hmem hn hK1 hA1 hB1
            by_cases hA : A1 = A
            rotate_left
            · have hab : (A1 != A) = true := by simp [hA]
              have HF := Lib.hid (show allowB left (x1, x2, x3) uses = false by rw [HUS.out, hstep, if_neg hA])
              clear hstep hA
              go_wp2
              go_ret
              exact ⟨by rw [HF.out]; rfl, bt hb (by repeat (first | exact Below.refl _ _ | with_reducible assumption | exact below_alloc _ _ | (refine Below.setCell ?_ (by first | (simp; done) | (simp; omega) | omega) _) | apply bd | apply ba | apply be))⟩
            have hab : (A1 != A) = false := by simp [hA]
            rw [if_pos hA] at hstep
            clear hA
            by_cases hB : B1 = x3
            · have hbb : (B1 == x3) = true := by simp [hB]
              rw [if_pos hB] at hstep
              have hwr : IntKind.i64.wrap ((uses.length : Int) - 1) = (uses.length : Int) - 1 := IntWalk.i64_in _ (by omega)
              obtain ⟨q, hq⟩ : ∃ q, ((k : Int) == (uses.length : Int) - 1) = q := ⟨_, rfl⟩
              have HF := Lib.hid (show allowB left (x1, x2, x3) uses = q by rw [HUS.out, hstep, ← hq, Bool.eq_iff_iff]; simp; omega)
              clear hstep hB
              go_wp2
              go_ret
              exact ⟨by rw [HF.out]; rfl, bt hb (by repeat (first | exact Below.refl _ _ | with_reducible assumption | exact below_alloc _ _ | (refine Below.setCell ?_ (by first | (simp; done) | (simp; omega) | omega) _) | apply bd | apply ba | apply be))⟩
            have hbb : (B1 == x3) = false := by simp [hB]
            rw [if_neg hB] at hstep
            clear hB
            by_cases hK : K1 = 2
            · have hkk : (K1 == 2) = true := by simp [hK]
              rw [hkk] at hstep
              have HF := Lib.hid (show allowB left (x1, x2, x3) uses = false by rw [HUS.out, hstep]; rfl)
              clear hstep hK
              go_wp2
              go_ret
              exact ⟨by rw [HF.out]; rfl, bt hb (by repeat (first | exact Below.refl _ _ | with_reducible assumption | exact below_alloc _ _ | (refine Below.setCell ?_ (by first | (simp; done) | (simp; omega) | omega) _) | apply bd | apply ba | apply be))⟩
            · have hkk : (K1 == 2) = false := by simp [hK]
              rw [hkk] at hstep
              have HN := Lib.hid (show allowB left (x1, x2, x3) uses = useList left x3 false B1 (uses.drop (k + 1)) by rw [HUS.out, hstep]; rfl)
              clear hstep hK
              go_wp2
              go_roundg (gk - 1)
              case rel => exact ⟨k + 1, B1, by have := HK.out; omega, by go_num, rfl, HN.out, cell_keep (by repeat (first | exact Below.refl _ _ | with_reducible assumption | exact below_alloc _ _ | (refine Below.setCell ?_ (by first | (simp; done) | (simp; omega) | omega) _) | apply bd | apply ba | apply be)) hd2, bt hb (by repeat (first | exact Below.refl _ _ | with_reducible assumption | exact below_alloc _ _ | (refine Below.setCell ?_ (by first | (simp; done) | (simp; omega) | omega) _) | apply bd | apply ba | apply be))⟩
              case measure => have := HK.out; omega
          · obtain rfl : k = uses.length := by have := HK.out; omega
            have HF := Lib.hid (show allowB left (x1, x2, x3) uses = false by rw [HUS.out, List.drop_length]; rfl)
            go_wp2
            go_ret
            exact ⟨by rw [HF.out]; rfl, hb⟩
end Go.Proofs.Ythoingdcmdhllaa
