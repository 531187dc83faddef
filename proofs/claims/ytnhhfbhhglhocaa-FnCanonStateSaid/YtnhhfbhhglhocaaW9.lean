/- Walks: AliasTerms of the reference; UsedCells; CycleCells. -/
import Derived.Test.YtnhhfbhhglhocaaW8
namespace Go.Proofs.Ytnhhfbhhglhocaa
open Go.RowKit


/-- What UsedCells returns. -/
def usedP (hl : List Int) (n : Nat) : Bool := alB hl (n : Int)
def usedL (vl hl : List Int) : List Int := if validB vl hl = true then sel (usedP hl) 1 8 else []

set_option maxHeartbeats 800000 in
theorem usedCells_any (vs hv : Value) (vl hl : List Int) (w : World) (h1 : RInts w vs vl) (h2 : RInts w hv hl) :
    Calls Try.prog 37 #[.agg #[vs, hv]] w fun e w' => ∃ v, e = .returned v ∧ w'.ownsRow w.heap.size 3 1 v (usedL vl hl).length (ints (usedL vl hl)) ∧ Below w.heap.size w w' := by
  by_cases hv1 : validB vl hl = true
  · have hlen := (valid_len hv1).2
    have HLEN := Lib.hid hlen
    clear hlen
    have hfin : usedL vl hl = sel (usedP hl) 1 8 := by rw [usedL, if_pos hv1]
    have HF := Lib.hid hfin
    clear hfin
    go_enter Try.func37, Try.ntmps37
    go_wp2_with fail
    refine (stateValid_any _ _ vl hl _ (h1.alloc _) (h2.alloc _)).mono ?_
    rintro e w1 ⟨rfl, hb1⟩
    have q1 := (h2.alloc (Obj.cells #[vs, hv] 34)).keep hb1
    have hc0 := cell_below hb1 (p := ⟨w.heap.size, 0, none⟩) (v := vs) (by simp) (by simp)
    have hc1 := cell_below hb1 (p := ⟨w.heap.size, 1, none⟩) (v := hv) (by simp) (by simp)
    have hsz : w.heap.size < w1.heap.size := by have := hb1.size; simp at this; omega
    have hb01 := bt (below_alloc _ _) hb1
    clear hb1
    go_wp2
    go_loopg [3, 4] 8 (fun q v i wr => ∃ k : Nat, k + q = 8 ∧ i = .int .i64 (k + 1 : Nat) ∧ wr.ownsRow w1.heap.size 3 1 v (sel (usedP hl) 1 k).length (ints (sel (usedP hl) 1 k)) ∧ Below w1.heap.size w1 wr)
    case atStart => exact ⟨0, by omega, rfl, World.ownsRow_nil _ _ _ _, Below.refl _ _⟩
    case round =>
      obtain ⟨k, hk, rfl, hown, hb⟩ := hrel
      have HK := Lib.hid hk
      clear hk
      have e1 : (((k + 1 : Nat) : Int)) = (k : Int) + 1 := by omega
      rw [e1]
      clear e1
      by_cases hk8 : k < 8
      · have hc0r := cell_below hb (p := ⟨w.heap.size, 0, none⟩) hsz hc0
        have hc1r := cell_below hb (p := ⟨w.heap.size, 1, none⟩) hsz hc1
        have hbs := hb.size
        have hsl := sel_len (usedP hl) 1 k
        by_cases hp : usedP hl (1 + k) = true
        · have hy := sel_yes hp
          have e2 : (((1 + k : Nat) : Int)) = (k : Int) + 1 := by omega
          have hpe : alB hl ((k : Int) + 1) = true := by unfold usedP at hp; rwa [e2] at hp
          rw [e2] at hy
          have HY := Lib.hid hy
          clear hy e2 hp
          go_wp2_with fail
          refine (allocated_any _ _ hl _ _ (q1.keep hb) (by rw [HLEN.out]; omega)).mono ?_
          rintro e w2 ⟨rfl, hb2⟩
          have hb02 := hb.trans (hb2.mono hbs)
          have hown2 := own_keep hown hb2
          have hsz2 := hb02.size
          go_wp2_with (at_builtin; refine app_int _ rfl _ _ rfl w1.heap.size _ _ rfl (own_keep hown2 (below_alloc _ _)) ⟨w2.heap.size, 0, none⟩ _ rfl (cell_new1 _ _ _) (by omega) (by simp; omega) ?_; intro v' w3 hown3 hf3)
          go_roundg (gk - 1)
          case rel => exact ⟨k + 1, by have := HK.out; omega, by go_num, by rw [HY.out]; exact hown3, below_own (own_keep hown2 (below_alloc _ _)) hf3 (hb02.trans ((below_alloc _ _).mono hsz2)) (by simp; omega)⟩
          case measure => have := HK.out; omega
        · have hp' : usedP hl (1 + k) = false := by simpa using hp
          have hy := sel_no hp'
          have e2 : (((1 + k : Nat) : Int)) = (k : Int) + 1 := by omega
          have hpe : alB hl ((k : Int) + 1) = false := by unfold usedP at hp'; rwa [e2] at hp'
          have HY := Lib.hid hy
          clear hy hp hp' e2
          go_wp2_with fail
          refine (allocated_any _ _ hl _ _ (q1.keep hb) (by rw [HLEN.out]; omega)).mono ?_
          rintro e w2 ⟨rfl, hb2⟩
          go_wp2
          go_roundg (gk - 1)
          case rel => exact ⟨k + 1, by have := HK.out; omega, by go_num, by rw [HY.out]; exact own_keep hown hb2, hb.trans (hb2.mono hbs)⟩
          case measure => have := HK.out; omega
      · obtain rfl : k = 8 := by have := HK.out; omega
        go_wp2
        go_ret
        exact ⟨_, rfl, by rw [HF.out]; exact own_mono hown hb01.size, bt hb01 hb⟩
  · have hv' : validB vl hl = false := by simpa using hv1
    have hfin : usedL vl hl = [] := by rw [usedL, if_neg (by simp [hv'])]
    have HF := Lib.hid hfin
    clear hfin hv1
    go_enter Try.func37, Try.ntmps37
    go_wp2_with fail
    refine (stateValid_any _ _ vl hl _ (h1.alloc _) (h2.alloc _)).mono ?_
    rintro e w1 ⟨rfl, hb1⟩
    go_wp2
    go_ret
    exact ⟨_, rfl, by rw [HF.out]; exact World.ownsRow_nil _ _ _ _, bt (below_alloc _ _) hb1⟩
end Go.Proofs.Ytnhhfbhhglhocaa
