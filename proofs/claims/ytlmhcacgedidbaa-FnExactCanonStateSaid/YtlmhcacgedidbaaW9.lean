/- Walks: AliasTerms of the reference; UsedCells; CycleCells. -/
import Derived.Test.YtlmhcacgedidbaaW8
namespace Go.Proofs.Ytlmhcacgedidbaa
open Go.RowKit

set_option maxHeartbeats 800000 in
theorem specAliasTerms_any (vs hv : Value) (vl hl : List Int) (t : Int) (w : World) (h1 : RInts w vs vl) (h2 : RInts w hv hl) :
    Calls Try.prog 16 #[.agg #[vs, hv], .int .i64 t] w fun e w' => ∃ v, e = .returned v ∧ w'.ownsRow w.heap.size 3 1 v (aliasL vl hl t).length (ints (aliasL vl hl t)) ∧ Below w.heap.size w w' := by
  by_cases hv1 : validB vl hl = true
  · have hlen := (valid_len hv1).1
    have HLEN := Lib.hid hlen
    clear hlen
    by_cases hn : isTermB t = true
    · have ht := isTermB_iff.1 hn
      have hfin : aliasL vl hl t = sel (aliasP vl t) 0 9 := by rw [aliasL, if_pos ⟨hv1, hn⟩]
      have HF := Lib.hid hfin
      clear hfin
      go_enter Try.func16, Try.ntmps16
      go_wp2
      go_loopg [5, 6] 9 (fun q v i wr => ∃ k : Nat, k + q = 9 ∧ i = .int .i64 k ∧ wr.ownsRow (w.heap.size + 1) 3 1 v (sel (aliasP vl t) 0 k).length (ints (sel (aliasP vl t) 0 k)) ∧ Below (w.heap.size + 1) (w.alloc (.cells #[vs, hv] 27)) wr)
      case atStart => exact ⟨0, by omega, rfl, own_empty_at (w.alloc (.cells #[vs, hv] 27)) (w.heap.size + 1) 3 (w.heap.size + 1) (by simp) (Nat.le_refl _), (Below.refl (w.heap.size + 1) (w.alloc (.cells #[vs, hv] 27))).alloc (by simp) _⟩
      case round =>
        obtain ⟨k, hk, rfl, hown, hb⟩ := hrel
        have HK := Lib.hid hk
        clear hk
        have hc0 := cell_below hb (p := ⟨w.heap.size, 0, none⟩) (v := vs) (by simp) (by simp)
        have hc1 := cell_below hb (p := ⟨w.heap.size, 1, none⟩) (v := hv) (by simp) (by simp)
        have hszr : w.heap.size < wr.heap.size := by have := hb.size; simp at this; omega
        have q1r := (h1.alloc (Obj.cells #[vs, hv] 27)).keep (hb.mono (by simp))
        have q2r := (h2.alloc (Obj.cells #[vs, hv] 27)).keep (hb.mono (by simp))
        have hsl := sel_len (aliasP vl t) 0 k
        by_cases hk8 : k < 9
        · go_wp2_with fail
          refine (specStateValid_any _ _ vl hl _ q1r q2r).mono ?_
          rintro e w1 ⟨rfl, hb1⟩
          have hown1 := own_keep hown hb1
          have hb01 := hb.trans (hb1.mono (by omega))
          have hc01 := cell_below hb1 (p := ⟨w.heap.size, 0, none⟩) hszr hc0
          have q11 := q1r.keep hb1
          have hsz1 : w.heap.size < w1.heap.size := by have := hb1.size; omega
          clear hown q1r q2r hc0 hc1 hb hb1
          by_cases hp : aliasP vl t (0 + k) = true
          · have hy := sel_yes hp
            have e2 : (((0 + k : Nat) : Int)) = (k : Int) := by omega
            rw [e2] at hy
            have hpe : (tv vl (k : Int) == tv vl t) = true := by unfold aliasP at hp; rwa [Nat.zero_add] at hp
            have HY := Lib.hid hy
            clear hy e2 hp
            go_wp2_with (go_at_call 51; refine (l1Is_any _ _).mono ?_; rintro e w' ⟨rfl, rfl⟩)
            refine wp_region_ext (by kernel_rfl) (by kernel_rfl) ?_
            repeat (go_big_quiet_step ((go_at_call 52; exact ext_same (l1Value_any _ vl _ _ (q11.ext _) (by omega) (by rw [HLEN.out]; omega)))))
            refine wpQuiet_nil ?_
            intro w2 hb2
            have hb02 := hb01.trans (hb2.mono (by omega))
            have hown2 := own_keep hown1 hb2
            have hsz2 := hb02.size
            simp at hsz2
            go_wp2_with (at_builtin; refine app_int _ rfl _ _ rfl (w.heap.size + 1) _ _ rfl (own_keep hown2 (below_alloc _ _)) ⟨w2.heap.size, 0, none⟩ _ rfl (cell_new1 _ _ _) (by omega) (by simp; omega) ?_; intro v' w3 hown3 hf3)
            go_roundg (gk - 1)
            case rel => exact ⟨k + 1, by have := HK.out; omega, by go_num, by rw [HY.out]; exact hown3, below_own (own_keep hown2 (below_alloc _ _)) hf3 (hb02.trans ((below_alloc _ _).mono (by omega))) (by simp; omega)⟩
            case measure => have := HK.out; omega
          · have hp' : aliasP vl t (0 + k) = false := by simpa using hp
            have hy := sel_no hp'
            have hpe : (tv vl (k : Int) == tv vl t) = false := by unfold aliasP at hp'; rwa [Nat.zero_add] at hp'
            have HY := Lib.hid hy
            clear hy hp hp'
            go_wp2_with (go_at_call 51; refine (l1Is_any _ _).mono ?_; rintro e w' ⟨rfl, rfl⟩)
            refine wp_region_ext (by kernel_rfl) (by kernel_rfl) ?_
            repeat (go_big_quiet_step ((go_at_call 52; exact ext_same (l1Value_any _ vl _ _ (q11.ext _) (by omega) (by rw [HLEN.out]; omega)))))
            refine wpQuiet_nil ?_
            intro w2 hb2
            go_wp2
            go_roundg (gk - 1)
            case rel => exact ⟨k + 1, by have := HK.out; omega, by go_num, by rw [HY.out]; exact own_keep hown1 hb2, hb01.trans (hb2.mono (by omega))⟩
            case measure => have := HK.out; omega
        · obtain rfl : k = 9 := by have := HK.out; omega
          go_wp2
          go_ret
          exact ⟨_, rfl, by rw [HF.out]; exact own_mono hown (by omega), (below_alloc _ _).trans (hb.mono (by omega))⟩
    · have hn' : isTermB t = false := by simpa using hn
      have hfin : aliasL vl hl t = [] := by rw [aliasL, if_neg (by simp [hn'])]
      have HF := Lib.hid hfin
      clear hfin hn
      go_enter Try.func16, Try.ntmps16
      go_wp2
      go_loopg [5, 6] 1 (fun q v i wr => q = 1 ∧ i = .int .i64 0 ∧ v = .slice (some ⟨w.heap.size + 1, 0, none⟩) 0 0 ∧ wr = (w.alloc (.cells #[vs, hv] 27)).alloc (.cells #[] 3))
      case atStart => exact ⟨rfl, rfl, rfl, rfl⟩
      case round =>
        obtain ⟨_, rfl, rfl, rfl⟩ := hrel
        go_wp2_with fail
        refine (specStateValid_any _ _ vl hl _ ((h1.alloc _).alloc _) ((h2.alloc _).alloc _)).mono ?_
        rintro e w1 ⟨rfl, hb1⟩
        go_wp2_with (go_at_call 51; refine (l1Is_any _ _).mono ?_; rintro e w' ⟨rfl, rfl⟩)
        go_ret
        exact ⟨_, rfl, by rw [HF.out]; exact own_keep (own_empty_at (w.alloc _) w.heap.size _ (w.heap.size + 1) (by simp) (by omega)) hb1, bt (bt (below_alloc _ _) (below_alloc _ _)) hb1⟩
  · have hv' : validB vl hl = false := by simpa using hv1
    have hfin : aliasL vl hl t = [] := by rw [aliasL, if_neg (by simp [hv'])]
    have HF := Lib.hid hfin
    clear hfin hv1
    go_enter Try.func16, Try.ntmps16
    go_wp2
    go_loopg [5, 6] 1 (fun q v i wr => q = 1 ∧ i = .int .i64 0 ∧ v = .slice (some ⟨w.heap.size + 1, 0, none⟩) 0 0 ∧ wr = (w.alloc (.cells #[vs, hv] 27)).alloc (.cells #[] 3))
    case atStart => exact ⟨rfl, rfl, rfl, rfl⟩
    case round =>
      obtain ⟨_, rfl, rfl, rfl⟩ := hrel
      go_wp2_with fail
      refine (specStateValid_any _ _ vl hl _ ((h1.alloc _).alloc _) ((h2.alloc _).alloc _)).mono ?_
      rintro e w1 ⟨rfl, hb1⟩
      go_wp2
      go_ret
      exact ⟨_, rfl, by rw [HF.out]; exact own_keep (own_empty_at (w.alloc _) w.heap.size _ (w.heap.size + 1) (by simp) (by omega)) hb1, bt (bt (below_alloc _ _) (below_alloc _ _)) hb1⟩

/-- What UsedCells returns. -/
def usedP (hl : List Int) (n : Nat) : Bool := alB hl (n : Int)
def usedL (vl hl : List Int) : List Int := if validB vl hl = true then sel (usedP hl) 1 8 else []

set_option maxHeartbeats 800000 in
theorem usedCells_any (vs hv : Value) (vl hl : List Int) (w : World) (h1 : RInts w vs vl) (h2 : RInts w hv hl) :
    Calls Try.prog 46 #[.agg #[vs, hv]] w fun e w' => ∃ v, e = .returned v ∧ w'.ownsRow w.heap.size 3 1 v (usedL vl hl).length (ints (usedL vl hl)) ∧ Below w.heap.size w w' := by
  by_cases hv1 : validB vl hl = true
  · have hlen := (valid_len hv1).2
    have HLEN := Lib.hid hlen
    clear hlen
    have hfin : usedL vl hl = sel (usedP hl) 1 8 := by rw [usedL, if_pos hv1]
    have HF := Lib.hid hfin
    clear hfin
    go_enter Try.func46, Try.ntmps46
    go_wp2_with fail
    refine (stateValid_any _ _ vl hl _ (h1.alloc _) (h2.alloc _)).mono ?_
    rintro e w1 ⟨rfl, hb1⟩
    have q1 := (h2.alloc (Obj.cells #[vs, hv] 27)).keep hb1
    have hc0 := cell_below hb1 (p := ⟨w.heap.size, 0, none⟩) (v := vs) (by simp) (by simp)
    have hc1 := cell_below hb1 (p := ⟨w.heap.size, 1, none⟩) (v := hv) (by simp) (by simp)
    have hsz : w.heap.size < w1.heap.size := by have := hb1.size; simp at this; omega
    have hb01 := bt (below_alloc _ _) hb1
    clear hb1
    go_wp2
    go_loopg [3, 4] 8 (fun q v i wr => ∃ k : Nat, k + q = 8 ∧ i = .int .i64 (k + 1 : Nat) ∧ wr.ownsRow w1.heap.size 3 1 v (sel (usedP hl) 1 k).length (ints (sel (usedP hl) 1 k)) ∧ Below w1.heap.size w1 wr)
    case atStart => exact ⟨0, by omega, rfl, World.ownsRow_nil _ _ _ _, Below.refl _ _⟩
    case round =>
      obtain ⟨k, hk, rfl, hown, hb⟩ := hrel
      have HK := Lib.hid hk
      clear hk
      have e1 : (((k + 1 : Nat) : Int)) = (k : Int) + 1 := by omega
      rw [e1]
      clear e1
      by_cases hk8 : k < 8
      · have hc0r := cell_below hb (p := ⟨w.heap.size, 0, none⟩) hsz hc0
        have hc1r := cell_below hb (p := ⟨w.heap.size, 1, none⟩) hsz hc1
        have hbs := hb.size
        have hsl := sel_len (usedP hl) 1 k
        by_cases hp : usedP hl (1 + k) = true
        · have hy := sel_yes hp
          have e2 : (((1 + k : Nat) : Int)) = (k : Int) + 1 := by omega
          have hpe : alB hl ((k : Int) + 1) = true := by unfold usedP at hp; rwa [e2] at hp
          rw [e2] at hy
          have HY := Lib.hid hy
          clear hy e2 hp
          go_wp2_with fail
          refine (allocated_any _ _ hl _ _ (q1.keep hb) (by rw [HLEN.out]; omega)).mono ?_
          rintro e w2 ⟨rfl, hb2⟩
          have hb02 := hb.trans (hb2.mono hbs)
          have hown2 := own_keep hown hb2
          have hsz2 := hb02.size
          go_wp2_with (at_builtin; refine app_int _ rfl _ _ rfl w1.heap.size _ _ rfl (own_keep hown2 (below_alloc _ _)) ⟨w2.heap.size, 0, none⟩ _ rfl (cell_new1 _ _ _) (by omega) (by simp; omega) ?_; intro v' w3 hown3 hf3)
          go_roundg (gk - 1)
          case rel => exact ⟨k + 1, by have := HK.out; omega, by go_num, by rw [HY.out]; exact hown3, below_own (own_keep hown2 (below_alloc _ _)) hf3 (hb02.trans ((below_alloc _ _).mono hsz2)) (by simp; omega)⟩
          case measure => have := HK.out; omega
        · have hp' : usedP hl (1 + k) = false := by simpa using hp
          have hy := sel_no hp'
          have e2 : (((1 + k : Nat) : Int)) = (k : Int) + 1 := by omega
          have hpe : alB hl ((k : Int) + 1) = false := by unfold usedP at hp'; rwa [e2] at hp'
          have HY := Lib.hid hy
          clear hy hp hp' e2
          go_wp2_with fail
          refine (allocated_any _ _ hl _ _ (q1.keep hb) (by rw [HLEN.out]; omega)).mono ?_
          rintro e w2 ⟨rfl, hb2⟩
          go_wp2
          go_roundg (gk - 1)
          case rel => exact ⟨k + 1, by have := HK.out; omega, by go_num, by rw [HY.out]; exact own_keep hown hb2, hb.trans (hb2.mono hbs)⟩
          case measure => have := HK.out; omega
      · obtain rfl : k = 8 := by have := HK.out; omega
        go_wp2
        go_ret
        exact ⟨_, rfl, by rw [HF.out]; exact own_mono hown hb01.size, bt hb01 hb⟩
  · have hv' : validB vl hl = false := by simpa using hv1
    have hfin : usedL vl hl = [] := by rw [usedL, if_neg (by simp [hv'])]
    have HF := Lib.hid hfin
    clear hfin hv1
    go_enter Try.func46, Try.ntmps46
    go_wp2_with fail
    refine (stateValid_any _ _ vl hl _ (h1.alloc _) (h2.alloc _)).mono ?_
    rintro e w1 ⟨rfl, hb1⟩
    go_wp2
    go_ret
    exact ⟨_, rfl, by rw [HF.out]; exact World.ownsRow_nil _ _ _ _, bt (below_alloc _ _) hb1⟩
end Go.Proofs.Ytlmhcacgedidbaa
