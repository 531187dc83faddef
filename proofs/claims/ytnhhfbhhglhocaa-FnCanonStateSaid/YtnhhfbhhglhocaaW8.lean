/- Walks: AliasTerms of the program and of the reference. -/
import Derived.Test.YtnhhfbhhglhocaaW7
import Derived.Test.YtnhhfbhhglhocaaQuiet
namespace Go.Proofs.Ytnhhfbhhglhocaa
open Go.RowKit

/-- What AliasTerms returns. -/
def aliasP (vl : List Int) (t : Int) (n : Nat) : Bool := tv vl (n : Int) == tv vl t
def aliasL (vl hl : List Int) (t : Int) : List Int := if validB vl hl = true ∧ isTermB t = true then sel (aliasP vl t) 0 9 else []

set_option maxHeartbeats 400000 in
theorem aliasTerms_any (vs hv : Value) (vl hl : List Int) (t : Int) (w : World) (h1 : RInts w vs vl) (h2 : RInts w hv hl) :
    Calls Try.prog 36 #[.agg #[vs, hv], .int .i64 t] w fun e w' => ∃ v, e = .returned v ∧ w'.ownsRow w.heap.size 3 1 v (aliasL vl hl t).length (ints (aliasL vl hl t)) ∧ Below w.heap.size w w' := by
  by_cases hv1 : validB vl hl = true
  · have hlen := (valid_len hv1).1
    have HLEN := Lib.hid hlen
    clear hlen
    by_cases hn : isTermB t = true
    · have ht := isTermB_iff.1 hn
      have hfin : aliasL vl hl t = sel (aliasP vl t) 0 9 := by rw [aliasL, if_pos ⟨hv1, hn⟩]
      have HF := Lib.hid hfin
      clear hfin
      go_enter Try.func36, Try.ntmps36
      go_wp2_with fail
      refine (stateValid_any _ _ vl hl _ (h1.alloc _) (h2.alloc _)).mono ?_
      rintro e w1 ⟨rfl, hb1⟩
      have q1 := (h1.alloc (Obj.cells #[vs, hv] 34)).keep hb1
      have hc0 := cell_below hb1 (p := ⟨w.heap.size, 0, none⟩) (v := vs) (by simp) (by simp)
      have hsz : w.heap.size < w1.heap.size := by have := hb1.size; simp at this; omega
      have hb01 := bt (below_alloc _ _) hb1
      clear hb1
      go_wp2_with (go_at_call 88; refine (isTerm_any _ _).mono ?_; rintro e w' ⟨rfl, rfl⟩)
      go_loopg [5, 6] 9 (fun q v i wr => ∃ k : Nat, k + q = 9 ∧ i = .int .i64 k ∧ wr.ownsRow w1.heap.size 3 1 v (sel (aliasP vl t) 0 k).length (ints (sel (aliasP vl t) 0 k)) ∧ Below w1.heap.size w1 wr)
      case atStart => exact ⟨0, by omega, rfl, World.ownsRow_nil _ _ _ _, Below.refl _ _⟩
      case round =>
        obtain ⟨k, hk, rfl, hown, hb⟩ := hrel
        have HK := Lib.hid hk
        clear hk
        by_cases hk8 : k < 9
        · have hc0r := cell_below hb (p := ⟨w.heap.size, 0, none⟩) hsz hc0
          have hszr : w.heap.size < wr.heap.size := by have := hb.size; omega
          have q1r := q1.keep hb
          have hbs := hb.size
          have hsl := sel_len (aliasP vl t) 0 k
          by_cases hp : aliasP vl t (0 + k) = true
          · have hy := sel_yes hp
            have e2 : (((0 + k : Nat) : Int)) = (k : Int) := by omega
            rw [e2] at hy
            have hpe : (tv vl (k : Int) == tv vl t) = true := by unfold aliasP at hp; rwa [Nat.zero_add] at hp
            have HY := Lib.hid hy
            clear hy e2 hp
            go_wp2
            refine wp_region_ext (by kernel_rfl) (by kernel_rfl) ?_
            repeat (go_big_quiet_step ((go_at_call 67; exact ext_same (termValue_any _ vl _ _ (q1r.ext _) (by omega) (by rw [HLEN.out]; omega)))))
            refine wpQuiet_nil ?_
            intro w2 hb2
            have hb02 := hb.trans (hb2.mono hbs)
            have hown2 := own_keep hown hb2
            have hsz2 := hb02.size
            go_wp2_with (at_builtin; refine app_int _ rfl _ _ rfl w1.heap.size _ _ rfl (own_keep hown2 (below_alloc _ _)) ⟨w2.heap.size, 0, none⟩ _ rfl (cell_new1 _ _ _) (by omega) (by simp; omega) ?_; intro v' w3 hown3 hf3)
            go_roundg (gk - 1)
            case rel => exact ⟨k + 1, by have := HK.out; omega, by go_num, by rw [HY.out]; exact hown3, below_own (own_keep hown2 (below_alloc _ _)) hf3 (hb02.trans ((below_alloc _ _).mono hsz2)) (by simp; omega)⟩
            case measure => have := HK.out; omega
          · have hp' : aliasP vl t (0 + k) = false := by simpa using hp
            have hy := sel_no hp'
            have hpe : (tv vl (k : Int) == tv vl t) = false := by unfold aliasP at hp'; rwa [Nat.zero_add] at hp'
            have HY := Lib.hid hy
            clear hy hp hp'
            go_wp2
            refine wp_region_ext (by kernel_rfl) (by kernel_rfl) ?_
            repeat (go_big_quiet_step ((go_at_call 67; exact ext_same (termValue_any _ vl _ _ (q1r.ext _) (by omega) (by rw [HLEN.out]; omega)))))
            refine wpQuiet_nil ?_
            intro w2 hb2
            go_wp2
            go_roundg (gk - 1)
            case rel => exact ⟨k + 1, by have := HK.out; omega, by go_num, by rw [HY.out]; exact own_keep hown hb2, hb.trans (hb2.mono hbs)⟩
            case measure => have := HK.out; omega
        · obtain rfl : k = 9 := by have := HK.out; omega
          go_wp2
          go_ret
          exact ⟨_, rfl, by rw [HF.out]; exact own_mono hown hb01.size, bt hb01 hb⟩
    · have hn' : isTermB t = false := by simpa using hn
      have hfin : aliasL vl hl t = [] := by rw [aliasL, if_neg (by simp [hn'])]
      have HF := Lib.hid hfin
      clear hfin hn
      go_enter Try.func36, Try.ntmps36
      go_wp2_with fail
      refine (stateValid_any _ _ vl hl _ (h1.alloc _) (h2.alloc _)).mono ?_
      rintro e w1 ⟨rfl, hb1⟩
      go_wp2_with (go_at_call 88; refine (isTerm_any _ _).mono ?_; rintro e w' ⟨rfl, rfl⟩)
      go_ret
      exact ⟨_, rfl, by rw [HF.out]; exact World.ownsRow_nil _ _ _ _, bt (below_alloc _ _) hb1⟩
  · have hv' : validB vl hl = false := by simpa using hv1
    have hfin : aliasL vl hl t = [] := by rw [aliasL, if_neg (by simp [hv'])]
    have HF := Lib.hid hfin
    clear hfin hv1
    go_enter Try.func36, Try.ntmps36
    go_wp2_with fail
    refine (stateValid_any _ _ vl hl _ (h1.alloc _) (h2.alloc _)).mono ?_
    rintro e w1 ⟨rfl, hb1⟩
    go_wp2
    go_ret
    exact ⟨_, rfl, by rw [HF.out]; exact World.ownsRow_nil _ _ _ _, bt (below_alloc _ _) hb1⟩
end Go.Proofs.Ytnhhfbhhglhocaa
