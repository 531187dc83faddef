/- Walks: ReachCells of the program and of the reference. -/
import Derived.Test.YtlmhcacgedidbaaW6
namespace Go.Proofs.Ytlmhcacgedidbaa
open Go.RowKit

/-- What ReachCells returns. -/
def reachL (vl hl : List Int) (from_ : Int) : List Int := if validB vl hl = true ∧ isTermB from_ = true then sel (fun n => (reachF hl 0 from_).testBit n) 1 8 else []

theorem bit0_reach (hs : List Int) (m : Nat) (v : Int) : (reachF hs m v).testBit 0 = m.testBit 0 := by
  refine reach_ind (hs := hs) (fun m _ r => r.testBit 0 = m.testBit 0) (fun _ _ _ => rfl) (fun m v r ha _ ih => ?_) m v
  rw [ih, testBit_or_pow]
  have := al_addr ha
  have : ¬ v.toNat = 0 := by omega
  simp [this]

theorem sel_from0 {p : Nat → Bool} {k : Nat} (h : p 0 = false) : sel p 0 (k + 1) = sel p 1 k := by
  unfold sel
  rw [List.range'_succ, List.filter_cons, if_neg (by simp [h])]

set_option maxHeartbeats 400000 in
theorem reachCells_any (vs hv : Value) (vl hl : List Int) (n : Int) (w : World) (h1 : RInts w vs vl) (h2 : RInts w hv hl) :
    Calls Try.prog 25 #[.agg #[vs, hv], .int .i64 n] w fun e w' => ∃ v, e = .returned v ∧ w'.ownsRow w.heap.size 3 1 v (reachL vl hl n).length (ints (reachL vl hl n)) ∧ Below w.heap.size w w' := by
  by_cases hv1 : validB vl hl = true
  · have hlen := (valid_len hv1).2
    have HLEN := Lib.hid hlen
    clear hlen
    by_cases hn : isTermB n = true
    · have hfin : reachL vl hl n = sel (fun i => (reachF hl 0 n).testBit i) 1 8 := by rw [reachL, if_pos ⟨hv1, hn⟩]
      have HF := Lib.hid hfin
      have hlt := reachF_lt (hs := hl) 0 n (by omega)
      clear hfin
      go_enter Try.func25, Try.ntmps25
      go_wp2_with fail
      refine (stateValid_any _ _ vl hl _ (h1.alloc _) (h2.alloc _)).mono ?_
      rintro e w1 ⟨rfl, hb1⟩
      have q1 := (h1.alloc (Obj.cells #[vs, hv] 27)).keep hb1
      have q2 := (h2.alloc (Obj.cells #[vs, hv] 27)).keep hb1
      have hc0 := cell_below hb1 (p := ⟨w.heap.size, 0, none⟩) (v := vs) (by simp) (by simp)
      have hc1 := cell_below hb1 (p := ⟨w.heap.size, 1, none⟩) (v := hv) (by simp) (by simp)
      have hsz : w.heap.size < w1.heap.size := by have := hb1.size; simp at this; omega
      go_wp2_with (go_at_call 59; refine (isValue_any _ _).mono ?_; rintro e w' ⟨rfl, rfl⟩)
      refine (reachedFrom_any _ _ hl _ _ q2 HLEN.out).mono ?_
      rintro e w2 ⟨rfl, hb2⟩
      go_wp2_with fail
      refine (cellList_any _ _ hlt).mono ?_
      rintro e w3 ⟨v, rfl, hown, hb3⟩
      go_wp2
      go_ret
      refine ⟨_, rfl, by rw [HF.out]; exact own_mono hown (by have := hb2.size; omega), ?_⟩
      exact bt (bt (bt (below_alloc _ _) hb1) hb2) hb3
    · have hn' : isTermB n = false := by simpa using hn
      have hfin : reachL vl hl n = [] := by rw [reachL, if_neg (by simp [hn'])]
      have HF := Lib.hid hfin
      clear hfin hn
      go_enter Try.func25, Try.ntmps25
      go_wp2_with fail
      refine (stateValid_any _ _ vl hl _ (h1.alloc _) (h2.alloc _)).mono ?_
      rintro e w1 ⟨rfl, hb1⟩
      go_wp2_with (go_at_call 59; refine (isValue_any _ _).mono ?_; rintro e w' ⟨rfl, rfl⟩)
      go_ret
      exact ⟨_, rfl, by rw [HF.out]; exact World.ownsRow_nil _ _ _ _, bt (below_alloc _ _) hb1⟩
  · have hv' : validB vl hl = false := by simpa using hv1
    have hfin : reachL vl hl n = [] := by rw [reachL, if_neg (by simp [hv'])]
    have HF := Lib.hid hfin
    clear hfin hv1
    go_enter Try.func25, Try.ntmps25
    go_wp2_with fail
    refine (stateValid_any _ _ vl hl _ (h1.alloc _) (h2.alloc _)).mono ?_
    rintro e w1 ⟨rfl, hb1⟩
    go_wp2
    go_ret
    exact ⟨_, rfl, by rw [HF.out]; exact World.ownsRow_nil _ _ _ _, bt (below_alloc _ _) hb1⟩
theorem own_empty_at (w : World) (B e g : Nat) (hg : w.heap.size = g) (hB : B ≤ g) : (w.alloc (.cells #[] e)).ownsRow B e 1 (.slice (some ⟨g, 0, none⟩) 0 0) 0 (ints []) := by
  subst hg
  have := World.ownsRow_lit (size := 1) w #[] 0 hB (by unfold maxLen; omega) rfl (e := e)
  simpa [ints] using this

theorem own_empty (w : World) (B e : Nat) (hB : B ≤ w.heap.size) : (w.alloc (.cells #[] e)).ownsRow B e 1 (.slice (some ⟨w.heap.size, 0, none⟩) 0 0) 0 (ints []) := by
  have := World.ownsRow_lit (size := 1) w #[] 0 hB (by unfold maxLen; omega) rfl (e := e)
  simpa [ints] using this

theorem make9 (w : World) : (Instr.makeSlice 60 (.int .i64 9) (.int .i64 9)).run Try.prog w =
    .ok (.slice (some ⟨w.heap.size, 0, none⟩) 9 9) (w.alloc (.cells #[.bool false, .bool false, .bool false, .bool false, .bool false, .bool false, .bool false, .bool false, .bool false] 4)) := by kernel_rfl

theorem own_flags (w : World) (B : Nat) (hB : B ≤ w.heap.size) :
    (w.alloc (.cells #[.bool false, .bool false, .bool false, .bool false, .bool false, .bool false, .bool false, .bool false, .bool false] 4)).ownsRow B 4 1 (.slice (some ⟨w.heap.size, 0, none⟩) 9 9) 9 (flagsOf 0) :=
  World.ownsRow_lit (size := 1) w _ 9 hB (by unfold maxLen; omega) rfl

set_option maxHeartbeats 400000 in
theorem specReachCells_any (vs hv : Value) (vl hl : List Int) (n : Int) (w : World) (h1 : RInts w vs vl) (h2 : RInts w hv hl) :
    Calls Try.prog 24 #[.agg #[vs, hv], .int .i64 n] w fun e w' => ∃ v, e = .returned v ∧ w'.ownsRow w.heap.size 3 1 v (reachL vl hl n).length (ints (reachL vl hl n)) ∧ Below w.heap.size w w' := by
  have hmk := make9
  by_cases hv1 : validB vl hl = true
  · have hlen := (valid_len hv1).2
    have HLEN := Lib.hid hlen
    clear hlen
    by_cases hn : isTermB n = true
    · have hfin : reachL vl hl n = sel (fun i => (reachF hl 0 n).testBit i) 0 9 := by rw [reachL, if_pos ⟨hv1, hn⟩, sel_from0]; rw [bit0_reach]; rfl
      have HF := Lib.hid hfin
      clear hfin
      go_enter Try.func24, Try.ntmps24
      go_wp2_with fail
      refine (specStateValid_any _ _ vl hl _ (h1.alloc _) (h2.alloc _)).mono ?_
      rintro e w1 ⟨rfl, hb1⟩
      have q2 := (h2.alloc (Obj.cells #[vs, hv] 27)).keep hb1
      have hc0 := cell_below hb1 (p := ⟨w.heap.size, 0, none⟩) (v := vs) (by simp) (by simp)
      have hc1 := cell_below hb1 (p := ⟨w.heap.size, 1, none⟩) (v := hv) (by simp) (by simp)
      have hsz : w.heap.size < w1.heap.size := by have := hb1.size; simp at this; omega
      go_wp2_with (go_at_call 56; refine (l2Addr_any _ _).mono ?_; rintro e w' ⟨rfl, rfl⟩)
      refine (l15Mark_any _ _ _ hl 0 w1.heap.size _ _ (q2.alloc _) HLEN.out (by omega) (own_flags w1 _ (Nat.le_refl _)) ?hsep).mono ?_
      case hsep =>
        intro k hk e
        simp [Value.ownBlock] at e
        rcases q2 with ⟨a, cap, rfl, h, _⟩ | ⟨b, o, cap, rfl, _, _, hcell⟩
        · have := HLEN.out; omega
        · simp [Value.ownBlock] at hk
          have := World.block_lt_of_cell? w1 _ (hcell 0 (by rw [HLEN.out]; omega))
          simp at this; omega
      rintro e w2 ⟨rfl, hown2, hf2⟩
      go_wp2_with fail
      refine (l3List_any _ _ _ _ hown2).mono ?_
      rintro e w3 ⟨v, rfl, hown, hb3⟩
      have hb2 : Below w1.heap.size (w1.alloc (.cells #[.bool false, .bool false, .bool false, .bool false, .bool false, .bool false, .bool false, .bool false, .bool false] 4)) w2 :=
        hf2.below (by simp) (by intro k hk e; simp [Value.ownBlock] at e; omega)
      have hb02 : Below w.heap.size w w2 := (bt (below_alloc _ _) hb1).trans (((below_alloc w1 _).trans hb2).mono (by omega))
      go_wp2
      go_ret
      exact ⟨_, rfl, by rw [HF.out]; exact own_mono hown hb02.size, bt hb02 hb3⟩
    · have hn' : isTermB n = false := by simpa using hn
      have hfin : reachL vl hl n = [] := by rw [reachL, if_neg (by simp [hn'])]
      have HF := Lib.hid hfin
      clear hfin hn
      go_enter Try.func24, Try.ntmps24
      go_wp2_with fail
      refine (specStateValid_any _ _ vl hl _ (h1.alloc _) (h2.alloc _)).mono ?_
      rintro e w1 ⟨rfl, hb1⟩
      go_wp2_with (go_at_call 56; refine (l2Addr_any _ _).mono ?_; rintro e w' ⟨rfl, rfl⟩)
      go_ret
      exact ⟨_, rfl, by rw [HF.out]; exact own_empty _ _ _ (bt (below_alloc _ _) hb1).size, bt (bt (below_alloc _ _) hb1) (below_alloc _ _)⟩
  · have hv' : validB vl hl = false := by simpa using hv1
    have hfin : reachL vl hl n = [] := by rw [reachL, if_neg (by simp [hv'])]
    have HF := Lib.hid hfin
    clear hfin hv1
    go_enter Try.func24, Try.ntmps24
    go_wp2_with fail
    refine (specStateValid_any _ _ vl hl _ (h1.alloc _) (h2.alloc _)).mono ?_
    rintro e w1 ⟨rfl, hb1⟩
    go_wp2
    go_ret
    exact ⟨_, rfl, by rw [HF.out]; exact own_empty _ _ _ (bt (below_alloc _ _) hb1).size, bt (bt (below_alloc _ _) hb1) (below_alloc _ _)⟩
end Go.Proofs.Ytlmhcacgedidbaa
