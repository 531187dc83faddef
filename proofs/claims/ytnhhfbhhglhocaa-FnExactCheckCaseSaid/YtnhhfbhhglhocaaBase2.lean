/- Base2: texts W7, W8, W9, Garb, W10, W11 in one. -/
import Derived.Test.YtnhhfbhhglhocaaBase1
import Derived.Deep.RegionHeld3
/- Walks: ReachCells of the program and of the reference. -/
namespace Go.Proofs.Ytnhhfbhhglhocaa
open Go.RowKit

/-- What ReachCells returns. -/
def reachL (vl hl : List Int) (from_ : Int) : List Int := if validB vl hl = true ∧ isTermB from_ = true then sel (fun n => (reachF hl 0 from_).testBit n) 1 8 else []

theorem bit0_reach (hs : List Int) (m : Nat) (v : Int) : (reachF hs m v).testBit 0 = m.testBit 0 := by
  refine reach_ind (hs := hs) (fun m _ r => r.testBit 0 = m.testBit 0) (fun _ _ _ => rfl) (fun m v r ha _ ih => ?_) m v
  rw [ih, testBit_or_pow]
  have := al_addr ha
  have : ¬ v.toNat = 0 := by omega
  simp [this]

theorem sel_from0 {p : Nat → Bool} {k : Nat} (h : p 0 = false) : sel p 0 (k + 1) = sel p 1 k := by
  unfold sel
  rw [List.range'_succ, List.filter_cons, if_neg (by simp [h])]

theorem own_empty_at (w : World) (B e g : Nat) (hg : w.heap.size = g) (hB : B ≤ g) : (w.alloc (.cells #[] e)).ownsRow B e 1 (.slice (some ⟨g, 0, none⟩) 0 0) 0 (ints []) := by
  subst hg
  have := World.ownsRow_lit (size := 1) w #[] 0 hB (by unfold maxLen; omega) rfl (e := e)
  simpa [ints] using this

theorem own_empty (w : World) (B e : Nat) (hB : B ≤ w.heap.size) : (w.alloc (.cells #[] e)).ownsRow B e 1 (.slice (some ⟨w.heap.size, 0, none⟩) 0 0) 0 (ints []) := by
  have := World.ownsRow_lit (size := 1) w #[] 0 hB (by unfold maxLen; omega) rfl (e := e)
  simpa [ints] using this

end Go.Proofs.Ytnhhfbhhglhocaa
/- Walks: AliasTerms of the program and of the reference. -/
namespace Go.Proofs.Ytnhhfbhhglhocaa
open Go.RowKit

/-- What AliasTerms returns. -/
def aliasP (vl : List Int) (t : Int) (n : Nat) : Bool := tv vl (n : Int) == tv vl t
def aliasL (vl hl : List Int) (t : Int) : List Int := if validB vl hl = true ∧ isTermB t = true then sel (aliasP vl t) 0 9 else []

set_option maxHeartbeats 400000 in
theorem aliasTerms_any (vs hv : Value) (vl hl : List Int) (t : Int) (w : World) (h1 : RInts w vs vl) (h2 : RInts w hv hl) :
    Calls Try.prog 36 #[.agg #[vs, hv], .int .i64 t] w fun e w' => ∃ v, e = .returned v ∧ w'.ownsRow w.heap.size 3 1 v (aliasL vl hl t).length (ints (aliasL vl hl t)) ∧ Below w.heap.size w w' := by
  by_cases hv1 : validB vl hl = true
  · have hlen := (valid_len hv1).1
    have HLEN := Lib.hid hlen
    clear hlen
    by_cases hn : isTermB t = true
    · have ht := isTermB_iff.1 hn
      have hfin : aliasL vl hl t = sel (aliasP vl t) 0 9 := by rw [aliasL, if_pos ⟨hv1, hn⟩]
      have HF := Lib.hid hfin
      clear hfin
      go_enter Try.func36, Try.ntmps36
      go_wp2_with fail
      refine (stateValid_any _ _ vl hl _ (h1.alloc _) (h2.alloc _)).mono ?_
      rintro e w1 ⟨rfl, hb1⟩
      have q1 := (h1.alloc (Obj.cells #[vs, hv] 34)).keep hb1
      have hc0 := cell_below hb1 (p := ⟨w.heap.size, 0, none⟩) (v := vs) (by simp) (by simp)
      have hsz : w.heap.size < w1.heap.size := by have := hb1.size; simp at this; omega
      have hb01 := bt (below_alloc _ _) hb1
      clear hb1
      go_wp2_with (go_at_call 88; refine (isTerm_any _ _).mono ?_; rintro e w' ⟨rfl, rfl⟩)
      go_loopg [5, 6] 9 (fun q v i wr => ∃ k : Nat, k + q = 9 ∧ i = .int .i64 k ∧ wr.ownsRow w1.heap.size 3 1 v (sel (aliasP vl t) 0 k).length (ints (sel (aliasP vl t) 0 k)) ∧ Below w1.heap.size w1 wr)
      case atStart => exact ⟨0, by omega, rfl, World.ownsRow_nil _ _ _ _, Below.refl _ _⟩
      case round =>
        obtain ⟨k, hk, rfl, hown, hb⟩ := hrel
        have HK := Lib.hid hk
        clear hk
        by_cases hk8 : k < 9
        · have hc0r := cell_below hb (p := ⟨w.heap.size, 0, none⟩) hsz hc0
          have hszr : w.heap.size < wr.heap.size := by have := hb.size; omega
          have q1r := q1.keep hb
          have hbs := hb.size
          have hsl := sel_len (aliasP vl t) 0 k
          by_cases hp : aliasP vl t (0 + k) = true
          · have hy := sel_yes hp
            have e2 : (((0 + k : Nat) : Int)) = (k : Int) := by omega
            rw [e2] at hy
            have hpe : (tv vl (k : Int) == tv vl t) = true := by unfold aliasP at hp; rwa [Nat.zero_add] at hp
            have HY := Lib.hid hy
            clear hy e2 hp
            go_wp2
            refine wp_region_ext (by kernel_rfl) (by kernel_rfl) ?_
            repeat (go_big_quiet_step ((go_at_call 67; exact ext_same (termValue_any _ vl _ _ (q1r.ext _) (by omega) (by rw [HLEN.out]; omega)))))
            refine wpQuiet_nil ?_
            intro w2 hb2
            have hb02 := hb.trans (hb2.mono hbs)
            have hown2 := own_keep hown hb2
            have hsz2 := hb02.size
            go_wp2_with (at_builtin; refine app_int _ rfl _ _ rfl w1.heap.size _ _ rfl (own_keep hown2 (below_alloc _ _)) ⟨w2.heap.size, 0, none⟩ _ rfl (cell_new1 _ _ _) (by omega) (by simp; omega) ?_; intro v' w3 hown3 hf3)
            go_roundg (gk - 1)
            case rel => exact ⟨k + 1, by have := HK.out; omega, by go_num, by rw [HY.out]; exact hown3, below_own (own_keep hown2 (below_alloc _ _)) hf3 (hb02.trans ((below_alloc _ _).mono hsz2)) (by simp; omega)⟩
            case measure => have := HK.out; omega
          · have hp' : aliasP vl t (0 + k) = false := by simpa using hp
            have hy := sel_no hp'
            have hpe : (tv vl (k : Int) == tv vl t) = false := by unfold aliasP at hp'; rwa [Nat.zero_add] at hp'
            have HY := Lib.hid hy
            clear hy hp hp'
            go_wp2
            refine wp_region_ext (by kernel_rfl) (by kernel_rfl) ?_
            repeat (go_big_quiet_step ((go_at_call 67; exact ext_same (termValue_any _ vl _ _ (q1r.ext _) (by omega) (by rw [HLEN.out]; omega)))))
            refine wpQuiet_nil ?_
            intro w2 hb2
            go_wp2
            go_roundg (gk - 1)
            case rel => exact ⟨k + 1, by have := HK.out; omega, by go_num, by rw [HY.out]; exact own_keep hown hb2, hb.trans (hb2.mono hbs)⟩
            case measure => have := HK.out; omega
        · obtain rfl : k = 9 := by have := HK.out; omega
          go_wp2
          go_ret
          exact ⟨_, rfl, by rw [HF.out]; exact own_mono hown hb01.size, bt hb01 hb⟩
    · have hn' : isTermB t = false := by simpa using hn
      have hfin : aliasL vl hl t = [] := by rw [aliasL, if_neg (by simp [hn'])]
      have HF := Lib.hid hfin
      clear hfin hn
      go_enter Try.func36, Try.ntmps36
      go_wp2_with fail
      refine (stateValid_any _ _ vl hl _ (h1.alloc _) (h2.alloc _)).mono ?_
      rintro e w1 ⟨rfl, hb1⟩
      go_wp2_with (go_at_call 88; refine (isTerm_any _ _).mono ?_; rintro e w' ⟨rfl, rfl⟩)
      go_ret
      exact ⟨_, rfl, by rw [HF.out]; exact World.ownsRow_nil _ _ _ _, bt (below_alloc _ _) hb1⟩
  · have hv' : validB vl hl = false := by simpa using hv1
    have hfin : aliasL vl hl t = [] := by rw [aliasL, if_neg (by simp [hv'])]
    have HF := Lib.hid hfin
    clear hfin hv1
    go_enter Try.func36, Try.ntmps36
    go_wp2_with fail
    refine (stateValid_any _ _ vl hl _ (h1.alloc _) (h2.alloc _)).mono ?_
    rintro e w1 ⟨rfl, hb1⟩
    go_wp2
    go_ret
    exact ⟨_, rfl, by rw [HF.out]; exact World.ownsRow_nil _ _ _ _, bt (below_alloc _ _) hb1⟩
end Go.Proofs.Ytnhhfbhhglhocaa
/- Walks: AliasTerms of the reference; UsedCells; CycleCells. -/
namespace Go.Proofs.Ytnhhfbhhglhocaa
open Go.RowKit


/-- What UsedCells returns. -/
def usedP (hl : List Int) (n : Nat) : Bool := alB hl (n : Int)
def usedL (vl hl : List Int) : List Int := if validB vl hl = true then sel (usedP hl) 1 8 else []

set_option maxHeartbeats 800000 in
theorem usedCells_any (vs hv : Value) (vl hl : List Int) (w : World) (h1 : RInts w vs vl) (h2 : RInts w hv hl) :
    Calls Try.prog 37 #[.agg #[vs, hv]] w fun e w' => ∃ v, e = .returned v ∧ w'.ownsRow w.heap.size 3 1 v (usedL vl hl).length (ints (usedL vl hl)) ∧ Below w.heap.size w w' := by
  by_cases hv1 : validB vl hl = true
  · have hlen := (valid_len hv1).2
    have HLEN := Lib.hid hlen
    clear hlen
    have hfin : usedL vl hl = sel (usedP hl) 1 8 := by rw [usedL, if_pos hv1]
    have HF := Lib.hid hfin
    clear hfin
    go_enter Try.func37, Try.ntmps37
    go_wp2_with fail
    refine (stateValid_any _ _ vl hl _ (h1.alloc _) (h2.alloc _)).mono ?_
    rintro e w1 ⟨rfl, hb1⟩
    have q1 := (h2.alloc (Obj.cells #[vs, hv] 34)).keep hb1
    have hc0 := cell_below hb1 (p := ⟨w.heap.size, 0, none⟩) (v := vs) (by simp) (by simp)
    have hc1 := cell_below hb1 (p := ⟨w.heap.size, 1, none⟩) (v := hv) (by simp) (by simp)
    have hsz : w.heap.size < w1.heap.size := by have := hb1.size; simp at this; omega
    have hb01 := bt (below_alloc _ _) hb1
    clear hb1
    go_wp2
    go_loopg [3, 4] 8 (fun q v i wr => ∃ k : Nat, k + q = 8 ∧ i = .int .i64 (k + 1 : Nat) ∧ wr.ownsRow w1.heap.size 3 1 v (sel (usedP hl) 1 k).length (ints (sel (usedP hl) 1 k)) ∧ Below w1.heap.size w1 wr)
    case atStart => exact ⟨0, by omega, rfl, World.ownsRow_nil _ _ _ _, Below.refl _ _⟩
    case round =>
      obtain ⟨k, hk, rfl, hown, hb⟩ := hrel
      have HK := Lib.hid hk
      clear hk
      have e1 : (((k + 1 : Nat) : Int)) = (k : Int) + 1 := by omega
      rw [e1]
      clear e1
      by_cases hk8 : k < 8
      · have hc0r := cell_below hb (p := ⟨w.heap.size, 0, none⟩) hsz hc0
        have hc1r := cell_below hb (p := ⟨w.heap.size, 1, none⟩) hsz hc1
        have hbs := hb.size
        have hsl := sel_len (usedP hl) 1 k
        by_cases hp : usedP hl (1 + k) = true
        · have hy := sel_yes hp
          have e2 : (((1 + k : Nat) : Int)) = (k : Int) + 1 := by omega
          have hpe : alB hl ((k : Int) + 1) = true := by unfold usedP at hp; rwa [e2] at hp
          rw [e2] at hy
          have HY := Lib.hid hy
          clear hy e2 hp
          go_wp2_with fail
          refine (allocated_any _ _ hl _ _ (q1.keep hb) (by rw [HLEN.out]; omega)).mono ?_
          rintro e w2 ⟨rfl, hb2⟩
          have hb02 := hb.trans (hb2.mono hbs)
          have hown2 := own_keep hown hb2
          have hsz2 := hb02.size
          go_wp2_with (at_builtin; refine app_int _ rfl _ _ rfl w1.heap.size _ _ rfl (own_keep hown2 (below_alloc _ _)) ⟨w2.heap.size, 0, none⟩ _ rfl (cell_new1 _ _ _) (by omega) (by simp; omega) ?_; intro v' w3 hown3 hf3)
          go_roundg (gk - 1)
          case rel => exact ⟨k + 1, by have := HK.out; omega, by go_num, by rw [HY.out]; exact hown3, below_own (own_keep hown2 (below_alloc _ _)) hf3 (hb02.trans ((below_alloc _ _).mono hsz2)) (by simp; omega)⟩
          case measure => have := HK.out; omega
        · have hp' : usedP hl (1 + k) = false := by simpa using hp
          have hy := sel_no hp'
          have e2 : (((1 + k : Nat) : Int)) = (k : Int) + 1 := by omega
          have hpe : alB hl ((k : Int) + 1) = false := by unfold usedP at hp'; rwa [e2] at hp'
          have HY := Lib.hid hy
          clear hy hp hp' e2
          go_wp2_with fail
          refine (allocated_any _ _ hl _ _ (q1.keep hb) (by rw [HLEN.out]; omega)).mono ?_
          rintro e w2 ⟨rfl, hb2⟩
          go_wp2
          go_roundg (gk - 1)
          case rel => exact ⟨k + 1, by have := HK.out; omega, by go_num, by rw [HY.out]; exact own_keep hown hb2, hb.trans (hb2.mono hbs)⟩
          case measure => have := HK.out; omega
      · obtain rfl : k = 8 := by have := HK.out; omega
        go_wp2
        go_ret
        exact ⟨_, rfl, by rw [HF.out]; exact own_mono hown hb01.size, bt hb01 hb⟩
  · have hv' : validB vl hl = false := by simpa using hv1
    have hfin : usedL vl hl = [] := by rw [usedL, if_neg (by simp [hv'])]
    have HF := Lib.hid hfin
    clear hfin hv1
    go_enter Try.func37, Try.ntmps37
    go_wp2_with fail
    refine (stateValid_any _ _ vl hl _ (h1.alloc _) (h2.alloc _)).mono ?_
    rintro e w1 ⟨rfl, hb1⟩
    go_wp2
    go_ret
    exact ⟨_, rfl, by rw [HF.out]; exact World.ownsRow_nil _ _ _ _, bt (below_alloc _ _) hb1⟩
end Go.Proofs.Ytnhhfbhhglhocaa
/- Reached cells from several starts; garbage; cycles: in plain Lean. -/
namespace Go.Proofs.Ytnhhfbhhglhocaa

/-- Closed under contents. -/
def closedB (hs : List Int) (m : Nat) : Prop := ∀ v, alB hs v = true → m.testBit v.toNat = true → alB hs (ct hs v) = true → m.testBit (ct hs v).toNat = true

theorem hasB_al {hs : List Int} {m : Nat} {v : Int} (h : alB hs v = true) : hasB m v = m.testBit v.toNat := by
  have : isAddrB v = true := isAddrB_iff.2 (al_addr h)
  simp [hasB, this]

theorem reach_sub {hs : List Int} {m : Nat} (hm : closedB hs m) (a : Nat) (v : Int) (hv : alB hs v = true → m.testBit v.toNat = true) (j : Nat) (hj : (reachF hs a v).testBit j = true) : a.testBit j = true ∨ m.testBit j = true := by
  refine reach_ind (hs := hs) (fun a v r => (alB hs v = true → m.testBit v.toNat = true) → r.testBit j = true → a.testBit j = true ∨ m.testBit j = true) (fun _ _ _ _ h => .inl h) (fun a v r ha _ ih hv hr => ?_) a v hv hj
  rcases ih (fun h => hm v ha (hv ha) h) hr with h | h
  · rw [testBit_or_pow] at h
    simp only [Bool.or_eq_true, decide_eq_true_eq] at h
    rcases h with h | h
    · exact .inl h
    · subst h; exact .inr (hv ha)
  · exact .inr h

theorem reach_grow (hs : List Int) (a : Nat) (v : Int) (j : Nat) (hj : a.testBit j = true) : (reachF hs a v).testBit j = true :=
  reach_ind (hs := hs) (fun a _ r => a.testBit j = true → r.testBit j = true) (fun _ _ _ h => h) (fun a v r _ _ ih h => ih (by rw [testBit_or_pow, h]; rfl)) a v hj

theorem reach_closed {hs : List Int} {m : Nat} (hm : closedB hs m) (v : Int) : closedB hs (reachF hs m v) := by
  refine reach_ind (hs := hs) (fun a v r => (∀ x, alB hs x = true → a.testBit x.toNat = true → alB hs (ct hs x) = true → a.testBit (ct hs x).toNat = true ∨ ct hs x = v) → closedB hs r) ?_ ?_ m v (fun x h1 h2 h3 => .inl (hm x h1 h2 h3))
  · intro a v hn h x h1 h2 h3
    rcases h x h1 h2 h3 with h | h
    · exact h
    · subst h
      have hh : hasB a (ct hs x) = true := by
        cases hc : hasB a (ct hs x) with
        | true => rfl
        | false => exact absurd ⟨h3, hc⟩ hn
      rwa [hasB_al h3] at hh
  · intro a v r ha hh ih h
    refine ih fun x h1 h2 h3 => ?_
    rw [testBit_or_pow] at h2
    simp only [Bool.or_eq_true, decide_eq_true_eq] at h2
    rcases h2 with h2 | h2
    · rcases h x h1 h2 h3 with h | h
      · left; rw [testBit_or_pow, h]; rfl
      · left; rw [testBit_or_pow, h]; simp
    · have : x = v := by have := al_addr h1; have := al_addr ha; omega
      subst this; right; rfl

theorem reach_union {hs : List Int} {m : Nat} (hm : closedB hs m) (a : Nat) (v : Int) (j : Nat) : (reachF hs (m ||| a) v).testBit j = (m.testBit j || (reachF hs a v).testBit j) := by
  refine reach_ind (hs := hs) (fun a v r => (reachF hs (m ||| a) v).testBit j = (m.testBit j || r.testBit j)) ?_ ?_ a v
  · intro a v hn
    rw [reachF_no, Nat.testBit_or]
    rintro ⟨h1, h2⟩
    refine hn ⟨h1, ?_⟩
    rw [hasB_al h1] at h2 ⊢
    rw [Nat.testBit_or] at h2
    simp only [Bool.or_eq_false_iff] at h2
    exact h2.2
  · intro a v r ha hh ih
    rw [hasB_al ha] at hh
    cases hv : m.testBit v.toNat with
    | false =>
      rw [reachF_yes ha (by rw [hasB_al ha, Nat.testBit_or, hv, hh]; rfl), Nat.or_assoc]
      exact ih
    | true =>
      rw [reachF_no (by rw [hasB_al ha, Nat.testBit_or, hv]; simp), Nat.testBit_or]
      have hr : (reachF hs (m ||| (a ||| 2 ^ v.toNat)) (ct hs v)).testBit j = (m ||| (a ||| 2 ^ v.toNat)).testBit j := by
        rw [Bool.eq_iff_iff]
        constructor
        · intro h
          rcases reach_sub hm _ _ (fun h => hm v ha hv h) j h with h | h
          · exact h
          · rw [Nat.testBit_or, h]; rfl
        · exact reach_grow hs _ _ j
      rw [hr, Nat.testBit_or, testBit_or_pow] at ih
      rw [← ih]
      by_cases e : v.toNat = j
      · subst e; simp [hv]
      · simp [e]

/-- What the reference marks from the first k program variables. -/
def markAll (vl hl : List Int) : Nat → Nat
  | 0 => 0
  | k + 1 => reachF hl (markAll vl hl k) (tv vl ((k : Int) + 1))
theorem closed_zero (hs : List Int) : closedB hs 0 := fun v _ h => by simp at h
theorem mark_closed (vl hl : List Int) : ∀ k, closedB hl (markAll vl hl k)
  | 0 => closed_zero hl
  | k + 1 => reach_closed (mark_closed vl hl k) _
theorem mark_lt (vl hl : List Int) : ∀ k, markAll vl hl k < 65536
  | 0 => by simp [markAll]
  | k + 1 => reachF_lt _ _ (mark_lt vl hl k)
theorem mark_succ (vl hl : List Int) (k j : Nat) : (markAll vl hl (k + 1)).testBit j = ((markAll vl hl k).testBit j || (reachF hl 0 (tv vl ((k : Int) + 1))).testBit j) := by
  have := reach_union (mark_closed vl hl k) 0 (tv vl ((k : Int) + 1)) j
  rw [Nat.or_zero] at this
  exact this

/-- What the program has left after the first k program variables. -/
def garbN (vl hl : List Int) : Nat → Nat
  | 0 => usedN hl 8
  | k + 1 => garbN vl hl k &&& (65535 - reachF hl 0 (tv vl ((k : Int) + 1)))
theorem garbN_lt (vl hl : List Int) : ∀ k, garbN vl hl k < 65536
  | 0 => usedN_lt hl 8 (by omega)
  | k + 1 => Nat.lt_of_le_of_lt Nat.and_le_left (garbN_lt vl hl k)
theorem garbN_bit (vl hl : List Int) : ∀ k j, j < 16 → (garbN vl hl k).testBit j = ((usedN hl 8).testBit j && !((markAll vl hl k).testBit j))
  | 0, j, _ => by simp [garbN, markAll]
  | k + 1, j, hj => by
    have ih := garbN_bit vl hl k j hj
    have hr := reachF_lt (hs := hl) 0 (tv vl ((k : Int) + 1)) (by omega)
    have h2 : (65535 - reachF hl 0 (tv vl ((k : Int) + 1))).testBit j = !((reachF hl 0 (tv vl ((k : Int) + 1))).testBit j) := by
      have := Nat.testBit_two_pow_sub_succ (n := 16) hr j
      have e : 2 ^ 16 - (reachF hl 0 (tv vl ((k : Int) + 1)) + 1) = 65535 - reachF hl 0 (tv vl ((k : Int) + 1)) := by omega
      rw [e] at this
      rw [this]; simp [hj]
    unfold garbN
    rw [Nat.testBit_and, ih, h2, mark_succ]
    cases (usedN hl 8).testBit j <;> cases (markAll vl hl k).testBit j <;> simp

/-- What GarbageCells returns. -/
def garbageP (vl hl : List Int) (n : Nat) : Bool := alB hl (n : Int) && !((markAll vl hl 4).testBit n)
def garbageL (vl hl : List Int) : List Int := if validB vl hl = true then sel (garbageP vl hl) 1 8 else []
theorem garb_sel (vl hl : List Int) : sel (fun n => (garbN vl hl 4).testBit n) 1 8 = sel (garbageP vl hl) 1 8 :=
  sel_congr fun i h1 h2 => by
    rw [garbN_bit vl hl 4 i (by omega), usedN_bit]
    have : decide (1 ≤ i ∧ i ≤ 8) = true := by simp; omega
    rw [this]; rfl

/-- What CycleCells returns. -/
def cycI (hl : List Int) (n : Int) : Bool := hasB (reachF hl 0 (ct hl n)) n
def cycleP (hl : List Int) (n : Nat) : Bool := alB hl (n : Int) && cycI hl (n : Int)
def cycleL (vl hl : List Int) : List Int := if validB vl hl = true then sel (cycleP hl) 1 8 else []

theorem filter_take_succ (p : Int → Bool) (l : List Int) (k : Nat) (h : k < l.length) : (l.take (k + 1)).filter p = (l.take k).filter p ++ (if p (gi l k) = true then [gi l k] else []) := by
  rw [List.take_succ_eq_append_getElem h, List.filter_append, gi_of h]
  congr 1
  simp only [List.filter_cons, List.filter_nil]
theorem filter_take_yes {p : Int → Bool} {l : List Int} {k : Nat} (h : k < l.length) (hp : p (gi l k) = true) : (l.take (k + 1)).filter p = (l.take k).filter p ++ [gi l k] := by rw [filter_take_succ p l k h, if_pos hp]
theorem filter_take_no {p : Int → Bool} {l : List Int} {k : Nat} (h : k < l.length) (hp : p (gi l k) = false) : (l.take (k + 1)).filter p = (l.take k).filter p := by rw [filter_take_succ p l k h, if_neg (by simp [hp]), List.append_nil]
theorem sel_filter (p : Nat → Bool) (q : Int → Bool) (a k : Nat) : (sel p a k).filter q = sel (fun n => p n && q (n : Int)) a k := by
  unfold sel
  rw [List.filter_map, List.filter_filter]
  congr 1
  apply List.filter_congr
  intro x _
  simp [Bool.and_comm]

end Go.Proofs.Ytnhhfbhhglhocaa
/- Walks: GarbageCells and CycleCells of the program. -/
namespace Go.Proofs.Ytnhhfbhhglhocaa
open Go.RowKit

set_option maxHeartbeats 800000 in
theorem garbageCells_any (vs hv : Value) (vl hl : List Int) (w : World) (h1 : RInts w vs vl) (h2 : RInts w hv hl) :
    Calls Try.prog 38 #[.agg #[vs, hv]] w fun e w' => ∃ v, e = .returned v ∧ w'.ownsRow w.heap.size 3 1 v (garbageL vl hl).length (ints (garbageL vl hl)) ∧ Below w.heap.size w w' := by
  by_cases hv1 : validB vl hl = true
  · have hlen := valid_len hv1
    have HLEN := Lib.hid hlen
    clear hlen
    have hfin : garbageL vl hl = sel (fun n => (garbN vl hl 4).testBit n) 1 8 := by rw [garbageL, if_pos hv1, garb_sel]
    have HF := Lib.hid hfin
    clear hfin
    have g1 := h1.alloc (.cells #[vs, hv] 34)
    have g2 := h2.alloc (.cells #[vs, hv] 34)
    go_enter Try.func38, Try.ntmps38
    go_wp2_with fail
    refine (stateValid_any _ _ vl hl _ g1 g2).mono ?_
    rintro e w1 ⟨rfl, hW⟩
    have hc0 := cell_keep hW (p := ⟨w.heap.size, 0, none⟩) (v := vs) (by simp)
    have hc1 := cell_keep hW (p := ⟨w.heap.size, 1, none⟩) (v := hv) (by simp)
    go_wp2_with fail
    refine (usedIn_any _ _ hl _ (g2.keep hW) HLEN.out.2).mono ?_
    rintro e w2 ⟨rfl, hb⟩
    replace hW := bt hW hb
    clear hb hc0 hc1
    go_wp2
    go_loopg [3, 4] 4 (fun q x i wr => ∃ k : Nat, k + q = 4 ∧ i = .int .i64 (k + 1 : Nat) ∧ x = .int .u16 (garbN vl hl k) ∧ Below (w.alloc (.cells #[vs, hv] 34)).heap.size (w.alloc (.cells #[vs, hv] 34)) wr)
    case atStart => exact ⟨0, by omega, rfl, rfl, hW⟩
    case round =>
      clear hW
      obtain ⟨k, hk, rfl, rfl, hW⟩ := hrel
      have HK := Lib.hid hk
      clear hk
      have e1 : (((k + 1 : Nat) : Int)) = (k : Int) + 1 := by omega
      rw [e1]
      clear e1
      have hc0 := cell_keep hW (p := ⟨w.heap.size, 0, none⟩) (v := vs) (by simp)
      have hc1 := cell_keep hW (p := ⟨w.heap.size, 1, none⟩) (v := hv) (by simp)
      have hz : w.heap.size < wr.heap.size := by have := hW.size; simp at this; omega
      by_cases hk8 : k < 4
      · have hlt := garbN_lt vl hl k
        have hlt2 := reachF_lt (hs := hl) 0 (tv vl ((k : Int) + 1)) (by omega)
        have ho := u16_andNot_nat (garbN vl hl k) (reachF hl 0 (tv vl ((k : Int) + 1))) hlt hlt2
        have HO := Lib.hid ho
        clear ho
        go_wp2
        refine wp_region_ext (by kernel_rfl) (by kernel_rfl) ?_
        repeat (go_big_quiet_step ((first
          | (go_at_call 67; exact ext_same (termValue_any _ vl _ _ ((g1.keep hW).ext _) (by omega) (by rw [HLEN.out.1]; omega)))
          | (go_at_call 91; exact ext_c (reachedFrom_any _ _ hl _ _ ((g2.keep hW).ext _) HLEN.out.2)))))
        refine wpQuiet_nil ?_
        intro w3 hb
        replace hW := bt hW hb
        clear hc0 hc1 hb
        go_wp2
        go_roundg (gk - 1)
        case rel => exact ⟨k + 1, by have := HK.out; omega, by go_num, by rw [HO.out]; rfl, hW⟩
        case measure => have := HK.out; omega
      · obtain rfl : k = 4 := by have := HK.out; omega
        go_wp2_with fail
        refine (cellList_any _ _ (garbN_lt vl hl 4)).mono ?_
        rintro e w3 ⟨v, rfl, hown, hb⟩
        go_wp2
        go_ret
        exact ⟨_, rfl, by rw [HF.out]; exact own_mono hown (by have := hW.size; simp at this; omega), bt (bt (below_alloc _ _) hW) hb⟩
  · have hv' : validB vl hl = false := by simpa using hv1
    have hfin : garbageL vl hl = [] := by rw [garbageL, if_neg (by simp [hv'])]
    have HF := Lib.hid hfin
    clear hfin hv1
    go_enter Try.func38, Try.ntmps38
    go_wp2_with fail
    refine (stateValid_any _ _ vl hl _ (h1.alloc _) (h2.alloc _)).mono ?_
    rintro e w1 ⟨rfl, hb1⟩
    go_wp2
    go_ret
    exact ⟨_, rfl, by rw [HF.out]; exact World.ownsRow_nil _ _ _ _, bt (below_alloc _ _) hb1⟩
set_option maxHeartbeats 800000 in
theorem cycleCells_any (vs hv : Value) (vl hl : List Int) (w : World) (h1 : RInts w vs vl) (h2 : RInts w hv hl) :
    Calls Try.prog 39 #[.agg #[vs, hv]] w fun e w' => ∃ v, e = .returned v ∧ w'.ownsRow w.heap.size 3 1 v (cycleL vl hl).length (ints (cycleL vl hl)) ∧ Below w.heap.size w w' := by
  by_cases hv1 : validB vl hl = true
  · have hlen := valid_len hv1
    have HLEN := Lib.hid hlen
    clear hlen
    have hfin : cycleL vl hl = (usedL vl hl).filter (cycI hl) := by rw [cycleL, if_pos hv1, usedL, if_pos hv1, sel_filter]; rfl
    have hul : (usedL vl hl).length ≤ 8 := by rw [usedL, if_pos hv1]; exact sel_len _ _ _
    have HF := Lib.hid hfin
    clear hfin
    have g1 := h1.alloc (.cells #[vs, hv] 34)
    have g2 := h2.alloc (.cells #[vs, hv] 34)
    go_enter Try.func39, Try.ntmps39
    go_wp2_with fail
    refine (stateValid_any _ _ vl hl _ g1 g2).mono ?_
    rintro e w1 ⟨rfl, hW⟩
    have hc0 := cell_keep hW (p := ⟨w.heap.size, 0, none⟩) (v := vs) (by simp)
    have hc1 := cell_keep hW (p := ⟨w.heap.size, 1, none⟩) (v := hv) (by simp)
    go_wp2_with fail
    refine (usedCells_any _ _ vl hl _ (g1.keep hW) (g2.keep hW)).mono ?_
    rintro e w2 ⟨uv, rfl, hu, hb⟩
    replace hW := bt hW hb
    clear hb hc0 hc1
    obtain ⟨au, cu, rfl, hcells⟩ := (own_ints hu).1.cells
    have HC := Lib.hid hcells
    have hB := hW.size
    clear hcells hu
    simp at hB
    go_wp2
    go_loopg [3, 12] (usedL vl hl).length (fun q x i wr => ∃ k : Nat, k + q = (usedL vl hl).length ∧ i = .int .i64 k ∧ wr.ownsRow w2.heap.size 3 1 x (((usedL vl hl).take k).filter (cycI hl)).length (ints (((usedL vl hl).take k).filter (cycI hl))) ∧ Below w2.heap.size w2 wr)
    case atStart => exact ⟨0, by omega, rfl, World.ownsRow_nil _ _ _ _, Below.refl _ _⟩
    case round =>
      obtain ⟨k, hk, rfl, hown, hb2⟩ := hrel
      have HK := Lib.hid hk
      clear hk
      have hWr := bt hW hb2
      have hc0 := cell_keep hWr (p := ⟨w.heap.size, 0, none⟩) (v := vs) (by simp)
      have hc1 := cell_keep hWr (p := ⟨w.heap.size, 1, none⟩) (v := hv) (by simp)
      have hz2 := hb2.size
      have hz : w.heap.size < wr.heap.size := by omega
      by_cases hk8 : k < (usedL vl hl).length
      · obtain ⟨b, o, rfl, hbl, hc⟩ := HC.out k hk8
        have hcr := cell_keep hb2 hc
        have hki : (k : Int) < ((usedL vl hl).length : Int) := by omega
        have hlt := reachF_lt (hs := hl) 0 (ct hl (gi (usedL vl hl) k)) (by omega)
        have hfl : (((usedL vl hl).take k).filter (cycI hl)).length ≤ 8 := Nat.le_trans (List.length_filter_le _ _) (by rw [List.length_take]; omega)
        by_cases hp : cycI hl (gi (usedL vl hl) k) = true
        · have hy := filter_take_yes hk8 hp
          have HY := Lib.hid hy
          have hp' : hasB (reachF hl 0 (ct hl (gi (usedL vl hl) k))) (gi (usedL vl hl) k) = true := hp
          clear hy hp hc
          go_wp2
          refine wp_region_ext (by kernel_rfl) (by kernel_rfl) ?_
          repeat (go_big_quiet_step ((first
            | (go_at_call 93; exact ext_c (content_any _ _ hl _ _ ((g2.keep hWr).ext _) (by rw [HLEN.out.2]; omega)))
            | (go_at_call 91; exact ext_c (reachedFrom_any _ _ hl _ _ ((g2.keep hWr).ext _) HLEN.out.2))
            | (go_at_call 94; exact ext_same (cellHas_val _ _ _ _ hlt hp')))))
          refine wpQuiet_nil ?_
          intro w3 hb3
          have hown3 := own_keep hown hb3
          have hb23 := hb2.trans (hb3.mono hz2)
          have hz3 := hb23.size
          go_wp2_with (at_builtin; refine app_int _ rfl _ _ rfl w2.heap.size _ _ rfl (own_keep hown3 (below_alloc _ _)) ⟨w3.heap.size, 0, none⟩ _ rfl (cell_new1 _ _ _) (by omega) (by simp; omega) ?_; intro v' w4 hown4 hf4)
          go_roundg (gk - 1)
          case rel => exact ⟨k + 1, by have := HK.out; omega, by go_num, by rw [HY.out]; exact hown4, below_own (own_keep hown3 (below_alloc _ _)) hf4 (hb23.trans ((below_alloc _ _).mono hz3)) (by simp; omega)⟩
          case measure => have := HK.out; omega
        · have hpf : cycI hl (gi (usedL vl hl) k) = false := by simpa using hp
          have hy := filter_take_no hk8 hpf
          have HY := Lib.hid hy
          have hp' : hasB (reachF hl 0 (ct hl (gi (usedL vl hl) k))) (gi (usedL vl hl) k) = false := hpf
          clear hy hp hc hpf
          go_wp2
          refine wp_region_ext (by kernel_rfl) (by kernel_rfl) ?_
          repeat (go_big_quiet_step ((first
            | (go_at_call 93; exact ext_c (content_any _ _ hl _ _ ((g2.keep hWr).ext _) (by rw [HLEN.out.2]; omega)))
            | (go_at_call 91; exact ext_c (reachedFrom_any _ _ hl _ _ ((g2.keep hWr).ext _) HLEN.out.2))
            | (go_at_call 94; exact ext_same (cellHas_val _ _ _ _ hlt hp')))))
          refine wpQuiet_nil ?_
          intro w3 hb3
          go_wp2
          go_roundg (gk - 1)
          case rel => exact ⟨k + 1, by have := HK.out; omega, by go_num, by rw [HY.out]; exact own_keep hown hb3, hb2.trans (hb3.mono hz2)⟩
          case measure => have := HK.out; omega
      · obtain rfl : k = (usedL vl hl).length := by have := HK.out; omega
        go_wp2
        go_ret
        rw [List.take_length] at hown
        exact ⟨_, rfl, by rw [HF.out]; exact own_mono hown (by omega), bt (bt (below_alloc _ _) hW) hb2⟩
  · have hv' : validB vl hl = false := by simpa using hv1
    have hfin : cycleL vl hl = [] := by rw [cycleL, if_neg (by simp [hv'])]
    have HF := Lib.hid hfin
    clear hfin hv1
    go_enter Try.func39, Try.ntmps39
    go_wp2_with fail
    refine (stateValid_any _ _ vl hl _ (h1.alloc _) (h2.alloc _)).mono ?_
    rintro e w1 ⟨rfl, hb1⟩
    go_wp2
    go_ret
    exact ⟨_, rfl, by rw [HF.out]; exact World.ownsRow_nil _ _ _ _, bt (below_alloc _ _) hb1⟩
end Go.Proofs.Ytnhhfbhhglhocaa
/- Walks: GarbageCells and CycleCells of the reference. -/
namespace Go.Proofs.Ytnhhfbhhglhocaa
open Go.RowKit

theorem flags_form {w : World} {B m : Nat} {v : Value} (h : w.ownsRow B 4 1 v 9 (flagsOf m)) : ∃ g cap, v = .slice (some ⟨g, 0, none⟩) 9 cap := by
  rcases h.2 with ⟨_, h⟩ | ⟨g, cap, _, rfl, _⟩
  · omega
  · exact ⟨g, cap, rfl⟩

/-- A readable list that came in is not in a block of the call's own. -/
theorem RInts.apart {w : World} {v : Value} {l : List Int} (h : RInts w v l) (hl : 0 < l.length) : ∀ k, v.ownBlock = some k → k < w.heap.size := by
  obtain ⟨b, o, cap, rfl, _, _, hc⟩ := h.ne hl
  intro k hk
  simp [Value.ownBlock] at hk
  have := World.block_lt_of_cell? w _ (hc 0 hl)
  simp at this; omega

end Go.Proofs.Ytnhhfbhhglhocaa
