/- Walks: lists of facts, atoms and assertions are valid. -/
import Derived.Test.YtnhhfbhhglhocaaLs1
namespace Go.Proofs.Ytnhhfbhhglhocaa
open Go.RowKit

theorem cb {P : Program} {f : FuncId} {args : Array Value} {w : World} {T b : Bool} {R : World → Prop} (h : Calls P f args w fun e w' => e = .returned (.bool T) ∧ R w') (e : T = b) :
    Calls P f args w fun e w' => e = .returned (.bool b) ∧ R w' := by subst e; exact h

set_option maxHeartbeats 800000 in
theorem atomValidI_any (f : Atom) (w : World) :
    Calls Try.prog 120 #[.agg #[.int .i64 f.1, .int .i64 f.2.1, .int .i64 f.2.2]] w fun e w' => e = .returned (.bool (atomB f)) ∧ Below w.heap.size w w' := by
  obtain ⟨x, y, z⟩ := f
  by_cases hk : x = 1 ∨ x = 2
  rotate_left
  · have hf : atomB (x, y, z) = false := by
      have h1 : ¬ x = 1 := fun e => hk (.inl e)
      have h2 : ¬ x = 2 := fun e => hk (.inr e)
      simp [atomB, h1, h2]
    have h1 : (x == 1) = false := by simp; exact fun e => hk (.inl e)
    have h2 : (x == 2) = false := by simp; exact fun e => hk (.inr e)
    have HF := Lib.hid hf
    clear hf hk
    go_enter Try.func120, Try.ntmps120
    go_wp2
    go_ret
    exact ⟨by rw [HF.out]; rfl, below_alloc _ _⟩
  have hk2 : ((x == 1) || (x == 2)) = true := by simpa using hk
  cases h : isTermB y
  · have hf : atomB (x, y, z) = false := by simp [atomB, h]
    have HF := Lib.hid (And.intro hf h)
    clear hf h hk2
    rcases hk with rfl | rfl
    all_goals
      go_enter Try.func120, Try.ntmps120
      go_wp2_with (go_at_call 88; go_must (refine (cb (isTerm_any y _) HF.out.2).mono ?_; rintro e w' ⟨rfl, rfl⟩))
      go_ret
      exact ⟨by rw [HF.out.1]; rfl, below_alloc _ _⟩
  have hf : atomB (x, y, z) = isTermB z := by simp only [atomB, hk2, h, Bool.true_and]
  have HF := Lib.hid (And.intro hf h)
  clear hf h hk2
  rcases hk with rfl | rfl
  all_goals
    go_enter Try.func120, Try.ntmps120
    go_wp2_with fail
    refine (cb (isTerm_any y _) HF.out.2).mono ?_
    rintro e w' ⟨rfl, rfl⟩
    go_wp2_with fail
    refine (isTerm_any z _).mono ?_
    rintro e w' ⟨rfl, rfl⟩
    go_wp2
    go_ret
    exact ⟨by rw [HF.out.1]; rfl, below_alloc _ _⟩
set_option maxHeartbeats 800000 in
theorem atomValidS_any (f : Atom) (w : World) :
    Calls Try.prog 117 #[.agg #[.int .i64 f.1, .int .i64 f.2.1, .int .i64 f.2.2]] w fun e w' => e = .returned (.bool (atomB f)) ∧ Below w.heap.size w w' := by
  obtain ⟨x, y, z⟩ := f
  by_cases hk : x = 1 ∨ x = 2
  rotate_left
  · have hf : atomB (x, y, z) = false := by
      have h1 : ¬ x = 1 := fun e => hk (.inl e)
      have h2 : ¬ x = 2 := fun e => hk (.inr e)
      simp [atomB, h1, h2]
    have h1 : (x == 1) = false := by simp; exact fun e => hk (.inl e)
    have h2 : (x == 2) = false := by simp; exact fun e => hk (.inr e)
    have HF := Lib.hid hf
    clear hf hk
    go_enter Try.func117, Try.ntmps117
    go_wp2
    go_ret
    exact ⟨by rw [HF.out]; rfl, below_alloc _ _⟩
  have hk2 : ((x == 1) || (x == 2)) = true := by simpa using hk
  cases h : isTermB y
  · have hf : atomB (x, y, z) = false := by simp [atomB, h]
    have HF := Lib.hid (And.intro hf h)
    clear hf h hk2
    rcases hk with rfl | rfl
    all_goals
      go_enter Try.func117, Try.ntmps117
      go_wp2_with (go_at_call 161; go_must (refine (cb (l1Is_any y _) HF.out.2).mono ?_; rintro e w' ⟨rfl, rfl⟩))
      go_ret
      exact ⟨by rw [HF.out.1]; rfl, below_alloc _ _⟩
  have hf : atomB (x, y, z) = isTermB z := by simp only [atomB, hk2, h, Bool.true_and]
  have HF := Lib.hid (And.intro hf h)
  clear hf h hk2
  rcases hk with rfl | rfl
  all_goals
    go_enter Try.func117, Try.ntmps117
    go_wp2_with fail
    refine (cb (l1Is_any y _) HF.out.2).mono ?_
    rintro e w' ⟨rfl, rfl⟩
    go_wp2_with fail
    refine (l1Is_any z _).mono ?_
    rintro e w' ⟨rfl, rfl⟩
    go_wp2
    go_ret
    exact ⟨by rw [HF.out.1]; rfl, below_alloc _ _⟩
set_option maxHeartbeats 800000 in
theorem factsValidI_any {S : Nat → Prop} (v : Value) (l : List Fact) (w : World) (h : RL w S v l) :
    Calls Try.prog 119 #[v] w fun e w' => e = .returned (.bool (factsB l)) ∧ Below w.heap.size w w' := by
  have hm := h.len
  unfold maxLen at hm
  obtain ⟨a, c, rfl, _, _, hf⟩ := h.factAt
  have F1 := Lib.hid hf
  clear hf h
  by_cases hl : l.length ≤ 12
  rotate_left
  · have hfin : factsB l = false := by unfold factsB; simp [hl]
    have hgt : (12 : Int) < (l.length : Int) := by omega
    have HF := Lib.hid hfin
    clear hfin hl
    go_enter Try.func119, Try.ntmps119
    go_wp2
    go_ret
    exact ⟨by rw [HF.out]; rfl, Below.refl _ _⟩
  have hgt : ¬ (12 : Int) < (l.length : Int) := by omega
  go_enter Try.func119, Try.ntmps119
  go_wp2
  go_loopg [10] l.length (fun q i wr => ∃ k : Nat, k + q = l.length ∧ i = .int .i64 k ∧ (l.take k).all factB = true ∧ Below w.heap.size w wr)
  case atStart => exact ⟨0, by omega, rfl, by simp, Below.refl _ _⟩
  case round =>
    obtain ⟨k, hk, rfl, ht, hb⟩ := hrel
    have HK := Lib.hid hk
    have HT := Lib.hid ht
    clear hk ht
    by_cases hk8 : k < l.length
    · obtain ⟨b1, o1, rfl, _, hbl1, hp1, hp2, hp3⟩ := F1.out k hk8
      replace hp1 := cell_keep hb hp1; replace hp2 := cell_keep hb hp2; replace hp3 := cell_keep hb hp3
      have hs := hb.size
      have i1 : (k : Int) < (l.length : Int) := by omega
      have hzb : b1 < wr.heap.size := by omega
      cases hp : factB (gd l k)
      · have hfin : factsB l = false := by unfold factsB; rw [all_no hk8 hp]; simp
        have HF := Lib.hid (And.intro hfin hp)
        clear hfin hp
        go_wp2_with fail
        refine (cb (factValidI_any (gd l k) _) HF.out.2).mono ?_
        rintro e w2 ⟨rfl, hb2⟩
        go_wp2
        go_ret
        exact ⟨by rw [HF.out.1]; rfl, bt (by repeat (first | exact Below.refl _ _ | with_reducible assumption | exact below_alloc _ _ | (refine Below.setCell ?_ (by first | (simp; done) | (simp; omega) | omega) _) | apply bd | apply ba | apply be)) hb2⟩
      · have HP := Lib.hid hp
        clear hp
        go_wp2_with fail
        refine (cb (factValidI_any (gd l k) _) HP.out).mono ?_
        rintro e w2 ⟨rfl, hb2⟩
        go_wp2
        go_roundg (gk - 1)
        case rel => exact ⟨k + 1, by have := HK.out; omega, by go_num, all_take_yes hk8 HT.out HP.out, bt (by repeat (first | exact Below.refl _ _ | with_reducible assumption | exact below_alloc _ _ | (refine Below.setCell ?_ (by first | (simp; done) | (simp; omega) | omega) _) | apply bd | apply ba | apply be)) hb2⟩
        case measure => have := HK.out; omega
    · obtain rfl : k = l.length := by have := HK.out; omega
      have hall := all_end HT.out
      have HA := Lib.hid hall
      clear hall HT
      go_wp2
      go_ret
      exact ⟨by rw [factsB, HA.out]; simp; omega, hb⟩
set_option maxHeartbeats 800000 in
theorem factsValidS_any {S : Nat → Prop} (v : Value) (l : List Fact) (w : World) (h : RL w S v l) :
    Calls Try.prog 118 #[v] w fun e w' => e = .returned (.bool (factsB l)) ∧ Below w.heap.size w w' := by
  have hm := h.len
  unfold maxLen at hm
  obtain ⟨a, c, rfl, _, _, hf⟩ := h.factAt
  have F1 := Lib.hid hf
  clear hf h
  go_enter Try.func118, Try.ntmps118
  go_wp2
  go_loopg [3] l.length (fun q i wr => ∃ k : Nat, k + q = l.length ∧ i = .int .i64 k ∧ (l.take k).all factB = true ∧ Below w.heap.size w wr)
  case atStart => exact ⟨0, by omega, rfl, by simp, Below.refl _ _⟩
  case round =>
    obtain ⟨k, hk, rfl, ht, hb⟩ := hrel
    have HK := Lib.hid hk
    have HT := Lib.hid ht
    clear hk ht
    by_cases hk8 : k < l.length
    · obtain ⟨b1, o1, rfl, _, hbl1, hp1, hp2, hp3⟩ := F1.out k hk8
      replace hp1 := cell_keep hb hp1; replace hp2 := cell_keep hb hp2; replace hp3 := cell_keep hb hp3
      have hs := hb.size
      have i1 : (k : Int) < (l.length : Int) := by omega
      have hzb : b1 < wr.heap.size := by omega
      cases hp : factB (gd l k)
      · have hfin : factsB l = false := by unfold factsB; rw [all_no hk8 hp]; simp
        have HF := Lib.hid (And.intro hfin hp)
        clear hfin hp
        go_wp2_with fail
        refine (cb (factValidS_any (gd l k) _) HF.out.2).mono ?_
        rintro e w2 ⟨rfl, hb2⟩
        go_wp2
        go_ret
        exact ⟨by rw [HF.out.1]; rfl, bt (by repeat (first | exact Below.refl _ _ | with_reducible assumption | exact below_alloc _ _ | (refine Below.setCell ?_ (by first | (simp; done) | (simp; omega) | omega) _) | apply bd | apply ba | apply be)) hb2⟩
      · have HP := Lib.hid hp
        clear hp
        go_wp2_with fail
        refine (cb (factValidS_any (gd l k) _) HP.out).mono ?_
        rintro e w2 ⟨rfl, hb2⟩
        go_wp2
        go_roundg (gk - 1)
        case rel => exact ⟨k + 1, by have := HK.out; omega, by go_num, all_take_yes hk8 HT.out HP.out, bt (by repeat (first | exact Below.refl _ _ | with_reducible assumption | exact below_alloc _ _ | (refine Below.setCell ?_ (by first | (simp; done) | (simp; omega) | omega) _) | apply bd | apply ba | apply be)) hb2⟩
        case measure => have := HK.out; omega
    · obtain rfl : k = l.length := by have := HK.out; omega
      have hall := all_end HT.out
      have HA := Lib.hid hall
      clear hall HT
      go_wp2
      go_ret
      exact ⟨by rw [factsB, HA.out]; simp; omega, hb⟩
end Go.Proofs.Ytnhhfbhhglhocaa
