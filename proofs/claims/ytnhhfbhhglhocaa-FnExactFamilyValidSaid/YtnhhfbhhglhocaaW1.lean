/- Walks: the small functions on terms, addresses and states. -/
import Derived.Test.YtnhhfbhhglhocaaRows
import Derived.Test.YtnhhfbhhglhocaaPure
import Derived.WalkSpells
import Derived.WalkLawsBesides
namespace Go.Proofs.Ytnhhfbhhglhocaa
open Go.RowKit

set_option maxHeartbeats 400000 in
theorem isAddr_any (n : Int) (w : World) :
    Calls Try.prog 126 #[.int .i64 n] w fun e w' => e = .returned (.bool (isAddrB n)) ∧ w = w' := by
  by_cases h1 : 1 ≤ n
  · by_cases h2 : n ≤ 8
    all_goals
      go_enter Try.func126, Try.ntmps126
      go_wp2
      go_ret
      simp [isAddrB, h1, h2]
  · go_enter Try.func126, Try.ntmps126
    go_wp2
    go_ret
    simp [isAddrB]; omega
set_option maxHeartbeats 400000 in
theorem isTerm_any (n : Int) (w : World) :
    Calls Try.prog 88 #[.int .i64 n] w fun e w' => e = .returned (.bool (isTermB n)) ∧ w = w' := by
  by_cases h1 : 0 ≤ n
  · by_cases h2 : n ≤ 8
    all_goals
      go_enter Try.func88, Try.ntmps88
      go_wp2
      go_ret
      simp [isTermB, h1, h2]
  · go_enter Try.func88, Try.ntmps88
    go_wp2
    go_ret
    simp [isTermB]; omega
set_option maxHeartbeats 400000 in
theorem isValue_any (n : Int) (w : World) :
    Calls Try.prog 73 #[.int .i64 n] w fun e w' => e = .returned (.bool (isTermB n)) ∧ w = w' := by
  by_cases h1 : 0 ≤ n
  · by_cases h2 : n ≤ 8
    all_goals
      go_enter Try.func73, Try.ntmps73
      go_wp2
      go_ret
      simp [isTermB, h1, h2]
  · go_enter Try.func73, Try.ntmps73
    go_wp2
    go_ret
    simp [isTermB]; omega
set_option maxHeartbeats 400000 in
theorem l1Is_any (n : Int) (w : World) :
    Calls Try.prog 161 #[.int .i64 n] w fun e w' => e = .returned (.bool (isTermB n)) ∧ w = w' := by
  by_cases h1 : 0 ≤ n
  · by_cases h2 : n ≤ 8
    all_goals
      go_enter Try.func161, Try.ntmps161
      go_wp2
      go_ret
      simp [isTermB, h1, h2]
  · go_enter Try.func161, Try.ntmps161
    go_wp2
    go_ret
    simp [isTermB]; omega
set_option maxHeartbeats 400000 in
theorem l2Addr_any (n : Int) (w : World) :
    Calls Try.prog 121 #[.int .i64 n] w fun e w' => e = .returned (.bool (isTermB n)) ∧ w = w' := by
  by_cases h1 : 0 ≤ n
  · by_cases h2 : n ≤ 8
    all_goals
      go_enter Try.func121, Try.ntmps121
      go_wp2
      go_ret
      simp [isTermB, h1, h2]
  · go_enter Try.func121, Try.ntmps121
    go_wp2
    go_ret
    simp [isTermB]; omega

/-- A cell of a readable list. -/
theorem RInts.at {w : World} {b o cap : Nat} {l : List Int} {n : Nat} (h : RInts w (.slice (some ⟨b, o, none⟩) n cap) l) (i : Nat) (hi : i < l.length) :
    n = l.length ∧ w.cell? ⟨b, o + i, none⟩ = some (.int .i64 (gi l i)) := by
  rcases h with ⟨_, _, _, h, _⟩ | ⟨b', o', cap', h, h1, h2, h3⟩
  · omega
  · simp only [Value.slice.injEq, Option.some.injEq, Addr.mk.injEq, and_true] at h
    obtain ⟨⟨rfl, rfl⟩, rfl, rfl⟩ := h
    exact ⟨rfl, h3 i (by omega)⟩

/-- A readable list that is not empty lies in memory. -/
theorem RInts.ne {w : World} {v : Value} {l : List Int} (h : RInts w v l) (hl : 0 < l.length) :
    ∃ b o cap, v = .slice (some ⟨b, o, none⟩) l.length cap ∧ l.length ≤ cap ∧ cap ≤ maxLen ∧ ∀ i, i < l.length → w.cell? ⟨b, o + i, none⟩ = some (.int .i64 (gi l i)) := by
  rcases h with ⟨_, _, _, h, _⟩ | ⟨b, o, cap, rfl, h1, h2, h3⟩
  · omega
  · exact ⟨b, o, cap, rfl, h1, h2, fun i hi => h3 i (by omega)⟩

set_option maxHeartbeats 400000 in
theorem termValue_any (v : Value) (l : List Int) (t : Int) (w : World) (h : RInts w v l) (h0 : 0 ≤ t) (h1 : t ≤ l.length) :
    Calls Try.prog 67 #[v, .int .i64 t] w fun e w' => e = .returned (.int .i64 (tv l t)) ∧ w = w' := by
  by_cases ht : t = 0
  · subst ht
    go_enter Try.func67, Try.ntmps67
    go_wp2
    go_ret
    simp [tv]
  · obtain ⟨n, rfl⟩ := Int.eq_ofNat_of_zero_le h0
    obtain ⟨k, rfl⟩ : ∃ k, n = k + 1 := ⟨n - 1, by omega⟩
    have hm := h.len
    unfold maxLen at hm
    obtain ⟨b, o, cap, rfl, hc, hcm, hcell⟩ := h.ne (by omega)
    have hg := hcell k (by omega)
    have hk : (k : Int) < l.length := by omega
    have e1 : (((k + 1 : Nat) : Int)) = (k : Int) + 1 := by omega
    rw [e1]
    clear e1 h0 h1 h ht hcell
    go_enter Try.func67, Try.ntmps67
    go_wp2
    go_ret
    have e2 : ((k : Int) + 1 - 1).toNat = k := by omega
    have e3 : ¬ (k : Int) + 1 = 0 := by omega
    simp [tv, e3]
end Go.Proofs.Ytnhhfbhhglhocaa
