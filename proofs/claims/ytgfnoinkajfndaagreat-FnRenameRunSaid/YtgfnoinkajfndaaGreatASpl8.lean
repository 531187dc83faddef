/- Walks: texts cut at a mark (reference: l8Split, l8Bare, l8Assign). -/
import Derived.Test.YtgfnoinkajfndaaGreatATer
import Derived.Handy
import Derived.Deep.DeepMust
set_option linter.unusedVariables false
set_option linter.unusedSimpArgs false
namespace Go.Proofs.YtgfnoinkajfndaaGreat
open Go.RowKit

/-- A text at the first place of a mark. -/
def splitO (t mk : List UInt8) : Option (List UInt8 × List UInt8) := ((List.range (t.length + 1 - mk.length)).find? fun i => decide (piece t i (i + mk.length) = mk)).map fun i => (t.take i, t.drop (i + mk.length))
def splR (t mk : List UInt8) : List UInt8 × List UInt8 := (splitO t mk).getD (t, [])
theorem find_range {p : Nat → Bool} : ∀ {n k : Nat}, k < n → (∀ j, j < k → p j = false) → p k = true → (List.range n).find? p = some k
  | 0, k, h, _, _ => absurd h (Nat.not_lt_zero k)
  | n + 1, k, h, hn, hp => by
    rw [List.range_succ, List.find?_append]
    by_cases hk : k < n
    · rw [find_range hk hn hp]; rfl
    · obtain rfl : k = n := by omega
      rw [List.find?_eq_none.2 fun j hj => by rw [hn j (List.mem_range.1 hj)]; simp]
      simp [hp]
theorem splitO_hit {t mk : List UInt8} {k : Nat} (hk : k + mk.length ≤ t.length) (hn : ∀ j, j < k → piece t j (j + mk.length) ≠ mk) (h : piece t k (k + mk.length) = mk) : splitO t mk = some (t.take k, t.drop (k + mk.length)) := by
  rw [splitO, find_range (k := k) (by omega) (fun j hj => decide_eq_false (hn j hj)) (decide_eq_true h)]; rfl
theorem splitO_none {t mk : List UInt8} (hn : ∀ j, j + mk.length ≤ t.length → piece t j (j + mk.length) ≠ mk) : splitO t mk = none := by
  rw [splitO, List.find?_eq_none.2 fun j hj => by
    have := List.mem_range.1 hj
    simp [hn j (by omega)]]
  rfl
theorem splitR_len (t mk : List UInt8) : (splR t mk).1.length ≤ t.length ∧ (splR t mk).2.length ≤ t.length := by
  rw [splR]
  cases h : splitO t mk with
  | none => exact ⟨Nat.le_refl _, Nat.zero_le _⟩
  | some p =>
    rw [splitO, Option.map_eq_some_iff] at h
    obtain ⟨i, _, rfl⟩ := h
    exact ⟨by show (t.take i).length ≤ _; rw [List.length_take]; omega, by show (t.drop (i + mk.length)).length ≤ _; rw [List.length_drop]; omega⟩
attribute [local go_sem] btx_nil btx_extract
set_option maxRecDepth 100000 in
set_option maxHeartbeats 3200000 in
theorem split8_any (t mk : List UInt8) (w : World) (hl : t.length ≤ 1048576) (hm : mk.length ≤ 100) :
    Calls Tryz.prog 153 #[.string (btx t), .string (btx mk)] w fun e w' => e = .returned (.tuple #[.string (btx (splR t mk).1), .string (btx (splR t mk).2), .bool (splitO t mk).isSome]) ∧ Below w.heap.size w w' := by
  obtain ⟨n, hn⟩ : ∃ n, t.length = n := ⟨_, rfl⟩
  have hsz : (btx t).size = n := hn
  obtain ⟨m, hmm⟩ : ∃ m, mk.length = m := ⟨_, rfl⟩
  have hsm : (btx mk).size = m := hmm
  rw [hn] at hl
  rw [hmm] at hm
  have HN := Lib.hid hn
  have HM := Lib.hid hmm
  clear hn hmm
  go_enter Tryz.func153, Tryz.ntmps153
  go_wp2
  go_loopg [7] (n + 1) (fun q i wr => ∃ k : Nat, k + q = n + 1 ∧ i = .int .i64 k ∧ (∀ j, j < k → piece t j (j + m) ≠ mk) ∧ Below w.heap.size w wr)
  case atStart => exact ⟨0, by omega, rfl, fun j hj => absurd hj (Nat.not_lt_zero j), Below.refl _ _⟩
  case round =>
    obtain ⟨k, hk, rfl, hne, hb⟩ := hrel
    have HK := Lib.hid hk
    have HE := Lib.hid hne
    clear hne hk
    have hk1 : (k : Int) ≤ 1048577 := by have := HK.out; omega
    by_cases hk8 : k + m ≤ n
    · have i1 : (k : Int) + (m : Int) ≤ (n : Int) := by omega
      have i2 : (k : Int) ≤ (k : Int) + (m : Int) := by omega
      have i3 : (k : Int) ≤ (n : Int) := by omega
      have i4 : (0 : Int) ≤ (k : Int) + (m : Int) := by omega
      have htn : ((k : Int) + (m : Int)).toNat = k + m := by omega
      have hwr : IntKind.i64.wrap ((k : Int) + (m : Int)) = (k : Int) + (m : Int) := (IntKind.wrap_i64 _).trans (by omega)
      by_cases hp : piece t k (k + m) = mk
      · have j1 : ((btx (piece t k (k + m))).toList == (btx mk).toList) = true := by rw [btx_leq]; exact decide_eq_true hp
        have hfin := splitO_hit (t := t) (mk := mk) (k := k) (by rw [HM.out, HN.out]; exact hk8) (by rw [HM.out]; exact HE.out) (by rw [HM.out]; exact hp)
        have HF := Lib.hid (show splitO t mk = some (piece t 0 k, piece t (k + m) n) by rw [hfin, piece_take, piece_drop HN.out, HM.out])
        clear hp hfin
        go_wp2
        refine wp_region_ext (by kernel_rfl) (by kernel_rfl) ?_
        repeat (go_big_quiet_step (fail))
        refine wpQuiet_nil ?_
        intro w2 hb2
        go_wp2
        refine bodyPost_ret (v := .tuple #[.string (btx (piece t 0 k)), .string (btx (piece t (k + m) n)), .bool true]) (by simp [results, Tryz.results153, go_sem]) rfl ?_
        exact ⟨by rw [splR, HF.out]; rfl, bt hb hb2⟩
      · have j1b : ((btx (piece t k (k + m))).toList == (btx mk).toList) = false := by rw [btx_leq]; exact decide_eq_false hp
        have HP := Lib.hid hp
        clear hp
        go_wp2
        go_roundg (gk - 1)
        case rel => exact ⟨k + 1, by have := HK.out; omega, by go_num, fun j hj => by
          by_cases e : j = k
          · rw [e]; exact HP.out
          · exact HE.out j (by omega), hb⟩
        case measure => have := HK.out; omega
    · have i1 : ¬ (k : Int) + (m : Int) ≤ (n : Int) := by omega
      have hwr : IntKind.i64.wrap ((k : Int) + (m : Int)) = (k : Int) + (m : Int) := (IntKind.wrap_i64 _).trans (by omega)
      have HF := Lib.hid (splitO_none (t := t) (mk := mk) fun j hj => by rw [HM.out] at hj ⊢; exact HE.out j (by have := HN.out; omega))
      go_wp2
      refine bodyPost_ret (v := .tuple #[.string (btx t), .string (btx []), .bool false]) (by simp [results, Tryz.results153, go_sem]) rfl ?_
      exact ⟨by rw [splR, HF.out]; rfl, hb⟩
/-- A text without its brackets. -/
def bareL (x : List UInt8) : List UInt8 × Bool := if 2 ≤ x.length ∧ gd x 0 = 91 ∧ gd x (x.length - 1) = 93 then (piece x 1 (x.length - 1), true) else (x, false)
attribute [local go_sem] btx_nil btx_extract
set_option maxRecDepth 100000 in
set_option maxHeartbeats 1600000 in
theorem bareS_any (x : List UInt8) (w : World) (hl : x.length ≤ 1048576) :
    Calls Tryz.prog 178 #[.string (btx x)] w fun e w' => e = .returned (.tuple #[.string (btx (bareL x).1), .bool (bareL x).2]) ∧ w = w' := by
  obtain ⟨n, hn⟩ : ∃ n, x.length = n := ⟨_, rfl⟩
  have hsz : (btx x).size = n := hn
  have hbl : bareL x = if 2 ≤ n ∧ gd x 0 = 91 ∧ gd x (n - 1) = 93 then (piece x 1 (n - 1), true) else (x, false) := by rw [bareL, hn]
  have HB := Lib.hid hbl
  rw [hn] at hl
  have HN := Lib.hid hn
  clear hn hbl
  by_cases h2 : 2 ≤ n
  rotate_left
  · have i1 : (n : Int) < 2 := by omega
    have i1d : decide ((n : Int) < 2) = true := by simp; omega
    have HF := Lib.hid (show bareL x = (x, false) by rw [HB.out, if_neg (fun h => h2 h.1)])
    clear h2
    go_enter Tryz.func178, Tryz.ntmps178
    go_wp2
    refine bodyPost_ret (v := .tuple #[.string (btx x), .bool false]) (by simp [results, Tryz.results178, go_sem]) rfl ?_
    exact ⟨by rw [HF.out], rfl⟩
  have i1d : decide ((n : Int) < 2) = false := by simp; omega
  have k0 : 0 < (btx x).size := by rw [hsz]; omega
  have hg0 : (btx x)[0] = gd x 0 := by rw [gd_of (show 0 < x.length from k0)]; rfl
  have k1 : n - 1 < (btx x).size := by rw [hsz]; omega
  have hg1 : (btx x)[n - 1] = gd x (n - 1) := by rw [gd_of (show n - 1 < x.length from k1)]; rfl
  have b0 : (0 : Int) < (n : Int) := by omega
  have b1 : (0 : Int) ≤ (n : Int) - 1 := by omega
  have b2 : (n : Int) - 1 < (n : Int) := by omega
  have b3 : (1 : Int) ≤ (n : Int) - 1 := by omega
  have b4 : (n : Int) - 1 ≤ (n : Int) := by omega
  have e1 : ((n : Int) - 1).toNat = n - 1 := by omega
  by_cases h0 : gd x 0 = 91
  rotate_left
  · have i2 : (((btx x)[0].toNat : Int) != 91) = true := by
      rw [hg0]; exact bne_iff_ne.2 fun e => h0 (UInt8.toNat_inj.1 (by have : (91 : UInt8).toNat = 91 := rfl; omega))
    have HF := Lib.hid (show bareL x = (x, false) by rw [HB.out, if_neg (fun h => h0 h.2.1)])
    clear h2 h0 hg0 hg1
    go_enter Tryz.func178, Tryz.ntmps178
    go_wp2
    refine bodyPost_ret (v := .tuple #[.string (btx x), .bool false]) (by simp [results, Tryz.results178, go_sem]) rfl ?_
    exact ⟨by rw [HF.out], rfl⟩
  have i2 : (((btx x)[0].toNat : Int) != 91) = false := by rw [hg0, h0]; rfl
  by_cases h1 : gd x (n - 1) = 93
  rotate_left
  · have i3 : (((btx x)[n - 1].toNat : Int) != 93) = true := by
      rw [hg1]; exact bne_iff_ne.2 fun e => h1 (UInt8.toNat_inj.1 (by have : (93 : UInt8).toNat = 93 := rfl; omega))
    have HF := Lib.hid (show bareL x = (x, false) by rw [HB.out, if_neg (fun h => h1 h.2.2)])
    clear h2 h0 h1 hg0 hg1
    go_enter Tryz.func178, Tryz.ntmps178
    go_wp2
    refine bodyPost_ret (v := .tuple #[.string (btx x), .bool false]) (by simp [results, Tryz.results178, go_sem]) rfl ?_
    exact ⟨by rw [HF.out], rfl⟩
  have i3 : (((btx x)[n - 1].toNat : Int) != 93) = false := by rw [hg1, h1]; rfl
  have HF := Lib.hid (show bareL x = (piece x 1 (n - 1), true) by rw [HB.out, if_pos ⟨h2, h0, h1⟩])
  clear h2 h0 h1 hg0 hg1
  go_enter Tryz.func178, Tryz.ntmps178
  go_wp2
  refine bodyPost_ret (v := .tuple #[.string (btx (piece x 1 (n - 1))), .bool true]) (by simp [results, Tryz.results178, go_sem]) rfl ?_
  exact ⟨by rw [HF.out], rfl⟩
end Go.Proofs.YtgfnoinkajfndaaGreat
