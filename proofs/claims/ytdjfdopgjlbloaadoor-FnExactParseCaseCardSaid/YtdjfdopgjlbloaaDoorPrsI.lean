/- Walks: impl.parseDigit. -/
import Derived.Test.YtdjfdopgjlbloaaDoorPrsP
namespace Go.Proofs.YtdjfdopgjlbloaaDoor
open Go.RowKit

theorem digO_len {t : List UInt8} (h : t.length ≠ 1) : digO t = none := by
  match t, h with
  | [], _ => rfl
  | [b], h => exact absurd rfl h
  | a :: b :: r, _ => rfl
set_option maxHeartbeats 1600000 in
theorem digitI_any (t : List UInt8) (w : World) :
    Calls Tryd.prog 41 #[.string (btx t)] w fun e w' => e = .returned (.tuple #[.int .i64 ((digO t).getD 0), .bool (digO t).isSome]) ∧ w' = w := by
  by_cases h1 : t.length = 1
  · match t, h1 with
    | [b], _ =>
    have hsz : (btx [b]).size = 1 := rfl
    obtain ⟨d, hd⟩ : ∃ d, b.toNat = d := ⟨_, rfl⟩
    have hg : ((btx [b])[0].toNat : Int) = (d : Int) := by rw [← hd]; rfl
    have hd255 : d < 256 := by rw [← hd]; exact UInt8.toNat_lt _
    have HD := Lib.hid hd
    clear hd
    by_cases c1 : 48 ≤ d
    · have t1 : decide ((d : Int) < 48) = false := by simp; omega
      by_cases c2 : d ≤ 56
      · have t2 : decide (56 < (d : Int)) = false := by simp; omega
        have hv : digO [b] = some ((d : Int) - 48) := by rw [digO, HD.out, if_pos ⟨c1, c2⟩]
        have HV := Lib.hid hv
        clear hv
        go_enter Tryd.func41, Tryd.ntmps41
        go_wp2
        refine bodyPost_ret (v := .tuple #[.int .i64 ((d : Int) - 48), .bool true]) (by simp [results, Tryd.results41, go_sem]) rfl ?_
        exact ⟨by rw [HV.out]; rfl, rfl⟩
      · have t2 : decide (56 < (d : Int)) = true := by simp; omega
        have hv : digO [b] = none := by rw [digO, HD.out, if_neg (by omega)]
        have HV := Lib.hid hv
        clear hv c2
        go_enter Tryd.func41, Tryd.ntmps41
        go_wp2
        refine bodyPost_ret (v := .tuple #[.int .i64 0, .bool false]) (by simp [results, Tryd.results41, go_sem]) rfl ?_
        exact ⟨by rw [HV.out]; rfl, rfl⟩
    · have t1 : decide ((d : Int) < 48) = true := by simp; omega
      have hv : digO [b] = none := by rw [digO, HD.out, if_neg (by omega)]
      have HV := Lib.hid hv
      clear hv c1
      go_enter Tryd.func41, Tryd.ntmps41
      go_wp2
      refine bodyPost_ret (v := .tuple #[.int .i64 0, .bool false]) (by simp [results, Tryd.results41, go_sem]) rfl ?_
      exact ⟨by rw [HV.out]; rfl, rfl⟩
  · have HV := Lib.hid (digO_len h1)
    obtain ⟨m, hm⟩ : ∃ m, (btx t).size = m := ⟨_, rfl⟩
    have h2 : ((m : Int) != 1) = true := by
      have : m ≠ 1 := fun e => h1 (by rw [← e, ← hm]; rfl)
      simp; omega
    clear h1
    go_enter Tryd.func41, Tryd.ntmps41
    go_wp2
    refine bodyPost_ret (v := .tuple #[.int .i64 0, .bool false]) (by simp [results, Tryd.results41, go_sem]) rfl ?_
    exact ⟨by rw [HV.out]; rfl, rfl⟩
/-- What the reference reads of a row of numbers is a row of numbers. -/
theorem ReadTo.back {l m : List Int} (hl : ∀ n ∈ l, -1 ≤ n ∧ n ≤ 8) (h9 : l.length ≤ 9) (h : ReadTo (l.map numT) (min (l.map numT).length 9) m) : m = l :=
  reads_back hl h9 ⟨h.len, fun i n hi h0 h1 e => h.at_ i n (by rw [h.len] at hi; exact hi) h0 h1 e⟩
end Go.Proofs.YtdjfdopgjlbloaaDoor
