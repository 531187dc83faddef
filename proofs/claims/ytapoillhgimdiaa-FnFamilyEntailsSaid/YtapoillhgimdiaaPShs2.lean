/- Shs1: texts Sh1, Sh2 in one. -/
import Derived.Test.YtapoillhgimdiaaPInv
import Derived.Test.YtapoillhgimdiaaPData2
import Derived.Deep.MidRow
/- Walks: the program's search for names: fits. -/
namespace Go.Proofs.Ytapoillhgimdiaa
open Go.RowKit

section
variable {w : World} {g t : Nat} {T : TypeId} {v1 v2 u1 u2 : Value} {tl : List Int}
end

end Go.Proofs.Ytapoillhgimdiaa
/- Walks: the program's search for names: from; SameShape. -/
namespace Go.Proofs.Ytapoillhgimdiaa
open Go.RowKit

end Go.Proofs.Ytapoillhgimdiaa
/- Shs2: texts Sh3, Sh4, Sh5 in one. -/
/- Walks: the reference's search by pairs: the next pairs; pairs without repetitions. -/
namespace Go.Proofs.Ytapoillhgimdiaa
open Go.RowKit

end Go.Proofs.Ytapoillhgimdiaa
/- Walks: the reference's used cells; its search by pairs. -/
namespace Go.Proofs.Ytapoillhgimdiaa
open Go.RowKit

set_option maxHeartbeats 1600000 in
theorem specUsed_any (vs hv : Value) (vl hl : List Int) (w : World) (h1 : RInts w vs vl) (h2 : RInts w hv hl) (hv1 : validB vl hl = true) :
    Calls Try.prog 211 #[.agg #[vs, hv]] w fun e w' => ∃ v, e = .returned v ∧ w'.ownsRow w.heap.size 3 1 v (usedA' hl).length (ints (usedA' hl)) ∧ Below w.heap.size w w' := by
  have hh8 := (valid_len hv1).2
  have HV := Lib.hid (And.intro hv1 hh8)
  clear hv1 hh8
  go_enter Try.func211, Try.ntmps211
  go_wp2_with fail
  have q1 : RInts (w.alloc (.cells #[vs, hv] 77)) vs vl := h1.alloc _
  have q2 : RInts (w.alloc (.cells #[vs, hv] 77)) hv hl := h2.alloc _
  have hb01 : Below w.heap.size w (w.alloc (.cells #[vs, hv] 77)) := below_alloc _ _
  have hc0 : (w.alloc (.cells #[vs, hv] 77)).cell? ⟨w.heap.size, 0, none⟩ = some vs := by simp
  have hc1 : (w.alloc (.cells #[vs, hv] 77)).cell? ⟨w.heap.size, 1, none⟩ = some hv := by simp
  obtain ⟨w1, hw1⟩ : ∃ w1, w1 = w.alloc (.cells #[vs, hv] 77) := ⟨_, rfl⟩
  have hsz : w.heap.size < w1.heap.size := by rw [hw1]; simp
  have hsz1 : w1.heap.size = w.heap.size + 1 := by rw [hw1]; simp
  rw [← hw1] at q1 q2 hb01 hc0 hc1
  try rw [← hw1]
  clear hw1 h1 h2
  go_loopg [3, 4] 8 (fun q v i wr => ∃ k : Nat, k + q = 8 ∧ i = .int .i64 ((k : Int) + 1) ∧ wr.ownsRow w1.heap.size 3 1 v (sel (fun n => alB hl (n : Int)) 1 k).length (ints (sel (fun n => alB hl (n : Int)) 1 k)) ∧ Below w1.heap.size w1 wr)
  case atStart => exact ⟨0, by omega, rfl, by rw [← hsz1]; exact own_empty _ _ _ (Nat.le_refl _), below_alloc _ _⟩
  case round =>
    obtain ⟨k, hk, rfl, hown, hb⟩ := hrel
    have HK := Lib.hid hk
    have HO := Lib.hid hown
    have hbs := hb.size
    have hc0r := cell_keep hb hc0
    have hc1r := cell_keep hb hc1
    clear hk hown
    by_cases hk8 : k < 8
    · have hki : (k : Int) + 1 ≤ 8 := by omega
      have hsl := sel_len (fun n => alB hl (n : Int)) 1 k
      have e2 : (((1 + k : Nat) : Int)) = (k : Int) + 1 := by omega
      cases hp : alB hl ((k : Int) + 1)
      · have hy := sel_no (p := fun n => alB hl (n : Int)) (a := 1) (k := k) (by show alB hl ((1 + k : Nat) : Int) = false; rw [e2]; exact hp)
        have HY := Lib.hid (And.intro hy hp)
        clear hy e2 hp
        go_wp2_with (first
          | (go_at_call 143; go_must (refine (specStateValid_any _ _ vl hl _ (q1.keep hb) (q2.keep hb)).mono ?_; rw [HV.out.1]; rintro e w2 ⟨rfl, hb2⟩; have hb02 := bt hb hb2; have hc02 := cell_keep hb02 hc0; have hc12 := cell_keep hb02 hc1))
          | (go_at_call 241; go_must (refine (l2Has_any _ _ hl _ _ (q2.keep hb02) (by rw [HV.out.2]; omega)).mono ?_; rw [HY.out.2]; rintro e w3 ⟨rfl, hb3⟩; have hb03 := bt hb02 hb3)))
        go_roundg (gk - 1)
        case rel => exact ⟨k + 1, by have := HK.out; omega, by go_num, by rw [HY.out.1]; exact own_keep (own_keep HO.out hb2) hb3, hb03⟩
        case measure => have := HK.out; omega
      · have hy := sel_yes (p := fun n => alB hl (n : Int)) (a := 1) (k := k) (by show alB hl ((1 + k : Nat) : Int) = true; rw [e2]; exact hp)
        rw [e2] at hy
        have HY := Lib.hid (And.intro hy hp)
        clear hy e2 hp
        go_wp2_with (first
          | (go_at_call 143; go_must (refine (specStateValid_any _ _ vl hl _ (q1.keep hb) (q2.keep hb)).mono ?_; rw [HV.out.1]; rintro e w2 ⟨rfl, hb2⟩; have hb02 := bt hb hb2; have hc02 := cell_keep hb02 hc0; have hc12 := cell_keep hb02 hc1))
          | (go_at_call 241; go_must (refine (l2Has_any _ _ hl _ _ (q2.keep hb02) (by rw [HV.out.2]; omega)).mono ?_; rw [HY.out.2]; rintro e w3 ⟨rfl, hb3⟩; have hb03 := bt hb02 hb3; have hbs3 := hb03.size))
          | (at_builtin; go_must (refine app_int _ rfl _ _ rfl w1.heap.size _ _ rfl (own_keep (own_keep (own_keep HO.out hb2) hb3) (below_alloc _ _)) ⟨w3.heap.size, 0, none⟩ _ rfl (cell_new1 _ _ _) (by omega) (by simp; omega) ?_; intro v' w4 hown4 hf4)))
        go_roundg (gk - 1)
        case rel => exact ⟨k + 1, by have := HK.out; omega, by go_num, by rw [HY.out.1]; exact hown4, below_own (own_keep (own_keep (own_keep HO.out hb2) hb3) (below_alloc _ _)) hf4 (ba hb03 _) (by simp; omega)⟩
        case measure => have := HK.out; omega
    · obtain rfl : k = 8 := by have := HK.out; omega
      go_wp2
      go_ret
      exact ⟨_, rfl, own_mono HO.out hb01.size, bt hb01 hb⟩

end Go.Proofs.Ytapoillhgimdiaa
/- Walk: the reference's SameShape. -/
namespace Go.Proofs.Ytapoillhgimdiaa
open Go.RowKit

end Go.Proofs.Ytapoillhgimdiaa
