/- Walks: assertions and families that hold in a state. -/
import Derived.Test.YtapoillhgimdiaaTHold7
import Derived.Test.YtapoillhgimdiaaTAny
namespace Go.Proofs.Ytapoillhgimdiaa
open Go.RowKit

set_option maxRecDepth 100000 in
set_option maxHeartbeats 1600000 in
theorem holdsI_any {S1 S2 : Nat → Prop} (vs hv v1 v2 : Value) (vl hs : List Int) (a : Asn) (w : World) (h1 : RInts w vs vl) (h2 : RInts w hv hs) (r1 : RL w S1 v1 a.1) (r2 : RL w S2 v2 a.2) :
    Calls Try.prog 63 #[.agg #[vs, hv], .agg #[v1, v2]] w fun e w' => e = .returned (.bool (holdsB vl hs a)) ∧ Below w.heap.size w w' := by
  obtain ⟨va1, vc1, rfl⟩ := h1.form
  obtain ⟨va2, vc2, rfl⟩ := h2.form
  obtain ⟨xa1, xc1, rfl⟩ := r1.form
  obtain ⟨xa2, xc2, rfl⟩ := r2.form
  cases hp : partO vl hs a with
  | none =>
    have HR := Lib.hid (holds_none hp)
    have HP := Lib.hid hp
    clear hp
    go_enter Try.func63, Try.ntmps63
    go_wp2_with fail
    refine (partOf_any _ _ _ _ vl hs a _ (h1.keep Bl) (h2.keep Bl) (r1.keep Bl) (r2.keep Bl)).mono ?_
    rw [HP.out]
    rintro e w1 ⟨rfl, hb1⟩
    go_wp2
    go_ret
    exact ⟨by rw [HR.out]; rfl, bt Bl hb1⟩
  | some m =>
    have HR := Lib.hid (holds_some hp)
    have HP := Lib.hid hp
    have HL := Lib.hid (valid_len (partO_some hp).1).2
    clear hp
    go_enter Try.func63, Try.ntmps63
    go_wp2_with fail
    refine (partOf_any _ _ _ _ vl hs a _ (h1.keep Bl) (h2.keep Bl) (r1.keep Bl) (r2.keep Bl)).mono ?_
    rw [HP.out]
    rintro e w1 ⟨rfl, hb1⟩
    have hc0 := cell_keep hb1 (p := ⟨w.heap.size, 0, none⟩) (v := .slice va1 vl.length vc1) (by simp [go_sem])
    have hc1 := cell_keep hb1 (p := ⟨w.heap.size, 1, none⟩) (v := .slice va2 hs.length vc2) (by simp [go_sem])
    have hb01 : Below w.heap.size w w1 := bt Bl hb1
    go_wp2_with fail
    refine (usedIn_any _ _ hs _ (h2.keep hb01) HL.out).mono ?_
    rintro e w2 ⟨rfl, hb2⟩
    go_wp2
    go_ret
    exact ⟨by rw [HR.out]; simp [setN]; rw [Bool.eq_iff_iff]; simp; omega, bt hb01 hb2⟩
/-- One of the assertions of a family holds in a state. -/
def famHoldsB (vl hs : List Int) (l : List Asn) : Bool := validB vl hs && (famB l && l.any (holdsB vl hs))
set_option maxRecDepth 100000 in
set_option maxHeartbeats 3200000 in
theorem famHoldsI_any {S : Nat → Prop} (vs hv v : Value) (vl hs : List Int) (l : List Asn) (w : World) (h1 : RInts w vs vl) (h2 : RInts w hv hs) (h : RL w S v l) :
    Calls Try.prog 61 #[.agg #[vs, hv], v] w fun e w' => e = .returned (.bool (famHoldsB vl hs l)) ∧ Below w.heap.size w w' := by
  obtain ⟨va1, vc1, rfl⟩ := h1.form
  obtain ⟨va2, vc2, rfl⟩ := h2.form
  have hm := h.len
  unfold maxLen at hm
  have hR := Lib.hid h
  obtain ⟨a, c, rfl, _, _, hf⟩ := h.asnAt
  have F1 := Lib.hid hf
  clear hf h
  cases hvd : validB vl hs
  · have HR := Lib.hid (show famHoldsB vl hs l = false by simp [famHoldsB, hvd])
    have HV := Lib.hid hvd
    clear hvd
    go_enter Try.func61, Try.ntmps61
    go_wp2_with fail
    refine (cb (stateValid_any _ _ vl hs _ (h1.alloc _) (h2.alloc _)) HV.out).mono ?_
    rintro e w1 ⟨rfl, hb1⟩
    go_wp2
    go_ret
    exact ⟨by rw [HR.out]; rfl, bt Bl hb1⟩
  cases hfm : famB l
  · have HR := Lib.hid (show famHoldsB vl hs l = false by simp [famHoldsB, hvd, hfm])
    have HV := Lib.hid (And.intro hvd hfm)
    clear hvd hfm
    go_enter Try.func61, Try.ntmps61
    go_wp2_with fail
    refine (cb (stateValid_any _ _ vl hs _ (h1.alloc _) (h2.alloc _)) HV.out.1).mono ?_
    rintro e w1 ⟨rfl, hb1⟩
    replace hb1 : Below w.heap.size w w1 := bt Bl hb1
    go_wp2_with fail
    refine (cb (famValidI_any _ l _ (hR.out.keep hb1)) HV.out.2).mono ?_
    rintro e w2 ⟨rfl, hb2⟩
    go_wp2
    go_ret
    exact ⟨by rw [HR.out]; rfl, bt hb1 hb2⟩
  have HR := Lib.hid (show famHoldsB vl hs l = l.any (holdsB vl hs) by simp [famHoldsB, hvd, hfm])
  have HV := Lib.hid (And.intro hvd hfm)
  clear hvd hfm
  go_enter Try.func61, Try.ntmps61
  go_wp2_with fail
  refine (cb (stateValid_any _ _ vl hs _ (h1.alloc _) (h2.alloc _)) HV.out.1).mono ?_
  rintro e w1 ⟨rfl, hb1⟩
  have hc0 := cell_keep hb1 (p := ⟨w.heap.size, 0, none⟩) (v := .slice va1 vl.length vc1) (by simp [go_sem])
  have hc1 := cell_keep hb1 (p := ⟨w.heap.size, 1, none⟩) (v := .slice va2 hs.length vc2) (by simp [go_sem])
  replace hb1 : Below w.heap.size w w1 := bt Bl hb1
  go_wp2_with fail
  refine (cb (famValidI_any _ l _ (hR.out.keep hb1)) HV.out.2).mono ?_
  rintro e w2 ⟨rfl, hb2⟩
  have hb12 := bt hb1 hb2
  replace hc0 := cell_keep hb2 hc0
  replace hc1 := cell_keep hb2 hc1
  have HC := Lib.hid (And.intro hc0 hc1)
  clear hb1 hb2 hc0 hc1
  have hbe : Below w2.heap.size w2 w2 := Below.refl _ _
  go_wp2
  go_loopg [17] l.length (fun q i wr => ∃ k : Nat, k + q = l.length ∧ i = .int .i64 k ∧ (l.take k).any (holdsB vl hs) = false ∧ Below w2.heap.size w2 wr)
  case atStart => exact ⟨0, by omega, rfl, by simp, hbe⟩
  case round =>
    obtain ⟨k, hk, rfl, ht, hb⟩ := hrel
    have HK := Lib.hid hk
    have HT := Lib.hid ht
    clear hk ht hbe
    have hc0 := cell_keep hb HC.out.1
    have hc1 := cell_keep hb HC.out.2
    have hzs : w.heap.size < wr.heap.size := World.block_lt_of_cell? wr _ hc0
    have hb0 := bt hb12 hb
    by_cases hk8 : k < l.length
    · obtain ⟨b1, o1, u1, u2, rfl, _, hbl1, hp1, hp2, r1, r2⟩ := F1.out k hk8
      obtain ⟨ua1, uc1, rfl⟩ := r1.form
      obtain ⟨ua2, uc2, rfl⟩ := r2.form
      replace hp1 := cell_keep hb0 hp1; replace hp2 := cell_keep hb0 hp2
      have hs0 := hb0.size
      have i1 : (k : Int) < (l.length : Int) := by omega
      have hzb : b1 < wr.heap.size := by omega
      cases hp : holdsB vl hs (gd l k)
      · have HP := Lib.hid hp
        clear hp
        go_wp2_with fail
        refine (cb (holdsI_any _ _ _ _ vl hs (gd l k) _ (h1.keep (bt hb0 Bl)) (h2.keep (bt hb0 Bl)) (r1.keep (bt hb0 Bl)) (r2.keep (bt hb0 Bl))) HP.out).mono ?_
        rintro e w5 ⟨rfl, hb5⟩
        go_wp2
        go_roundg (gk - 1)
        case rel => exact ⟨k + 1, by have := HK.out; omega, by go_num, any_take_no hk8 HT.out HP.out, bt (bt hb Bl) hb5⟩
        case measure => have := HK.out; omega
      · have HF := Lib.hid (any_yes hk8 hp)
        have HP := Lib.hid hp
        clear hp
        go_wp2_with fail
        refine (cb (holdsI_any _ _ _ _ vl hs (gd l k) _ (h1.keep (bt hb0 Bl)) (h2.keep (bt hb0 Bl)) (r1.keep (bt hb0 Bl)) (r2.keep (bt hb0 Bl))) HP.out).mono ?_
        rintro e w5 ⟨rfl, hb5⟩
        go_wp2
        go_ret
        exact ⟨by rw [HR.out, HF.out]; rfl, bt (bt hb0 Bl) hb5⟩
    · obtain rfl : k = l.length := by have := HK.out; omega
      have HE := Lib.hid (any_end HT.out)
      clear HT
      go_wp2
      go_ret
      exact ⟨by rw [HR.out, HE.out]; rfl, hb0⟩
end Go.Proofs.Ytapoillhgimdiaa
