/- Walks: assertions and families that hold in a state. -/
import Derived.Test.YthoingdcmdhllaaHold7
import Derived.Test.YthoingdcmdhllaaAny
namespace Go.Proofs.Ythoingdcmdhllaa
open Go.RowKit

set_option maxRecDepth 100000 in
set_option maxHeartbeats 1600000 in
theorem holdsI_any {S1 S2 : Nat → Prop} (vs hv v1 v2 : Value) (vl hs : List Int) (a : Asn) (w : World) (h1 : RInts w vs vl) (h2 : RInts w hv hs) (r1 : RL w S1 v1 a.1) (r2 : RL w S2 v2 a.2) :
    Calls Try.prog 22 #[.agg #[vs, hv], .agg #[v1, v2]] w fun e w' => e = .returned (.bool (holdsB vl hs a)) ∧ Below w.heap.size w w' := by
  obtain ⟨va1, vc1, rfl⟩ := h1.form
  obtain ⟨va2, vc2, rfl⟩ := h2.form
  obtain ⟨xa1, xc1, rfl⟩ := r1.form
  obtain ⟨xa2, xc2, rfl⟩ := r2.form
  cases hp : partO vl hs a with
  | none =>
    have HR := Lib.hid (holds_none hp)
    have HP := Lib.hid hp
    clear hp
    go_enter Try.func22, Try.ntmps22
    go_wp2_with fail
    refine (partOf_any _ _ _ _ vl hs a _ (h1.keep (by repeat (first | exact Below.refl _ _ | with_reducible assumption | exact below_alloc _ _ | (refine Below.setCell ?_ (by first | (simp; done) | (simp; omega) | omega) _) | apply bd | apply ba | apply be))) (h2.keep (by repeat (first | exact Below.refl _ _ | with_reducible assumption | exact below_alloc _ _ | (refine Below.setCell ?_ (by first | (simp; done) | (simp; omega) | omega) _) | apply bd | apply ba | apply be))) (r1.keep (by repeat (first | exact Below.refl _ _ | with_reducible assumption | exact below_alloc _ _ | (refine Below.setCell ?_ (by first | (simp; done) | (simp; omega) | omega) _) | apply bd | apply ba | apply be))) (r2.keep (by repeat (first | exact Below.refl _ _ | with_reducible assumption | exact below_alloc _ _ | (refine Below.setCell ?_ (by first | (simp; done) | (simp; omega) | omega) _) | apply bd | apply ba | apply be)))).mono ?_
    rw [HP.out]
    rintro e w1 ⟨rfl, hb1⟩
    go_wp2
    go_ret
    exact ⟨by rw [HR.out]; rfl, bt (by repeat (first | exact Below.refl _ _ | with_reducible assumption | exact below_alloc _ _ | (refine Below.setCell ?_ (by first | (simp; done) | (simp; omega) | omega) _) | apply bd | apply ba | apply be)) hb1⟩
  | some m =>
    have HR := Lib.hid (holds_some hp)
    have HP := Lib.hid hp
    have HL := Lib.hid (valid_len (partO_some hp).1).2
    clear hp
    go_enter Try.func22, Try.ntmps22
    go_wp2_with fail
    refine (partOf_any _ _ _ _ vl hs a _ (h1.keep (by repeat (first | exact Below.refl _ _ | with_reducible assumption | exact below_alloc _ _ | (refine Below.setCell ?_ (by first | (simp; done) | (simp; omega) | omega) _) | apply bd | apply ba | apply be))) (h2.keep (by repeat (first | exact Below.refl _ _ | with_reducible assumption | exact below_alloc _ _ | (refine Below.setCell ?_ (by first | (simp; done) | (simp; omega) | omega) _) | apply bd | apply ba | apply be))) (r1.keep (by repeat (first | exact Below.refl _ _ | with_reducible assumption | exact below_alloc _ _ | (refine Below.setCell ?_ (by first | (simp; done) | (simp; omega) | omega) _) | apply bd | apply ba | apply be))) (r2.keep (by repeat (first | exact Below.refl _ _ | with_reducible assumption | exact below_alloc _ _ | (refine Below.setCell ?_ (by first | (simp; done) | (simp; omega) | omega) _) | apply bd | apply ba | apply be)))).mono ?_
    rw [HP.out]
    rintro e w1 ⟨rfl, hb1⟩
    have hc0 := cell_keep hb1 (p := ⟨w.heap.size, 0, none⟩) (v := .slice va1 vl.length vc1) (by simp [go_sem])
    have hc1 := cell_keep hb1 (p := ⟨w.heap.size, 1, none⟩) (v := .slice va2 hs.length vc2) (by simp [go_sem])
    have hb01 : Below w.heap.size w w1 := bt (by repeat (first | exact Below.refl _ _ | with_reducible assumption | exact below_alloc _ _ | (refine Below.setCell ?_ (by first | (simp; done) | (simp; omega) | omega) _) | apply bd | apply ba | apply be)) hb1
    go_wp2_with fail
    refine (usedIn_any _ _ hs _ (h2.keep hb01) HL.out).mono ?_
    rintro e w2 ⟨rfl, hb2⟩
    go_wp2
    go_ret
    exact ⟨by rw [HR.out]; simp [setN]; rw [Bool.eq_iff_iff]; simp; omega, bt hb01 hb2⟩
theorem holds_bad {vl hs : List Int} {a : Asn} (h : (validB vl hs && asnB a) = false) : holdsB vl hs a = false := by
  refine holds_none ?_
  rw [partO, if_neg]
  simp only [Bool.and_eq_true, Bool.and_eq_false_iff] at h ⊢
  rintro ⟨h1, h2, _⟩
  rcases h with h | h
  · rw [h1] at h; cases h
  · rw [h2] at h; cases h
/-- One of the assertions of a family holds in a state. -/
def famHoldsB (vl hs : List Int) (l : List Asn) : Bool := validB vl hs && (famB l && l.any (holdsB vl hs))
end Go.Proofs.Ythoingdcmdhllaa
