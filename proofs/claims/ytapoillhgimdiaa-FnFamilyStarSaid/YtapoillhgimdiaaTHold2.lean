/- Walks: the way from an address to another one. -/
import Derived.Test.YtapoillhgimdiaaTHold1
import Derived.Test.YtapoillhgimdiaaTMath1
namespace Go.Proofs.Ytapoillhgimdiaa
open Go.RowKit

/-- The way to t, at most k cells long. -/
def wayN (hs : List Int) (t : Int) : Nat → Int → Option (List Int)
  | 0, a => if a = t then some [] else none
  | k + 1, a => if a = t then some [] else if alB hs a = true then (wayN hs t k (ct hs a)).map (a :: ·) else none
def wayB (hs : List Int) (f t : Int) : Bool := (wayN hs t 8 f).isSome
def wayL (hs : List Int) (f t : Int) : List Int := (wayN hs t 8 f).getD []
theorem wayN_here {hs : List Int} {t a : Int} {k : Nat} (h : a = t) : wayN hs t k a = some [] := by cases k <;> simp [wayN, h]
theorem wayN_stuck {hs : List Int} {t a : Int} {k : Nat} (h : ¬ a = t) (ha : alB hs a = false) : wayN hs t k a = none := by cases k <;> simp [wayN, h, ha]
theorem wayN_short {hs : List Int} {t a : Int} (h : ¬ a = t) : wayN hs t 0 a = none := by simp [wayN, h]
theorem wayN_step {hs : List Int} {t a : Int} {k : Nat} (h : ¬ a = t) (ha : alB hs a = true) (hk : k < 8) : wayN hs t (8 - k) a = (wayN hs t (8 - (k + 1)) (ct hs a)).map (a :: ·) := by
  have e : 8 - k = (8 - (k + 1)) + 1 := by omega
  rw [e, wayN, if_neg h, if_pos ha]
set_option maxHeartbeats 1600000 in
theorem walkI_any (vs hv : Value) (vl hs : List Int) (f t : Int) (w : World) (h1 : RInts w vs vl) (h2 : RInts w hv hs) (hvd : validB vl hs = true) (hf : isTermB f = true) (ht : isTermB t = true) :
    Calls Try.prog 242 #[.agg #[vs, hv], .int .i64 f, .int .i64 t] w fun e w' => ∃ v, e = .returned (.tuple #[v, .bool (wayB hs f t)]) ∧ w'.ownsRow w.heap.size 3 1 v (wayL hs f t).length (ints (wayL hs f t)) ∧ Below w.heap.size w w' := by
  have hlen := (valid_len hvd).2
  have HLEN := Lib.hid hlen
  clear hlen
  go_enter Try.func242, Try.ntmps242
  go_wp2_with fail
  refine (stateValid_any _ _ vl hs _ (h1.alloc _) (h2.alloc _)).mono ?_
  rintro e w1 ⟨rfl, hb1⟩
  have hc0 := cell_keep hb1 (p := ⟨w.heap.size, 0, none⟩) (v := vs) (by simp)
  have hc1 := cell_keep hb1 (p := ⟨w.heap.size, 1, none⟩) (v := hv) (by simp)
  have hb01 := bt (below_alloc w _) hb1
  have hz : w.heap.size < w1.heap.size := World.block_lt_of_cell? w1 _ hc0
  clear hb1
  go_wp2_with (go_at_call 207; refine (isValue_any _ _).mono ?_; rintro e w' ⟨rfl, rfl⟩)
  have HC := Lib.hid (And.intro hc0 hc1)
  go_loopg [8, 9] 9 (fun q way at_ wr => ∃ (k : Nat) (l : List Int) (a : Int), k + q = 9 ∧ k ≤ 8 ∧ l.length = k ∧ at_ = .int .i64 a ∧ wayN hs t 8 f = (wayN hs t (8 - k) a).map (l ++ ·) ∧ wr.ownsRow w1.heap.size 3 1 way l.length (ints l) ∧ Below w1.heap.size w1 wr)
  case atStart => exact ⟨0, [], f, by omega, by omega, rfl, rfl, by simp, World.ownsRow_nil _ _ _ _, Below.refl _ _⟩
  case round =>
    obtain ⟨k, l, a, hk, hk8, hl, rfl, hway, hown, hb⟩ := hrel
    obtain ⟨xa, xc, rfl⟩ := (own_ints hown).1.form
    have HK := Lib.hid (And.intro hk hl)
    have HW := Lib.hid hway
    clear hk hway
    replace hc0 := cell_keep hb hc0
    replace hc1 := cell_keep hb hc1
    have hzr : w.heap.size < wr.heap.size := World.block_lt_of_cell? wr _ hc0
    have hz1 := hb.size
    by_cases hat : a = t
    · have HR := Lib.hid (show wayN hs t 8 f = some l by rw [HW.out, wayN_here hat]; simp)
      have hne : (a != t) = false := by simp [hat]
      clear hat hl
      go_wp2
      refine bodyPost_ret (v := .tuple #[.slice xa l.length xc, .bool true]) (by simp [results, Try.results242, go_sem]) rfl ?_
      exact ⟨_, by rw [wayB, HR.out]; rfl, by rw [wayL, HR.out]; exact own_mono hown (by omega), bt hb01 hb⟩
    have hne : (a != t) = true := by simp [hat]
    have HAT := Lib.hid hat
    clear hat
    cases ha : alB hs a
    · have HR := Lib.hid (show wayN hs t 8 f = none by rw [HW.out, wayN_stuck HAT.out ha]; rfl)
      have HA := Lib.hid ha
      clear ha hl
      go_wp2_with fail
      refine (cb (allocated_any _ _ hs a _ (h2.keep (bt hb01 hb)) (by rw [HLEN.out]; omega)) HA.out).mono ?_
      rintro e w2 ⟨rfl, hb2⟩
      go_wp2
      refine bodyPost_ret (v := .tuple #[.slice none 0 0, .bool false]) (by simp [results, Try.results242, go_sem]) rfl ?_
      exact ⟨_, by rw [wayB, HR.out]; rfl, by rw [wayL, HR.out]; exact World.ownsRow_nil _ _ _ _, bt (bt hb01 hb) hb2⟩
    have HA := Lib.hid ha
    clear ha
    by_cases hk7 : k = 8
    · have hlb : ((l.length : Int) == 8) = true := by rw [hl, hk7]; rfl
      have HR := Lib.hid (show wayN hs t 8 f = none by rw [HW.out, hk7, wayN_short HAT.out]; rfl)
      clear hl
      go_wp2_with fail
      refine (cb (allocated_any _ _ hs a _ (h2.keep (bt hb01 hb)) (by rw [HLEN.out]; omega)) HA.out).mono ?_
      rintro e w2 ⟨rfl, hb2⟩
      go_wp2
      refine bodyPost_ret (v := .tuple #[.slice none 0 0, .bool false]) (by simp [results, Try.results242, go_sem]) rfl ?_
      exact ⟨_, by rw [wayB, HR.out]; rfl, by rw [wayL, HR.out]; exact World.ownsRow_nil _ _ _ _, bt (bt hb01 hb) hb2⟩
    · have hlb : ((l.length : Int) == 8) = false := by rw [hl]; simp; omega
      clear hl
      go_wp2_with fail
      refine (cb (allocated_any _ _ hs a _ (h2.keep (bt hb01 hb)) (by rw [HLEN.out]; omega)) HA.out).mono ?_
      rintro e w2 ⟨rfl, hb2⟩
      replace hc0 := cell_keep hb2 hc0
      replace hc1 := cell_keep hb2 hc1
      replace hown := own_keep hown hb2
      have hz2 := hb2.size
      replace hb := bt hb hb2
      clear hb2
      have hlen9 : l.length < 1099511627776 := by have := HK.out; omega
      go_wp2_with (first
        | (at_builtin; refine app_int _ rfl _ _ rfl w1.heap.size _ l rfl (own_keep hown (below_alloc _ _)) ⟨w2.heap.size, 0, none⟩ _ rfl (cell_new1 _ _ _) hlen9 (by simp; omega) ?_; intro v' w3 hown3 hf3; have hb3 := below_own (own_keep hown (below_alloc _ _)) hf3 (hb.trans ((below_alloc _ _).mono hb.size)) (by simp; omega); have hd0 := cell_keep hb3 HC.out.1; have hd1 := cell_keep hb3 HC.out.2)
        | (go_at_call 243; refine (content_any _ _ hs a _ (h2.keep (bt hb01 hb3)) (by rw [HLEN.out]; omega)).mono ?_; rintro e w4 ⟨rfl, hb4⟩))
      go_roundg (gk - 1)
      case rel => exact ⟨k + 1, l ++ [a], ct hs a, by have := HK.out; omega, by omega, by have := HK.out; simp; omega, rfl, by rw [HW.out, wayN_step HAT.out HA.out (by omega)]; simp [Option.map_map, Function.comp_def], own_keep hown3 hb4, bt hb3 hb4⟩
      case measure => have := HK.out; omega
end Go.Proofs.Ytapoillhgimdiaa
