/- Walks: the way from an address to another one: the reference. -/
import Derived.Test.YtnhhfbhhglhocaaHold2
namespace Go.Proofs.Ytnhhfbhhglhocaa
open Go.RowKit

theorem ct_at {hs : List Int} {n : Nat} (h : n < 8) : ct hs ((n : Int) + 1) = gi hs n := by
  have : isAddrB ((n : Int) + 1) = true := by simp [isAddrB]; omega
  rw [ct, if_pos this, show ((n : Int) + 1 - 1).toNat = n by omega]
set_option maxRecDepth 100000 in
set_option maxHeartbeats 3200000 in
theorem walkS_any (vs hv : Value) (vl hs : List Int) (f t : Int) (w : World) (h2 : RInts w hv hs) (hvd : validB vl hs = true) :
    Calls Try.prog 175 #[.agg #[vs, hv], .int .i64 f, .int .i64 t] w fun e w' => ∃ v, e = .returned (.tuple #[v, .bool (wayB hs f t)]) ∧ w'.ownsRow w.heap.size 3 1 v (wayL hs f t).length (ints (wayL hs f t)) ∧ Below w.heap.size w w' := by
  have hlen := (valid_len hvd).2
  have HLEN := Lib.hid hlen
  clear hlen
  obtain ⟨ha2, hcap, rfl⟩ := h2.form
  go_enter Try.func175, Try.ntmps175
  go_wp2
  go_loopg [1, 8] 9 (fun q at_ way wr => ∃ (k : Nat) (l : List Int) (a : Int), k + q = 9 ∧ k ≤ 8 ∧ l.length = k ∧ at_ = .int .i64 a ∧ wayN hs t 8 f = (wayN hs t (8 - k) a).map (l ++ ·) ∧ wr.ownsRow (w.heap.size + 1) 3 1 way l.length (ints l) ∧ Below (w.heap.size + 1) (w.alloc (.cells #[vs, .slice ha2 hs.length hcap] 34)) wr)
  case atStart => exact ⟨0, [], f, by omega, by omega, rfl, rfl, by simp, own_empty_at (w.alloc (.cells #[vs, .slice ha2 hs.length hcap] 34)) (w.heap.size + 1) 3 (w.heap.size + 1) (by simp) (Nat.le_refl _), (Below.refl (w.heap.size + 1) (w.alloc (.cells #[vs, .slice ha2 hs.length hcap] 34))).alloc (by simp) _⟩
  case round =>
    obtain ⟨k, l, a, hk, hk8, hl, rfl, hway, hown, hb⟩ := hrel
    obtain ⟨xa, xc, rfl⟩ := (own_ints hown).1.form
    have HK := Lib.hid (And.intro hk hl)
    have HW := Lib.hid hway
    clear hk hway
    have hWr := hb.mono (B' := (w.alloc (.cells #[vs, .slice ha2 hs.length hcap] 34)).heap.size) (by simp)
    have hc0 := cell_keep hWr (p := ⟨w.heap.size, 0, none⟩) (v := vs) (by simp)
    have hc1 := cell_keep hWr (p := ⟨w.heap.size, 1, none⟩) (v := .slice ha2 hs.length hcap) (by simp)
    have hzr : w.heap.size < wr.heap.size := World.block_lt_of_cell? wr _ hc0
    have hz1 : w.heap.size + 1 ≤ wr.heap.size := by have := hb.size; simpa using this
    have hb01 : Below w.heap.size w wr := bt (below_alloc w _) hWr
    by_cases hat : a = t
    · have HR := Lib.hid (show wayN hs t 8 f = some l by rw [HW.out, wayN_here hat]; simp)
      have hne : (a != t) = false := by simp [hat]
      clear hat hl
      go_wp2
      refine bodyPost_ret (v := .tuple #[.slice xa l.length xc, .bool true]) (by simp [results, Try.results175, go_sem]) rfl ?_
      exact ⟨_, by rw [wayB, HR.out]; rfl, by rw [wayL, HR.out]; exact own_mono hown (by omega), hb01⟩
    have hne : (a != t) = true := by simp [hat]
    have HAT := Lib.hid hat
    clear hat
    cases ha : alB hs a
    · have HR := Lib.hid (show wayN hs t 8 f = none by rw [HW.out, wayN_stuck HAT.out ha]; rfl)
      have HA := Lib.hid ha
      clear ha hl
      go_wp2_with fail
      refine (cb (l2Has_any _ _ hs a _ (h2.keep hb01) (by rw [HLEN.out]; omega)) HA.out).mono ?_
      rintro e w2 ⟨rfl, hb2⟩
      have hzz : w.heap.size ≤ w2.heap.size := (bt hb01 hb2).size
      go_wp2
      refine bodyPost_ret (v := .tuple #[.slice (some ⟨w2.heap.size, 0, none⟩) 0 0, .bool false]) (by simp [results, Try.results175, go_sem]) rfl ?_
      exact ⟨_, by rw [wayB, HR.out]; rfl, by rw [wayL, HR.out]; exact own_empty _ _ _ hzz, bt (bt hb01 hb2) (below_alloc _ _)⟩
    have HA := Lib.hid ha
    obtain ⟨n, hn⟩ : ∃ n : Nat, a = (n : Int) + 1 := ⟨(a - 1).toNat, by have := al_addr ha; omega⟩
    have hn8 : n < 8 := by have := al_addr ha; omega
    clear ha
    by_cases hk7 : k = 8
    · have hge : (8 : Int) ≤ (l.length : Int) := by rw [hl, hk7]; decide
      have HR := Lib.hid (show wayN hs t 8 f = none by rw [HW.out, hk7, wayN_short HAT.out]; rfl)
      clear hl hn
      go_wp2_with fail
      refine (cb (l2Has_any _ _ hs a _ (h2.keep hb01) (by rw [HLEN.out]; omega)) HA.out).mono ?_
      rintro e w2 ⟨rfl, hb2⟩
      have hzz : w.heap.size ≤ w2.heap.size := (bt hb01 hb2).size
      go_wp2
      refine bodyPost_ret (v := .tuple #[.slice (some ⟨w2.heap.size, 0, none⟩) 0 0, .bool false]) (by simp [results, Try.results175, go_sem]) rfl ?_
      exact ⟨_, by rw [wayB, HR.out]; rfl, by rw [wayL, HR.out]; exact own_empty _ _ _ hzz, bt (bt hb01 hb2) (below_alloc _ _)⟩
    · have hge : ¬ (8 : Int) ≤ (l.length : Int) := by rw [hl]; omega
      clear hl
      subst hn
      go_wp2_with fail
      refine (cb (l2Has_any _ _ hs _ _ (h2.keep hb01) (by rw [HLEN.out]; omega)) HA.out).mono ?_
      rintro e w2 ⟨rfl, hb2⟩
      replace hc0 := cell_keep hb2 hc0
      replace hc1 := cell_keep hb2 hc1
      have hown2 := own_keep hown hb2
      have hz2 := hb2.size
      have hW2 := bt hb01 hb2
      have hb3 := hb.trans (hb2.mono (by omega))
      clear hb2 hown hb hWr hb01
      have hlen9 : l.length < 1099511627776 := by have := HK.out; omega
      go_wp2_with (at_builtin; go_must (refine app_int _ rfl _ _ rfl (w.heap.size + 1) _ l rfl (own_keep hown2 (below_alloc _ _)) ⟨w2.heap.size, 0, none⟩ _ rfl (cell_new1 _ _ _) hlen9 (by simp; omega) ?_; intro v' w3 hown3 hf3; have hb4 := below_own (own_keep hown2 (below_alloc _ _)) hf3 (hb3.trans ((below_alloc w2 (.cells #[.int .i64 ((n : Int) + 1)] 3)).mono (by omega))) (by simp; omega); have hW3 := hb4.mono (B' := (w.alloc (.cells #[vs, .slice ha2 hs.length hcap] 34)).heap.size) (by simp); have hd0 := cell_keep hW3 (p := ⟨w.heap.size, 0, none⟩) (v := vs) (by simp); have hd1 := cell_keep hW3 (p := ⟨w.heap.size, 1, none⟩) (v := .slice ha2 hs.length hcap) (by simp); obtain ⟨hb', ho', hcap', hfe, _, _, hcell⟩ := (h2.keep (bt (below_alloc w _) hW3)).ne (by rw [HLEN.out]; omega); simp only [Value.slice.injEq] at hfe; obtain ⟨rfl, _h1, rfl⟩ := hfe; clear _h1; have hck := hcell n (by rw [HLEN.out]; omega); have hki : (n : Int) < (hs.length : Int) := (by rw [HLEN.out]; omega); have hwr : IntKind.i64.wrap (n : Int) = (n : Int) := IntWalk.i64_in _ (by omega)))
      go_roundg (gk - 1)
      case rel => exact ⟨k + 1, l ++ [(n : Int) + 1], ct hs ((n : Int) + 1), by have := HK.out; omega, by omega, by have := HK.out; simp; omega, by rw [ct_at hn8], by rw [HW.out, wayN_step HAT.out HA.out (by omega)]; simp [Option.map_map, Function.comp_def], hown3, hb4⟩
      case measure => have := HK.out; omega
end Go.Proofs.Ytnhhfbhhglhocaa
