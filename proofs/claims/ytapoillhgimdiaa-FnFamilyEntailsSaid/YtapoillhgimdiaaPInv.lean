/- Walks: the way from an address to another one: the reference. -/
import Derived.Test.YtapoillhgimdiaaPHold2
import Derived.Test.YtapoillhgimdiaaPRens
import Derived.Test.YtapoillhgimdiaaPBase2
import Derived.Deep.WholeRow
import Derived.Test.YtapoillhgimdiaaPDraw2
import Derived.Deep.RegionHeld3
import Derived.Deep.MidRow
namespace Go.Proofs.Ytapoillhgimdiaa
open Go.RowKit

theorem ct_at {hs : List Int} {n : Nat} (h : n < 8) : ct hs ((n : Int) + 1) = gi hs n := by
  have : isAddrB ((n : Int) + 1) = true := by simp [isAddrB]; omega
  rw [ct, if_pos this, show ((n : Int) + 1 - 1).toNat = n by omega]
set_option maxRecDepth 100000 in
set_option maxHeartbeats 3200000 in
theorem walkS_any (vs hv : Value) (vl hs : List Int) (f t : Int) (w : World) (h2 : RInts w hv hs) (hvd : validB vl hs = true) :
    Calls Try.prog 256 #[.agg #[vs, hv], .int .i64 f, .int .i64 t] w fun e w' => ∃ v, e = .returned (.tuple #[v, .bool (wayB hs f t)]) ∧ w'.ownsRow w.heap.size 3 1 v (wayL hs f t).length (ints (wayL hs f t)) ∧ Below w.heap.size w w' := by
  have hlen := (valid_len hvd).2
  have HLEN := Lib.hid hlen
  clear hlen
  obtain ⟨ha2, hcap, rfl⟩ := h2.form
  go_enter Try.func256, Try.ntmps256
  go_wp2
  go_loopg [1, 8] 9 (fun q at_ way wr => ∃ (k : Nat) (l : List Int) (a : Int), k + q = 9 ∧ k ≤ 8 ∧ l.length = k ∧ at_ = .int .i64 a ∧ wayN hs t 8 f = (wayN hs t (8 - k) a).map (l ++ ·) ∧ wr.ownsRow (w.heap.size + 1) 3 1 way l.length (ints l) ∧ Below (w.heap.size + 1) (w.alloc (.cells #[vs, .slice ha2 hs.length hcap] 77)) wr)
  case atStart => exact ⟨0, [], f, by omega, by omega, rfl, rfl, by simp, own_empty_at (w.alloc (.cells #[vs, .slice ha2 hs.length hcap] 77)) (w.heap.size + 1) 3 (w.heap.size + 1) (by simp) (Nat.le_refl _), (Below.refl (w.heap.size + 1) (w.alloc (.cells #[vs, .slice ha2 hs.length hcap] 77))).alloc (by simp) _⟩
  case round =>
    obtain ⟨k, l, a, hk, hk8, hl, rfl, hway, hown, hb⟩ := hrel
    obtain ⟨xa, xc, rfl⟩ := (own_ints hown).1.form
    have HK := Lib.hid (And.intro hk hl)
    have HW := Lib.hid hway
    clear hk hway
    have hWr := hb.mono (B' := (w.alloc (.cells #[vs, .slice ha2 hs.length hcap] 77)).heap.size) (by simp)
    have hc0 := cell_keep hWr (p := ⟨w.heap.size, 0, none⟩) (v := vs) (by simp)
    have hc1 := cell_keep hWr (p := ⟨w.heap.size, 1, none⟩) (v := .slice ha2 hs.length hcap) (by simp)
    have hzr : w.heap.size < wr.heap.size := World.block_lt_of_cell? wr _ hc0
    have hz1 : w.heap.size + 1 ≤ wr.heap.size := by have := hb.size; simpa using this
    have hb01 : Below w.heap.size w wr := bt (below_alloc w _) hWr
    by_cases hat : a = t
    · have HR := Lib.hid (show wayN hs t 8 f = some l by rw [HW.out, wayN_here hat]; simp)
      have hne : (a != t) = false := by simp [hat]
      clear hat hl
      go_wp2
      refine bodyPost_ret (v := .tuple #[.slice xa l.length xc, .bool true]) (by simp [results, Try.results256, go_sem]) rfl ?_
      exact ⟨_, by rw [wayB, HR.out]; rfl, by rw [wayL, HR.out]; exact own_mono hown (by omega), hb01⟩
    have hne : (a != t) = true := by simp [hat]
    have HAT := Lib.hid hat
    clear hat
    cases ha : alB hs a
    · have HR := Lib.hid (show wayN hs t 8 f = none by rw [HW.out, wayN_stuck HAT.out ha]; rfl)
      have HA := Lib.hid ha
      clear ha hl
      go_wp2_with fail
      refine (cb (l2Has_any _ _ hs a _ (h2.keep hb01) (by rw [HLEN.out]; omega)) HA.out).mono ?_
      rintro e w2 ⟨rfl, hb2⟩
      have hzz : w.heap.size ≤ w2.heap.size := (bt hb01 hb2).size
      go_wp2
      refine bodyPost_ret (v := .tuple #[.slice (some ⟨w2.heap.size, 0, none⟩) 0 0, .bool false]) (by simp [results, Try.results256, go_sem]) rfl ?_
      exact ⟨_, by rw [wayB, HR.out]; rfl, by rw [wayL, HR.out]; exact own_empty _ _ _ hzz, bt (bt hb01 hb2) (below_alloc _ _)⟩
    have HA := Lib.hid ha
    obtain ⟨n, hn⟩ : ∃ n : Nat, a = (n : Int) + 1 := ⟨(a - 1).toNat, by have := al_addr ha; omega⟩
    have hn8 : n < 8 := by have := al_addr ha; omega
    clear ha
    by_cases hk7 : k = 8
    · have hge : (8 : Int) ≤ (l.length : Int) := by rw [hl, hk7]; decide
      have HR := Lib.hid (show wayN hs t 8 f = none by rw [HW.out, hk7, wayN_short HAT.out]; rfl)
      clear hl hn
      go_wp2_with fail
      refine (cb (l2Has_any _ _ hs a _ (h2.keep hb01) (by rw [HLEN.out]; omega)) HA.out).mono ?_
      rintro e w2 ⟨rfl, hb2⟩
      have hzz : w.heap.size ≤ w2.heap.size := (bt hb01 hb2).size
      go_wp2
      refine bodyPost_ret (v := .tuple #[.slice (some ⟨w2.heap.size, 0, none⟩) 0 0, .bool false]) (by simp [results, Try.results256, go_sem]) rfl ?_
      exact ⟨_, by rw [wayB, HR.out]; rfl, by rw [wayL, HR.out]; exact own_empty _ _ _ hzz, bt (bt hb01 hb2) (below_alloc _ _)⟩
    · have hge : ¬ (8 : Int) ≤ (l.length : Int) := by rw [hl]; omega
      clear hl
      subst hn
      go_wp2_with fail
      refine (cb (l2Has_any _ _ hs _ _ (h2.keep hb01) (by rw [HLEN.out]; omega)) HA.out).mono ?_
      rintro e w2 ⟨rfl, hb2⟩
      replace hc0 := cell_keep hb2 hc0
      replace hc1 := cell_keep hb2 hc1
      have hown2 := own_keep hown hb2
      have hz2 := hb2.size
      have hW2 := bt hb01 hb2
      have hb3 := hb.trans (hb2.mono (by omega))
      clear hb2 hown hb hWr hb01
      have hlen9 : l.length < 1099511627776 := by have := HK.out; omega
      go_wp2_with (at_builtin; go_must (refine app_int _ rfl _ _ rfl (w.heap.size + 1) _ l rfl (own_keep hown2 (below_alloc _ _)) ⟨w2.heap.size, 0, none⟩ _ rfl (cell_new1 _ _ _) hlen9 (by simp; omega) ?_; intro v' w3 hown3 hf3; have hb4 := below_own (own_keep hown2 (below_alloc _ _)) hf3 (hb3.trans ((below_alloc w2 (.cells #[.int .i64 ((n : Int) + 1)] 3)).mono (by omega))) (by simp; omega); have hW3 := hb4.mono (B' := (w.alloc (.cells #[vs, .slice ha2 hs.length hcap] 77)).heap.size) (by simp); have hd0 := cell_keep hW3 (p := ⟨w.heap.size, 0, none⟩) (v := vs) (by simp); have hd1 := cell_keep hW3 (p := ⟨w.heap.size, 1, none⟩) (v := .slice ha2 hs.length hcap) (by simp); obtain ⟨hb', ho', hcap', hfe, _, _, hcell⟩ := (h2.keep (bt (below_alloc w _) hW3)).ne (by rw [HLEN.out]; omega); simp only [Value.slice.injEq] at hfe; obtain ⟨rfl, _h1, rfl⟩ := hfe; clear _h1; have hck := hcell n (by rw [HLEN.out]; omega); have hki : (n : Int) < (hs.length : Int) := (by rw [HLEN.out]; omega); have hwr : IntKind.i64.wrap (n : Int) = (n : Int) := IntWalk.i64_in _ (by omega)))
      go_roundg (gk - 1)
      case rel => exact ⟨k + 1, l ++ [(n : Int) + 1], ct hs ((n : Int) + 1), by have := HK.out; omega, by omega, by have := HK.out; simp; omega, by rw [ct_at hn8], by rw [HW.out, wayN_step HAT.out HA.out (by omega)]; simp [Option.map_map, Function.comp_def], hown3, hb4⟩
      case measure => have := HK.out; omega
end Go.Proofs.Ytapoillhgimdiaa
/- Rens2: texts Rn5, Rn6 in one. -/
/- Walks: the reference's names and renamed states. -/
namespace Go.Proofs.Ytapoillhgimdiaa
open Go.RowKit

end Go.Proofs.Ytapoillhgimdiaa
/- Walks: RenameState, and the reference's. -/
namespace Go.Proofs.Ytapoillhgimdiaa
open Go.RowKit

end Go.Proofs.Ytapoillhgimdiaa
/- Cans: texts Canon, Can1, Can2 in one. -/
/- The order in which addresses are met, in plain Lean; canonical forms. -/
namespace Go.Proofs.Ytapoillhgimdiaa

end Go.Proofs.Ytapoillhgimdiaa
/- Walks: follow: names in the order in which addresses are met. -/
namespace Go.Proofs.Ytapoillhgimdiaa
open Go.RowKit

end Go.Proofs.Ytapoillhgimdiaa
/- Walks: the program's CanonState. -/
namespace Go.Proofs.Ytapoillhgimdiaa
open Go.RowKit

end Go.Proofs.Ytapoillhgimdiaa
/- Shapes: texts Shape, Shape2, Shape3, Shape4 in one. -/
/- Shapes, in plain Lean: the program's search. -/
namespace Go.Proofs.Ytapoillhgimdiaa

end Go.Proofs.Ytapoillhgimdiaa
/- Shapes, in plain Lean: the reference's search by pairs. -/
namespace Go.Proofs.Ytapoillhgimdiaa

abbrev Prs := List (Int × Int)
/-- Pairs that are a partial bijection of addresses. -/
structure PI (ps : Prs) : Prop where
  adr : ∀ q ∈ ps, (1 ≤ q.1 ∧ q.1 ≤ 8) ∧ (1 ≤ q.2 ∧ q.2 ≤ 8)
  bij : ∀ q ∈ ps, ∀ r ∈ ps, (q.1 = r.1 ↔ q.2 = r.2)
def Cp (p : List Int) (ps : Prs) : Prop := ∀ q ∈ ps, nm p q.1 = q.2

theorem PI.nil : PI [] := ⟨(fun _ h => by cases h), (fun _ h => by cases h)⟩
theorem PI.snoc {ps : Prs} (h : PI ps) {x y : Int} (hx : 1 ≤ x ∧ x ≤ 8) (hy : 1 ≤ y ∧ y ≤ 8) (hn : ∀ q ∈ ps, (q.1 = x ↔ q.2 = y)) : PI (ps ++ [(x, y)]) := by
  refine ⟨fun q hq => ?_, fun q hq r hr => ?_⟩
  · rcases List.mem_append.1 hq with hq | hq
    · exact h.adr q hq
    · simp at hq; subst hq; exact ⟨hx, hy⟩
  · rcases List.mem_append.1 hq with hq | hq <;> rcases List.mem_append.1 hr with hr | hr
    · exact h.bij q hq r hr
    · simp at hr; subst hr; exact hn q hq
    · simp at hq; subst hq
      have := hn r hr
      exact ⟨fun e => (this.1 e.symm).symm, fun e => (this.2 e.symm).symm⟩
    · simp at hq hr; subst hq; subst hr; simp
theorem Cp.snoc {p : List Int} {ps : Prs} (h : Cp p ps) {x y : Int} (e : nm p x = y) : Cp p (ps ++ [(x, y)]) := by
  intro q hq
  rcases List.mem_append.1 hq with hq | hq
  · exact h q hq
  · simp at hq; subst hq; exact e
theorem PI.nd {ps : Prs} (hi : PI ps) : ∀ {qs : Prs}, (∀ q ∈ qs, q ∈ ps) → (qs.map (·.1)).Nodup → (qs.map (·.2)).Nodup
  | [], _, _ => by simp
  | q :: qs, hs, hn => by
    rw [List.map_cons, List.nodup_cons] at hn ⊢
    refine ⟨fun hm => ?_, hi.nd (fun r hr => hs r (List.mem_cons_of_mem _ hr)) hn.2⟩
    obtain ⟨r, hr, e⟩ := List.mem_map.1 hm
    exact hn.1 (List.mem_map.2 ⟨r, hr, ((hi.bij r (hs r (List.mem_cons_of_mem _ hr)) q (hs q List.mem_cons_self)).2 e)⟩)

end Go.Proofs.Ytapoillhgimdiaa
/- Shapes, in plain Lean: the reference's search finds what the program's finds. -/
namespace Go.Proofs.Ytapoillhgimdiaa

end Go.Proofs.Ytapoillhgimdiaa
/- Shapes, in plain Lean: both searches agree; equivalence; canonical forms. -/
namespace Go.Proofs.Ytapoillhgimdiaa

end Go.Proofs.Ytapoillhgimdiaa
/- States of one shape have the same aliases and as many used, lost and cyclic cells, in plain Lean. -/
namespace Go.Proofs.Ytapoillhgimdiaa

section
variable {vl hl p : List Int}
end
end Go.Proofs.Ytapoillhgimdiaa
