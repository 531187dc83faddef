/- Base3: texts L1, L2, L3, Frame, Ext in one. -/
import Derived.Test.YtdjfdopgjlbloaaDoorBase1
import Derived.Test.YtdjfdopgjlbloaaDoorRows
import Derived.ProofKit
import Derived.OpenShut
import Derived.ShutString
import Derived.ChangeOld
import Derived.Lib.SmallJoins
import Derived.Handy
import Derived.Deep.DeepMust
/- Walks: the helpers of the laws: sizes, copies, comparisons, marks. -/
namespace Go.Proofs.YtdjfdopgjlbloaaDoor
open Go.RowKit

/-- Two lists agree up to k. -/
theorem take_eq_succ {l1 l2 : List Int} {k : Nat} (h1 : k < l1.length) (h2 : k < l2.length) (h : l1.take k = l2.take k) (e : gi l1 k = gi l2 k) : l1.take (k + 1) = l2.take (k + 1) := by
  rw [List.take_succ_eq_append_getElem h1, List.take_succ_eq_append_getElem h2, h]
  rw [gi_of h1, gi_of h2] at e
  rw [e]

theorem ne_of_gi {l1 l2 : List Int} {k : Nat} (e : ¬ gi l1 k = gi l2 k) : ¬ l1 = l2 := fun h => e (by rw [h])

set_option maxHeartbeats 400000 in
theorem eqIntS_any (v1 v2 : Value) (l1 l2 : List Int) (w : World) (h1 : RInts w v1 l1) (h2 : RInts w v2 l2) :
    Calls Tryd.prog 24 #[v1, v2] w fun e w' => e = .returned (.bool (decide (l1 = l2))) ∧ Below w.heap.size w w' := by
  have hm1 := h1.len
  have hm2 := h2.len
  unfold maxLen at hm1 hm2
  obtain ⟨a1, c1, rfl, hf1⟩ := h1.cells
  obtain ⟨a2, c2, rfl, hf2⟩ := h2.cells
  by_cases hl : l1.length = l2.length
  · have hle : l1.length ≤ l2.length := by omega
    have hge : l2.length ≤ l1.length := by omega
    have HL := Lib.hid hl
    have F1 := Lib.hid hf1
    have F2 := Lib.hid hf2
    have hne : ((l1.length : Int) != (l2.length : Int)) = false := by simp [hl]
    clear hl hf1 hf2 h1 h2
    go_enter Tryd.func24, Tryd.ntmps24
    go_wp2
    go_loopg [5] l1.length (fun q i wr => ∃ k : Nat, k + q = l1.length ∧ i = .int .i64 k ∧ l1.take k = l2.take k ∧ Below w.heap.size w wr)
    case atStart => exact ⟨0, by omega, rfl, by simp, Below.refl _ _⟩
    case round =>
      obtain ⟨k, hk, rfl, ht, hb⟩ := hrel
      have HK := Lib.hid hk
      have HT := Lib.hid ht
      clear hk ht
      by_cases hk8 : k < l1.length
      · have hk2 : k < l2.length := by omega
        obtain ⟨b1, o1, rfl, hbl1, hc1⟩ := F1.out k hk8
        obtain ⟨b2, o2, rfl, hbl2, hc2⟩ := F2.out k hk2
        have hc1r := cell_below hb hbl1 hc1
        have hc2r := cell_below hb hbl2 hc2
        have hs := hb.size
        have g1 : b1 < wr.heap.size := by omega
        have g2 : b2 < wr.heap.size := by omega
        have i1 : (k : Int) < (l1.length : Int) := by omega
        have i2 : (k : Int) < (l2.length : Int) := by omega
        by_cases he : gi l1 k = gi l2 k
        · have hne2 : (gi l1 k != gi l2 k) = false := by simp [he]
          have HE := Lib.hid he
          clear he hc1 hc2
          go_wp2
          refine wp_region_ext (by kernel_rfl) (by kernel_rfl) ?_
          repeat (go_big_quiet_step (fail))
          refine wpQuiet_nil ?_
          intro w2 hb2
          go_wp2
          go_roundg (gk - 1)
          case rel => exact ⟨k + 1, by have := HK.out; omega, by go_num, take_eq_succ hk8 hk2 HT.out HE.out, hb.trans (hb2.mono hs)⟩
          case measure => have := HK.out; omega
        · have hne2 : (gi l1 k != gi l2 k) = true := by simpa using he
          have hfin : decide (l1 = l2) = false := by simpa using ne_of_gi he
          have HF := Lib.hid hfin
          clear he hc1 hc2 hfin
          go_wp2
          refine wp_region_ext (by kernel_rfl) (by kernel_rfl) ?_
          repeat (go_big_quiet_step (fail))
          refine wpQuiet_nil ?_
          intro w2 hb2
          go_wp2
          go_ret
          exact ⟨by rw [HF.out]; rfl, hb.trans (hb2.mono hs)⟩
      · obtain rfl : k = l1.length := by have := HK.out; omega
        have hfin : decide (l1 = l2) = true := by
          have := HT.out
          rw [List.take_length, HL.out, List.take_length] at this
          simpa using this
        have HF := Lib.hid hfin
        clear hfin HT
        go_wp2
        go_ret
        exact ⟨by rw [HF.out]; rfl, hb⟩
  · have hne : ((l1.length : Int) != (l2.length : Int)) = true := by simp; omega
    have hfin : decide (l1 = l2) = false := by simpa using fun h => hl (by rw [h])
    have HF := Lib.hid hfin
    clear hl hfin
    go_enter Tryd.func24, Tryd.ntmps24
    go_wp2
    go_ret
    exact ⟨by rw [HF.out]; rfl, Below.refl _ _⟩
set_option maxHeartbeats 400000 in
theorem szIntS_fit (a : Option Addr) (n cap : Nat) (left : Int) (w : World) (h1 : left ≤ 1048576) (hn : (n : Int) ≤ left) :
    Calls Tryd.prog 14 #[.slice a n cap, .int .i64 left] w fun e w' => e = .returned (.int .i64 (left - n)) ∧ w = w' := by
  go_enter Tryd.func14, Tryd.ntmps14
  go_wp2
  go_ret
  simp
set_option maxHeartbeats 400000 in
theorem szIntS_big (a : Option Addr) (n cap : Nat) (left : Int) (w : World) (h0 : 0 ≤ left) (h1 : left < n) (hn : n ≤ maxLen) :
    Calls Tryd.prog 14 #[.slice a n cap, .int .i64 left] w fun e w' => e = .returned (.int .i64 (-1)) ∧ w = w' := by
  unfold maxLen at hn
  go_enter Tryd.func14, Tryd.ntmps14
  go_wp2
  go_ret
  simp
end Go.Proofs.YtdjfdopgjlbloaaDoor
/- Walks: the helpers of the laws: copies and marks. -/
namespace Go.Proofs.YtdjfdopgjlbloaaDoor
open Go.RowKit

theorem set_fill (l : List Int) (k : Nat) (h : k < l.length) :
    (ints (l.take k ++ List.replicate (l.length - k) 0)).set k (.int .i64 (gi l k)) = ints (l.take (k + 1) ++ List.replicate (l.length - (k + 1)) 0) := by
  apply List.ext_getElem?
  intro i
  simp only [ints, List.getElem?_set, List.getElem?_map, List.getElem?_append, List.length_take, List.getElem?_take, List.getElem?_replicate, List.length_map, List.length_append, List.length_replicate]
  by_cases hik : k = i
  · subst hik
    have h2 : k < min (k + 1) l.length := by omega
    have h3 : k < min k l.length + (l.length - k) := by omega
    simp [h2, h3, gi_of h, h]
  · by_cases hlt : i < k
    · have h2 : i < min k l.length := by omega
      have h3 : i < min (k + 1) l.length := by omega
      have h4 : i < k + 1 := by omega
      simp [hik, h2, h3, hlt, h4]
    · have h2 : ¬ i < min k l.length := by omega
      have h3 : ¬ i < min (k + 1) l.length := by omega
      simp only [hik, if_false, h2, h3]
      by_cases h5 : i < l.length
      · have e1 : i - min k l.length < l.length - k := by omega
        have e2 : i - min (k + 1) l.length < l.length - (k + 1) := by omega
        simp [e1, e2]
      · have e1 : ¬ i - min k l.length < l.length - k := by omega
        have e2 : ¬ i - min (k + 1) l.length < l.length - (k + 1) := by omega
        simp [e1, e2]

/-- The marks from `k0` on. -/
def mks (k0 : Int) (n : Nat) : List Int := (List.range n).map fun (i : Nat) => k0 + i
theorem mks_len (k0 : Int) (n : Nat) : (mks k0 n).length = n := by simp [mks]
theorem gi_mks (k0 : Int) (n k : Nat) (h : k < n) : gi (mks k0 n) k = k0 + k := by
  rw [gi_of (by rw [mks_len]; exact h)]; simp [mks]
theorem set_marks (l : List Int) (k0 : Int) (k : Nat) (h : k < l.length) :
    (ints (mks k0 k ++ l.drop k)).set k (.int .i64 (k0 + k)) = ints (mks k0 (k + 1) ++ l.drop (k + 1)) := by
  apply List.ext_getElem?
  intro i
  simp only [ints, List.getElem?_set, List.getElem?_map, List.getElem?_append, mks_len, List.getElem?_drop, List.length_map, List.length_append, List.length_drop]
  have hm : ∀ n j, j < n → (mks k0 n)[j]? = some (k0 + j) := by intro n j hj; simp [mks, hj]
  by_cases hik : k = i
  · subst hik
    have h2 : k < k + (l.length - k) := by omega
    rw [if_pos rfl, if_pos h2, if_pos (by omega : k < k + 1), hm _ _ (by omega)]
    rfl
  · rw [if_neg hik]
    by_cases hlt : i < k
    · rw [if_pos hlt, if_pos (by omega : i < k + 1), hm _ _ hlt, hm _ _ (by omega)]
    · rw [if_neg hlt, if_neg (by omega : ¬ i < k + 1)]
      congr 2; omega

/-- An owned slice of at least one element. -/
theorem own_form {w : World} {B e n : Nat} {v : Value} {xs : List Value} (h : w.ownsRow B e 1 v n xs) : ∃ a cap, v = .slice a n cap ∧ (∀ i, i < n → ∃ g, a = some ⟨g, 0, none⟩) := by
  rcases h.2 with ⟨rfl, rfl⟩ | ⟨g, cap, cur, rfl, _⟩
  · exact ⟨none, 0, rfl, fun i hi => by omega⟩
  · exact ⟨_, cap, rfl, fun _ _ => ⟨g, rfl⟩⟩

set_option maxHeartbeats 800000 in
theorem toIntS_any (v : Value) (l : List Int) (w : World) (h : RInts w v l) (hl : l.length ≤ 1048576) :
    Calls Tryd.prog 18 #[v] w fun e w' => ∃ v', e = .returned v' ∧ w'.ownsRow w.heap.size 3 1 v' l.length (ints l) ∧ Below w.heap.size w w' := by
  obtain ⟨a1, c1, rfl, hf1⟩ := h.cells
  have F1 := Lib.hid hf1
  clear hf1 h
  obtain ⟨i0, hi, hz0, hz1, hz2⟩ := info_parts info_int
  go_enter Tryd.func18, Tryd.ntmps18
  go_wp2_with (at_make; refine wpList_make_full _ rfl _ _ 22 rfl w.heap.size 3 i0 (.int .i64 0) 1 Tryd.underlying22 hi hz0 hz1 _ _ _ _ l.length rfl rfl rfl rfl (by rw [hz2]; omega) (by unfold maxLen; omega) (Nat.le_refl _) ?_; intro w1 hown hgr)
  have hb1 := (grown_fr hgr).below (B := w.heap.size) (Nat.le_refl _) (by intro k _ e; cases e)
  have hown0 : w1.ownsRow w.heap.size 3 1 (.slice (some ⟨w.heap.size, 0, none⟩) l.length l.length) l.length (ints (l.take 0 ++ List.replicate (l.length - 0) 0)) := by
    have e : (madeCells (Value.int .i64 0).cells (l.length * 1)).toList = ints (l.take 0 ++ List.replicate (l.length - 0) 0) := by
      rw [show (Value.int .i64 0).cells = #[Value.int .i64 0] from rfl, toList_madeCells_one]
      simp [ints]
    rwa [e] at hown
  clear hown hi hz0 hz1 hz2 hgr
  go_loopg [4] l.length (fun q i wr => ∃ k : Nat, k + q = l.length ∧ i = .int .i64 k ∧ wr.ownsRow w.heap.size 3 1 (.slice (some ⟨w.heap.size, 0, none⟩) l.length l.length) l.length (ints (l.take k ++ List.replicate (l.length - k) 0)) ∧ Below w.heap.size w wr)
  case atStart => exact ⟨0, by omega, rfl, hown0, hb1⟩
  case round =>
    obtain ⟨k, hk, rfl, hown, hb⟩ := hrel
    have HK := Lib.hid hk
    clear hk
    by_cases hk8 : k < l.length
    · obtain ⟨b, o, rfl, hbl, hc⟩ := F1.out k hk8
      have hcr := cell_below hb hbl hc
      have hki : (k : Int) < (l.length : Int) := by omega
      have hfz := hown.frozenAt k
      obtain ⟨old, hcg⟩ : ∃ old, wr.cell? ⟨w.heap.size, k, none⟩ = some old := by
        refine ⟨(ints (l.take k ++ List.replicate (l.length - k) 0))[k]'(by rw [hown.1]; omega), ?_⟩
        rw [hown.cellAt k (by omega)]
        exact List.getElem?_eq_getElem _
      obtain ⟨hst1, hst2⟩ := hown.stored k (.int .i64 (gi l k))
      clear hc
      go_wp2
      go_roundg (gk - 1)
      case rel => exact ⟨k + 1, by have := HK.out; omega, by go_num, by rw [← set_fill l k hk8]; exact hst1, hb.setCell (by simp) _⟩
      case measure => have := HK.out; omega
    · obtain rfl : k = l.length := by have := HK.out; omega
      go_wp2
      go_ret
      refine ⟨_, rfl, ?_, hb⟩
      have e : l.take l.length ++ List.replicate (l.length - l.length) 0 = l := by simp
      rw [e] at hown
      exact hown
set_option maxHeartbeats 800000 in
theorem markIntS_any (B : Nat) (v : Value) (l : List Int) (k0 : Int) (w : World) (h : w.ownsRow B 3 1 v l.length (ints l)) (h0 : 0 ≤ k0) (h1 : k0 ≤ 1099511627776) (hl : l.length ≤ 1099511627776) :
    Calls Tryd.prog 31 #[v, .int .i64 k0] w fun e w' => e = .returned (.int .i64 (k0 + l.length)) ∧ w'.ownsRow B 3 1 v l.length (ints (mks k0 l.length)) ∧ Fr (fun k => some k = v.ownBlock) w w' := by
  obtain ⟨a, cap, rfl, ha⟩ := own_form h
  go_enter Tryd.func31, Tryd.ntmps31
  go_wp2
  go_loopg [1, 5] l.length (fun q x i wr => ∃ k : Nat, k + q = l.length ∧ i = .int .i64 k ∧ x = .int .i64 (k0 + k) ∧ wr.ownsRow B 3 1 (.slice a l.length cap) l.length (ints (mks k0 k ++ l.drop k)) ∧ Fr (fun k => some k = (Value.slice a l.length cap).ownBlock) w wr)
  case atStart => exact ⟨0, by omega, rfl, by simp, h, Fr.refl _ _⟩
  case round =>
    obtain ⟨k, hk, rfl, rfl, hown, hf⟩ := hrel
    have HK := Lib.hid hk
    clear hk
    by_cases hk8 : k < l.length
    · obtain ⟨g, rfl⟩ := ha k hk8
      have hki : (k : Int) < (l.length : Int) := by omega
      have hfz := hown.frozenAt k
      obtain ⟨old, hcg⟩ : ∃ old, wr.cell? ⟨g, k, none⟩ = some old := by
        refine ⟨(ints (mks k0 k ++ l.drop k))[k]'(by rw [hown.1]; omega), ?_⟩
        rw [hown.cellAt k (by omega)]
        exact List.getElem?_eq_getElem _
      obtain ⟨hst1, hst2⟩ := hown.stored k (.int .i64 (k0 + k))
      have HS1 := Lib.hid hst1
      have HS2 := Lib.hid hst2
      clear hst1 hst2
      go_wp2
      go_roundg (gk - 1)
      case rel => exact ⟨k + 1, by have := HK.out; omega, by go_num, by rw [show k0 + ((k + 1 : Nat) : Int) = k0 + (k : Int) + 1 by omega], by rw [← set_marks l k0 k hk8]; exact HS1.out, hf.trans ((grown_fr HS2.out).mono fun j _ e => by simpa [Value.ownBlock] using e)⟩
      case measure => have := HK.out; omega
    · obtain rfl : k = l.length := by have := HK.out; omega
      go_wp2
      go_ret
      refine ⟨rfl, ?_, hf⟩
      have e : mks k0 l.length ++ l.drop l.length = mks k0 l.length := by simp
      rw [e] at hown
      exact hown
set_option maxHeartbeats 800000 in
theorem heldIntS_any (v : Value) (n : Nat) (k0 : Int) (w : World) (h : RInts w v (mks k0 n)) (h0 : 0 ≤ k0) (h1 : k0 ≤ 1099511627776) (hn : n ≤ 1099511627776) :
    Calls Tryd.prog 33 #[v, .int .i64 k0] w fun e w' => e = .returned (.int .i64 (k0 + n)) ∧ w = w' := by
  obtain ⟨a1, c1, rfl, hf1⟩ := h.cells
  rw [mks_len] at hf1 ⊢
  have F1 := Lib.hid hf1
  clear hf1 h
  go_enter Tryd.func33, Tryd.ntmps33
  go_wp2
  go_loopg [1, 5] n (fun q x i wr => ∃ k : Nat, k + q = n ∧ i = .int .i64 k ∧ x = .int .i64 (k0 + k) ∧ w = wr)
  case atStart => exact ⟨0, by omega, rfl, by simp, rfl⟩
  case round =>
    obtain ⟨k, hk, rfl, rfl, rfl⟩ := hrel
    have HK := Lib.hid hk
    clear hk
    by_cases hk8 : k < n
    · obtain ⟨b, o, rfl, hbl, hc⟩ := F1.out k hk8
      rw [gi_mks k0 n k hk8] at hc
      have hki : (k : Int) < (n : Int) := by omega
      go_wp2
      go_roundg (gk - 1)
      case rel => exact ⟨k + 1, by have := HK.out; omega, by go_num, by rw [show k0 + ((k + 1 : Nat) : Int) = k0 + (k : Int) + 1 by omega], rfl⟩
      case measure => have := HK.out; omega
    · obtain rfl : k = n := by have := HK.out; omega
      go_wp2
      go_ret
      exact ⟨rfl, rfl⟩
end Go.Proofs.YtdjfdopgjlbloaaDoor
/- Walks: marks of states. -/
namespace Go.Proofs.YtdjfdopgjlbloaaDoor
open Go.RowKit

end Go.Proofs.YtdjfdopgjlbloaaDoor
/- From the form of the claim to the vocabulary of the walks: arguments that come in. -/
namespace Go.Proofs.YtdjfdopgjlbloaaDoor
open Go.ChangeShapes Go.WideShapes Go.ChangeAt Go.RowKit Go.Joins

theorem own_knob : ownKnob Tryd.prog.godebug = none := by kernel_rfl
theorem laid_out : laidOutB Tryd.prog = true := by kernel_rfl

/-- A slice of integers that came in can be read. -/
theorem ints_of_trod {H : Type} {enc : TypeId × Value → H} {P : Program} {W : World} {t e : TypeId} {fuel : Nat} {v : Value} {y : DataW H × List MemPlace}
    (ht : P.underlying t = some (.slice e)) (he : P.underlying e = some (.int .i64)) (hc : P.cellsOf e = 1) (h : DataW.trod enc P W 0 (fun _ => true) true fuel t [v] = some y) :
    ∃ l, RInts W v l ∧ Fits l := by
  rcases open_ints ht he hc h with ⟨hcs, _⟩ | ⟨a, len, cap, zs, hcs, _, hl, hm, hz, _, hcell, hwz⟩
  · simp at hcs; subst hcs; exact ⟨[], RInts.nil _, fun _ h => by cases h⟩
  · simp at hcs; subst hcs
    simp only [if_true] at hz
    refine ⟨zs.take len, ?_, ?_⟩
    · by_cases h0 : len = 0
      · subst h0
        exact .inl ⟨some a, cap, rfl, by simp, hm, by simp⟩
      · obtain ⟨b, o, sp⟩ := a
        have hc0 := hcell 0 (by omega)
        have hsp : sp = none := by simpa [Addr.add] using World.cell?_spot hc0
        subst hsp
        have hlen : (zs.take len).length = len := by rw [List.length_take]; omega
        refine .inr ⟨b, o, cap, by rw [hlen], by omega, hm, fun i hi => ?_⟩
        have hi' : i < len := by omega
        have := hcell i (by omega)
        have e : (⟨b, o, none⟩ : Addr).add i = ⟨b, o + i, none⟩ := by unfold Addr.add; split <;> simp_all
        rw [e] at this
        rw [this]
        simp [gi, hi']
    · intro n hn
      have := hwz n (List.mem_of_mem_take hn)
      exact bounds_i64 this

end Go.Proofs.YtdjfdopgjlbloaaDoor
/- Worlds that extend another, as terms that the walk sees through; readable data carried along them. -/
namespace Go.Proofs.YtdjfdopgjlbloaaDoor
open Go.RowKit

theorem to_ext {w w' : World} (h : Below w.heap.size w w') : ∃ x, w' = ext w x := ⟨⟨w', h⟩, rfl⟩
theorem ext_below (w : World) (x : Ext w) : Below w.heap.size w (ext w x) := x.below
@[simp, go_sem] theorem frozen?_ext (w : World) (x : Ext w) (p : Addr) (h : p.block < w.heap.size) : (ext w x).frozen? p = w.frozen? p := x.below.frozen h
theorem le_ext (w : World) (x : Ext w) : w.heap.size ≤ (ext w x).heap.size := x.below.size
@[simp, go_sem] theorem lt_ext (w : World) (x : Ext w) (k : Nat) (h : k < w.heap.size) : k < (ext w x).heap.size := Nat.lt_of_lt_of_le h x.below.size
@[simp, go_sem] theorem eq_ext (w : World) (x : Ext w) (k : Nat) (h : k < w.heap.size) : (k = (ext w x).heap.size) = False := by
  have := x.below.size
  simp only [eq_iff_iff, iff_false]
  show ¬ k = x.to.heap.size
  omega
@[simp, go_sem] theorem lte_ext (w : World) (x : Ext w) (k : Nat) (h : k < w.heap.size) : k ≤ (ext w x).heap.size := Nat.le_of_lt (Nat.lt_of_lt_of_le h x.below.size)
theorem to_ext2 {w w' : World} {x : Ext w} (h : Below (ext w x).heap.size (ext w x) w') : ∃ z, w' = ext w z := ⟨⟨w', bt x.below h⟩, rfl⟩
@[simp, go_sem] theorem lt_p2 (n : Nat) : n < n + 1 + 1 := by omega
@[simp, go_sem] theorem lt_p3 (n : Nat) : n < n + 1 + 1 + 1 := by omega
@[simp, go_sem] theorem lt_p4 (n : Nat) : n < n + 1 + 1 + 1 + 1 := by omega
theorem heap_ext (w : World) (x : Ext w) (k : Nat) (h : k < w.heap.size) : (ext w x).heap[k]? = w.heap[k]? := x.below.block k h

/-- A chain of extensions. -/
theorem be {a b : World} (h : Below a.heap.size a b) (x : Ext b) : Below a.heap.size a (ext b x) := bt h x.below
theorem ba {a b : World} (h : Below a.heap.size a b) (o : Obj) : Below a.heap.size a (b.alloc o) := bt h (below_alloc _ _)
theorem bd {a b : World} (h : Below a.heap.size a b) : Below a.heap.size a b.drew := bt h (below_drew _)

theorem rints_ext {w : World} {v : Value} {l : List Int} {x : Ext w} (h : RInts w v l) : RInts (ext w x) v l := h.keep x.below
theorem rints_alloc {w : World} {v : Value} {l : List Int} {o : Obj} (h : RInts w v l) : RInts (w.alloc o) v l := h.keep (below_alloc _ _)
theorem rints_drew {w : World} {v : Value} {l : List Int} (h : RInts w v l) : RInts w.drew v l := h.keep (below_drew _)
/-- A world lies above another one: by how it was made ('Bl', its proof found where it is used). -/
theorem Bl {B : Nat} {w w' : World} (h : Below B w w' := by repeat (first | exact Below.refl _ _ | with_reducible assumption | exact below_alloc _ _ | (refine Below.setCell ?_ (by first | (simp; done) | (simp; omega) | omega) _) | apply bd | apply ba | apply be)) : Below B w w' := h
/-- A slice reads as a list: by what is known ('Rd'). -/
theorem Rd {w : World} {v : Value} {l : List Int} (h : RInts w v l := by repeat (first | with_reducible assumption | exact (own_ints (by assumption)).1 | apply rints_ext | apply rints_alloc | apply rints_drew)) : RInts w v l := h
theorem own_extI {w : World} {x : Ext w} {B e sz n : Nat} {v : Value} {xs : List Value} (h : w.ownsRow B e sz v n xs) : (ext w x).ownsRow B e sz v n xs := own_keep h x.below
theorem own_allocI {w : World} {o : Obj} {B e sz n : Nat} {v : Value} {xs : List Value} (h : w.ownsRow B e sz v n xs) : (w.alloc o).ownsRow B e sz v n xs := own_keep h (below_alloc _ _)
theorem own_drewI {w : World} {B e sz n : Nat} {v : Value} {xs : List Value} (h : w.ownsRow B e sz v n xs) : w.drew.ownsRow B e sz v n xs := own_keep h (below_drew _)
/-- What stands behind the first element. -/
theorem rints_tail {w : World} {b o n c m c' : Nat} {y : Int} {l : List Int} (h : RInts w (.slice (some ⟨b, o, none⟩) n c) (y :: l)) (hm : m = l.length) (h1 : m ≤ c') (h2 : c' ≤ maxLen) : RInts w (.slice (some ⟨b, o + 1, none⟩) m c') l := by
  subst hm
  refine .inr ⟨b, o + 1, c', rfl, h1, h2, fun i hi => ?_⟩
  have := (h.at (i + 1) (by simp; omega)).2
  rw [show o + 1 + i = o + (i + 1) by omega, this]
  simp [gi]
theorem rints_zero {w : World} {a : Addr} {c : Nat} (h2 : c ≤ maxLen) : RInts w (.slice (some a) 0 c) [] := .inl ⟨some a, c, rfl, rfl, h2, fun h => by cases h⟩
theorem lt_new (w : World) (o : Obj) : w.heap.size < (w.alloc o).heap.size := by simp
theorem results_cell_tmp {P : Program} {fn : Func} {p q : Tmp} {ty : TypeId} (h : fn.results = #[.cell p ty, .tmp q]) (tmps : Array Value) (w : World) {ad : Addr} {v : Value}
    (hp : tmps.getD p undef = .pointer (some ad)) (hl : (loadVar ty ad).run P w = .ok v w) : (results fn tmps).run P w = .ok (.tuple #[v, tmps.getD q undef]) w := by
  have hp' : tmps[p]?.getD undef = .pointer (some ad) := by simpa using hp
  simp [results, h, hp', asAddr, hl]
/-- A new box of two cells. -/
theorem cell_new20 (w : World) (a b : Value) (T : TypeId) : (w.alloc (.cells #[a, b] T)).cell? ⟨w.heap.size, 0, none⟩ = some a := by simp
theorem cell_new21 (w : World) (a b : Value) (T : TypeId) : (w.alloc (.cells #[a, b] T)).cell? ⟨w.heap.size, 1, none⟩ = some b := by simp
theorem cell_new20d (w : World) (a b : Value) (T : TypeId) : ((w.alloc (.cells #[a, b] T)).drew).cell? ⟨w.heap.size, 0, none⟩ = some a := by simp
theorem cell_new21d (w : World) (a b : Value) (T : TypeId) : ((w.alloc (.cells #[a, b] T)).drew).cell? ⟨w.heap.size, 1, none⟩ = some b := by simp
theorem free_new2d (w : World) (c : Array Value) (T : TypeId) (i : Nat) : ((w.alloc (.cells c T)).drew).frozen? ⟨w.heap.size, i, none⟩ = false := by simp [go_sem]
theorem free_new2 (w : World) (c : Array Value) (T : TypeId) (i : Nat) : (w.alloc (.cells c T)).frozen? ⟨w.heap.size, i, none⟩ = false := by simp [go_sem]
end Go.Proofs.YtdjfdopgjlbloaaDoor
