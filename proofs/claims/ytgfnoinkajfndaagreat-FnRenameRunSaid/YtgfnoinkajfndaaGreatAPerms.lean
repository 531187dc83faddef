/- Math1: texts DMath, DMath2, DMath3, Sl1, Sl2, Sl3 in one. -/
import Derived.Test.YtgfnoinkajfndaaGreatABase2
import Derived.Test.YtgfnoinkajfndaaGreatABase3
import Derived.Test.YtgfnoinkajfndaaGreatADraw2
import Derived.Test.YtgfnoinkajfndaaGreatAHold1
import Derived.Test.YtgfnoinkajfndaaGreatABase1
/- Plain facts on reaching, for the drawn laws. -/
namespace Go.Proofs.YtgfnoinkajfndaaGreat

end Go.Proofs.YtgfnoinkajfndaaGreat
/- Plain facts on cycles, for the drawn laws. -/
namespace Go.Proofs.YtgfnoinkajfndaaGreat

theorem al_ct {hl : List Int} {v : Int} (h : alB hl v = true) : 0 ≤ ct hl v := by simpa [alB] using h

end Go.Proofs.YtgfnoinkajfndaaGreat
/- Plain facts on garbage, for the drawn laws. -/
namespace Go.Proofs.YtgfnoinkajfndaaGreat

end Go.Proofs.YtgfnoinkajfndaaGreat
/- Walks: small helpers of the drawn laws; reading a cell; tests. -/
namespace Go.Proofs.YtgfnoinkajfndaaGreat
open Go.RowKit

end Go.Proofs.YtgfnoinkajfndaaGreat
/- Walks: tests of facts. -/
namespace Go.Proofs.YtgfnoinkajfndaaGreat
open Go.RowKit

theorem bytes_form {w : World} {v : Value} {n : Nat} (h : RBytes w v n) : ∃ a cap, v = .slice a n cap := by
  obtain ⟨_, hr, _⟩ := h
  rcases hr with ⟨a, cap, rfl, h0, _⟩ | ⟨b, o, cap, rfl, _⟩
  · exact ⟨a, cap, by rw [h0]⟩
  · exact ⟨_, cap, rfl⟩

set_option maxHeartbeats 400000 in
theorem factValid_any (q : Bool) (a b : Int) (w : World) :
    Calls Tryz.prog 118 #[.agg #[.bool q, .int .i64 a, .int .i64 b]] w fun e w' => e = .returned (.bool (isTermB a && isTermB b)) ∧ Below w.heap.size w w' := by
  by_cases ha : isTermB a = true
  · go_enter Tryz.func118, Tryz.ntmps118
    go_wp2_with (go_at_call 119; refine (isTerm_any _ _).mono ?_; rintro e w' ⟨rfl, rfl⟩)
    go_ret
    exact ⟨by rw [ha]; rfl, below_alloc _ _⟩
  · have ha' : isTermB a = false := by simpa using ha
    clear ha
    go_enter Tryz.func118, Tryz.ntmps118
    go_wp2_with (go_at_call 119; refine (isTerm_any _ _).mono ?_; rintro e w' ⟨rfl, rfl⟩)
    go_ret
    exact ⟨by rw [ha']; rfl, below_alloc _ _⟩
def testB (vl hl : List Int) (q : Bool) (a b : Int) : Bool := validB vl hl && (isTermB a && isTermB b) && ((tv vl a == tv vl b) == q)
set_option maxHeartbeats 800000 in
theorem testHolds_any (vs hv : Value) (vl hl : List Int) (q : Bool) (a b : Int) (w : World) (h1 : RInts w vs vl) (h2 : RInts w hv hl) :
    Calls Tryz.prog 134 #[.agg #[vs, hv], .agg #[.bool q, .int .i64 a, .int .i64 b]] w fun e w' => e = .returned (.bool (testB vl hl q a b)) ∧ Below w.heap.size w w' := by
  by_cases hv1 : validB vl hl = true
  · have hlen := (valid_len hv1).1
    have HLEN := Lib.hid hlen
    clear hlen
    by_cases hf : (isTermB a && isTermB b) = true
    · have hr : testB vl hl q a b = ((tv vl a == tv vl b) == q) := by unfold testB; rw [hv1, hf]; rfl
      have ht : isTermB a = true ∧ isTermB b = true := by simpa using hf
      have hta := isTermB_iff.1 ht.1
      have htb := isTermB_iff.1 ht.2
      have HR := Lib.hid hr
      clear hr ht
      go_enter Tryz.func134, Tryz.ntmps134
      go_wp2_with fail
      refine (stateValid_any _ _ vl hl _ ((h1.alloc _).alloc _) ((h2.alloc _).alloc _)).mono ?_
      rintro e w1 ⟨rfl, hb1⟩
      have hb01 := bt (bt (below_alloc w _) (below_alloc _ _)) hb1
      have hc0 := cell_keep hb1 (p := ⟨w.heap.size, 0, none⟩) (v := vs) (by simp [go_sem])
      have hc1 := cell_keep hb1 (p := ⟨w.heap.size, 1, none⟩) (v := hv) (by simp [go_sem])
      have hd0 := cell_keep hb1 (p := ⟨w.heap.size + 1, 0, none⟩) (v := .bool q) (by simp [go_sem])
      have hd1 := cell_keep hb1 (p := ⟨w.heap.size + 1, 1, none⟩) (v := .int .i64 a) (by simp [go_sem])
      have hd2 := cell_keep hb1 (p := ⟨w.heap.size + 1, 2, none⟩) (v := .int .i64 b) (by simp [go_sem])
      have hz1 : w.heap.size + 1 < w1.heap.size := by have := hb1.size; simp at this; omega
      have hz0 : w.heap.size < w1.heap.size := by omega
      clear hb1
      go_wp2_with fail
      refine (factValid_any q a b _).mono ?_
      rintro e w2 ⟨rfl, hb2⟩
      replace hc0 := cell_keep hb2 hc0
      replace hc1 := cell_keep hb2 hc1
      replace hd0 := cell_keep hb2 hd0
      replace hd1 := cell_keep hb2 hd1
      replace hd2 := cell_keep hb2 hd2
      replace hb01 := bt hb01 hb2
      replace hz0 : w.heap.size < w2.heap.size := by have := hb2.size; omega
      replace hz1 : w.heap.size + 1 < w2.heap.size := by have := hb2.size; omega
      have q1 := h1.keep hb01
      clear hb2
      go_wp2
      refine wp_region_ext (by kernel_rfl) (by kernel_rfl) ?_
      repeat (go_big_quiet_step ((go_at_call 160; exact ext_same (termValue_any _ vl _ _ (q1.ext _) (by omega) (by rw [HLEN.out]; omega)))))
      refine wpQuiet_nil ?_
      intro w3 hb3
      go_wp2
      go_ret
      exact ⟨by rw [HR.out]; rfl, bt hb01 hb3⟩
    · have hf' : (isTermB a && isTermB b) = false := by simpa using hf
      have hr : testB vl hl q a b = false := by unfold testB; rw [hf', Bool.and_false]; rfl
      have HR := Lib.hid hr
      clear hr hf
      go_enter Tryz.func134, Tryz.ntmps134
      go_wp2_with fail
      refine (stateValid_any _ _ vl hl _ ((h1.alloc _).alloc _) ((h2.alloc _).alloc _)).mono ?_
      rintro e w1 ⟨rfl, hb1⟩
      have hb01 := bt (bt (below_alloc w _) (below_alloc _ _)) hb1
      have hd0 := cell_keep hb1 (p := ⟨w.heap.size + 1, 0, none⟩) (v := .bool q) (by simp [go_sem])
      have hd1 := cell_keep hb1 (p := ⟨w.heap.size + 1, 1, none⟩) (v := .int .i64 a) (by simp [go_sem])
      have hd2 := cell_keep hb1 (p := ⟨w.heap.size + 1, 2, none⟩) (v := .int .i64 b) (by simp [go_sem])
      clear hb1
      go_wp2_with fail
      refine (factValid_any q a b _).mono ?_
      rintro e w2 ⟨rfl, hb2⟩
      replace hb01 := bt hb01 hb2
      clear hb2 hd0 hd1 hd2
      go_wp2
      go_ret
      exact ⟨by rw [HR.out]; rfl, hb01⟩
  · have hv2 : validB vl hl = false := by simpa using hv1
    have hr : testB vl hl q a b = false := by unfold testB; rw [hv2]; rfl
    have HR := Lib.hid hr
    clear hr hv1
    go_enter Tryz.func134, Tryz.ntmps134
    go_wp2_with fail
    refine (stateValid_any _ _ vl hl _ ((h1.alloc _).alloc _) ((h2.alloc _).alloc _)).mono ?_
    rintro e w1 ⟨rfl, hb1⟩
    have hb01 := bt (bt (below_alloc w _) (below_alloc _ _)) hb1
    clear hb1
    go_wp2
    go_ret
    exact ⟨by rw [HR.out]; rfl, hb01⟩
theorem testHolds_eq (vs hv : Value) (vl hl : List Int) (q : Bool) (a b : Int) (r : Bool) (w : World) (h1 : RInts w vs vl) (h2 : RInts w hv hl) (hb : testB vl hl q a b = r) :
    Calls Tryz.prog 134 #[.agg #[vs, hv], .agg #[.bool q, .int .i64 a, .int .i64 b]] w fun e w' => e = .returned (.bool r) ∧ Below w.heap.size w w' := by
  rw [← hb]; exact testHolds_any vs hv vl hl q a b w h1 h2
end Go.Proofs.YtgfnoinkajfndaaGreat
/- Walks: a walk that never ends. -/
namespace Go.Proofs.YtgfnoinkajfndaaGreat
open Go.RowKit

end Go.Proofs.YtgfnoinkajfndaaGreat
/- Walks: the way from an address to another one. -/
namespace Go.Proofs.YtgfnoinkajfndaaGreat
open Go.RowKit

/-- The way to t, at most k cells long. -/
def wayN (hs : List Int) (t : Int) : Nat → Int → Option (List Int)
  | 0, a => if a = t then some [] else none
  | k + 1, a => if a = t then some [] else if alB hs a = true then (wayN hs t k (ct hs a)).map (a :: ·) else none
def wayB (hs : List Int) (f t : Int) : Bool := (wayN hs t 8 f).isSome
end Go.Proofs.YtgfnoinkajfndaaGreat
/- Walks: the way from an address to another one: the reference. -/
namespace Go.Proofs.YtgfnoinkajfndaaGreat
open Go.RowKit

end Go.Proofs.YtgfnoinkajfndaaGreat
/- Perms: texts Perm, Perm2, Perm3 in one. -/
/- Names of addresses, in plain Lean: permutations of the numbers from 1 to 8. -/
namespace Go.Proofs.YtgfnoinkajfndaaGreat

/-- The set of the first k names. -/
def seenN (ns : List Int) : Nat → Nat
  | 0 => 0
  | k + 1 => seenN ns k ||| 2 ^ (gi ns k).toNat
/-- The first k names are addresses and different. -/
def goodTo (ns : List Int) : Nat → Bool
  | 0 => true
  | k + 1 => goodTo ns k && (isAddrB (gi ns k) && !hasB (seenN ns k) (gi ns k))
def namesB (ns : List Int) : Bool := (ns.length == 8) && goodTo ns 8

theorem good_le {ns : List Int} : ∀ {k m : Nat}, k ≤ m → goodTo ns m = true → goodTo ns k = true
  | k, 0, h, hg => by
    obtain rfl : k = 0 := by omega
    exact hg
  | k, m + 1, h, hg => by
    by_cases e : k = m + 1
    · rw [e]; exact hg
    · simp only [goodTo, Bool.and_eq_true] at hg
      exact good_le (by omega) hg.1
theorem good_addr {ns : List Int} {k m : Nat} (h : k < m) (hg : goodTo ns m = true) : 1 ≤ gi ns k ∧ gi ns k ≤ 8 := by
  have := good_le (show k + 1 ≤ m from h) hg
  simp only [goodTo, Bool.and_eq_true] at this
  exact isAddrB_iff.1 this.2.1
theorem seen_lt {ns : List Int} : ∀ {k : Nat}, goodTo ns k = true → seenN ns k < 65536
  | 0, _ => by simp [seenN]
  | k + 1, hg => by
    have := good_addr (Nat.lt_succ_self k) hg
    exact or_lt _ _ (seen_lt (good_le (Nat.le_succ k) hg)) (by omega)
theorem seen_bit {ns : List Int} (p : Nat) : ∀ {k : Nat}, (seenN ns k).testBit p = true ↔ ∃ j, j < k ∧ (gi ns j).toNat = p
  | 0 => by simp [seenN]
  | k + 1 => by
    rw [seenN, testBit_or_pow, Bool.or_eq_true, seen_bit (ns := ns) p (k := k), decide_eq_true_eq]
    constructor
    · rintro (⟨j, h1, h2⟩ | h)
      · exact ⟨j, by omega, h2⟩
      · exact ⟨k, by omega, h⟩
    · rintro ⟨j, h1, h2⟩
      by_cases e : j = k
      · subst e; exact .inr h2
      · exact .inl ⟨j, by omega, h2⟩
theorem good_inj {ns : List Int} {i j m : Nat} (hi : i < j) (hj : j < m) (hg : goodTo ns m = true) : ¬ gi ns i = gi ns j := by
  have h := good_le (show j + 1 ≤ m from hj) hg
  simp only [goodTo, Bool.and_eq_true, Bool.not_eq_true'] at h
  have ha := good_addr hj hg
  intro e
  have hb : (seenN ns j).testBit (gi ns j).toNat = true := (seen_bit _).2 ⟨i, hi, by rw [e]⟩
  have : hasB (seenN ns j) (gi ns j) = true := by rw [hasB, hb, h.2.1]; rfl
  rw [this] at h
  exact absurd h.2.2 (by simp)
theorem good_inj' {ns : List Int} {i j m : Nat} (hi : i < m) (hj : j < m) (hg : goodTo ns m = true) (e : gi ns i = gi ns j) : i = j := by
  rcases Nat.lt_trichotomy i j with h | h | h
  · exact absurd e (good_inj h hj hg)
  · exact h
  · exact absurd e.symm (good_inj h hi hg)
theorem seen_cnt {ns : List Int} : ∀ {k : Nat}, goodTo ns k = true → k ≤ cnt (seenN ns k)
  | 0, _ => Nat.zero_le _
  | k + 1, hg => by
    have ih := seen_cnt (good_le (Nat.le_succ k) hg)
    have ha := good_addr (Nat.lt_succ_self k) hg
    have hn : (seenN ns k).testBit (gi ns k).toNat = false := by
      cases hh : (seenN ns k).testBit (gi ns k).toNat with
      | false => rfl
      | true =>
        obtain ⟨j, h1, h2⟩ := (seen_bit _).1 hh
        have hb := good_addr (show j < k + 1 by omega) hg
        exact absurd (show gi ns j = gi ns k by omega) (good_inj h1 (Nat.lt_succ_self k) hg)
    have := cnt_or (seenN ns k) (gi ns k).toNat (by omega) (by omega) hn
    rw [seenN]; omega
/-- Each address is a name. -/
theorem good_surj {ns : List Int} (hg : goodTo ns 8 = true) {p : Nat} (h1 : 1 ≤ p) (h8 : p ≤ 8) : ∃ j, j < 8 ∧ gi ns j = (p : Int) := by
  have hc := seen_cnt hg
  have hf : (List.range' 1 8).filter (fun n => (seenN ns 8).testBit n) = List.range' 1 8 := by
    have hs : List.Sublist ((List.range' 1 8).filter (fun n => (seenN ns 8).testBit n)) (List.range' 1 8) := List.filter_sublist
    refine hs.eq_of_length_le ?_
    rw [List.length_range']
    exact hc
  have hm : p ∈ (List.range' 1 8).filter (fun n => (seenN ns 8).testBit n) := by
    rw [hf, List.mem_range'_1]; omega
  obtain ⟨j, h1, h2⟩ := (seen_bit _).1 (List.mem_filter.1 hm).2
  have := good_addr h1 hg
  exact ⟨j, h1, by omega⟩

/-- A value by its new name. -/
def nm (ns : List Int) (v : Int) : Int := if isAddrB v = true then gi ns (v - 1).toNat else v
theorem nm_addr {ns : List Int} (hg : goodTo ns 8 = true) {v : Int} (h : isAddrB v = true) : 1 ≤ nm ns v ∧ nm ns v ≤ 8 := by
  have := isAddrB_iff.1 h
  rw [nm, if_pos h]
  exact good_addr (by omega) hg
theorem nm_val {ns : List Int} (hg : goodTo ns 8 = true) {v : Int} (h1 : -1 ≤ v) (h8 : v ≤ 8) : -1 ≤ nm ns v ∧ nm ns v ≤ 8 ∧ (0 ≤ v → 0 ≤ nm ns v) ∧ (0 ≤ nm ns v → 0 ≤ v) := by
  by_cases h : isAddrB v = true
  · have := nm_addr hg h
    have := isAddrB_iff.1 h
    omega
  · rw [nm, if_neg h]; omega
theorem nm_inj {ns : List Int} (hg : goodTo ns 8 = true) {u v : Int} (hu8 : u ≤ 8) (hv8 : v ≤ 8) (e : nm ns u = nm ns v) : u = v := by
  by_cases hu : isAddrB u = true
  · have hu' := isAddrB_iff.1 hu
    have au := nm_addr hg hu
    by_cases hv : isAddrB v = true
    · have hv' := isAddrB_iff.1 hv
      rw [nm, nm, if_pos hu, if_pos hv] at e
      have := good_inj' (by omega) (by omega) hg e
      omega
    · rw [isAddrB_iff] at hv
      rw [show nm ns v = v by rw [nm, if_neg (by rwa [isAddrB_iff])]] at e
      omega
  · by_cases hv : isAddrB v = true
    · have av := nm_addr hg hv
      rw [isAddrB_iff] at hu
      rw [show nm ns u = u by rw [nm, if_neg (by rwa [isAddrB_iff])]] at e
      omega
    · rwa [nm, nm, if_neg hu, if_neg hv] at e

/-- The heap by its new names: k cells laid over `base`. -/
def renHn (ns hs base : List Int) : Nat → List Int
  | 0 => base
  | k + 1 => (renHn ns hs base k).set (gi ns k - 1).toNat (nm ns (gi hs k))
theorem renHn_len (ns hs base : List Int) : ∀ k, (renHn ns hs base k).length = base.length
  | 0 => rfl
  | k + 1 => by rw [renHn, List.length_set, renHn_len]
theorem gi_set {l : List Int} {i j : Nat} (hi : i < l.length) (x : Int) : gi (l.set i x) j = if i = j then x else gi l j := by
  unfold gi
  rw [List.getD_eq_getElem?_getD, List.getD_eq_getElem?_getD, List.getElem?_set]
  split
  · subst_vars; simp_all
  · rfl
theorem renHn_at {ns hs base : List Int} (hb : base.length = 8) (hg : goodTo ns 8 = true) {j : Nat} : ∀ {k : Nat}, k ≤ 8 → j < k → gi (renHn ns hs base k) (gi ns j - 1).toNat = nm ns (gi hs j)
  | 0, _, h => by omega
  | k + 1, h8, h => by
    have hk := good_addr (show k < 8 by omega) hg
    have hj := good_addr (show j < 8 by omega) hg
    rw [renHn, gi_set (by rw [renHn_len]; omega)]
    by_cases e : j = k
    · subst e; rw [if_pos rfl]
    · have := good_inj (ns := ns) (i := j) (j := k) (m := 8) (by omega) (by omega) hg
      rw [if_neg (by omega)]
      exact renHn_at hb hg (by omega) (by omega)
theorem gi_ext {a b : List Int} (h : a.length = b.length) (hi : ∀ i, i < a.length → gi a i = gi b i) : a = b := by
  refine List.ext_getElem h fun i h1 h2 => ?_
  have := hi i h1
  rwa [gi_of h1, gi_of h2] at this
def renV (ns vs : List Int) : List Int := vs.map (nm ns)
def renH (ns hs : List Int) : List Int := renHn ns hs hs 8
theorem renH_at {ns hs : List Int} (hb : hs.length = 8) (hg : goodTo ns 8 = true) {j : Nat} (hj : j < 8) : gi (renH ns hs) (gi ns j - 1).toNat = nm ns (gi hs j) := renHn_at hb hg (Nat.le_refl 8) hj
theorem renH_len (ns hs : List Int) : (renH ns hs).length = hs.length := renHn_len _ _ _ _
theorem renV_len (ns vs : List Int) : (renV ns vs).length = vs.length := by simp [renV]
theorem gi_renV {ns vs : List Int} {i : Nat} (h : i < vs.length) : gi (renV ns vs) i = nm ns (gi vs i) := by
  rw [gi_of (by rw [renV_len]; exact h), gi_of h]; simp [renV]
end Go.Proofs.YtgfnoinkajfndaaGreat
/- Names of addresses, in plain Lean: the names back; renamed states are valid; as many cells. -/
namespace Go.Proofs.YtgfnoinkajfndaaGreat

theorem valid_of {vl hl : List Int} (h1 : vl.length = 8) (h2 : hl.length = 8) (h3 : ∀ i, i < 8 → 0 ≤ gi vl i ∧ gi vl i ≤ 8) (h4 : ∀ i, i < 8 → -1 ≤ gi hl i ∧ gi hl i ≤ 8) : validB vl hl = true := by
  simp only [validB, Bool.and_eq_true, beq_iff_eq, h1, h2, List.all_eq_true]
  refine ⟨trivial, trivial, fun x hx => ?_, fun x hx => ?_⟩
  · obtain ⟨i, hi, rfl⟩ := List.getElem_of_mem hx
    rw [isTermB_iff, ← gi_of hi]
    exact h3 i (by omega)
  · obtain ⟨i, hi, rfl⟩ := List.getElem_of_mem hx
    rw [heapB_iff, ← gi_of hi]
    exact h4 i (by omega)
theorem valid_vat {vl hl : List Int} (h : validB vl hl = true) {i : Nat} (hi : i < 8) : 0 ≤ gi vl i ∧ gi vl i ≤ 8 := by
  have h1 := (valid_len h).1
  have := List.all_eq_true.1 (valid_all h).1 vl[i] (List.getElem_mem (by omega))
  rwa [isTermB_iff, ← gi_of] at this
theorem valid_hat {vl hl : List Int} (h : validB vl hl = true) {i : Nat} (hi : i < 8) : -1 ≤ gi hl i ∧ gi hl i ≤ 8 := by
  have h1 := (valid_len h).2
  have := List.all_eq_true.1 (valid_all h).2 hl[i] (List.getElem_mem (by omega))
  rwa [heapB_iff, ← gi_of] at this

/-- Each cell of a renamed heap. -/
theorem renH_all {ns hs : List Int} (hb : hs.length = 8) (hg : goodTo ns 8 = true) {i : Nat} (hi : i < 8) : ∃ j, j < 8 ∧ gi ns j = (i : Int) + 1 ∧ gi (renH ns hs) i = nm ns (gi hs j) := by
  obtain ⟨j, h1, h2⟩ := good_surj hg (p := i + 1) (by omega) (by omega)
  have := renH_at hb hg h1
  rw [show (gi ns j - 1).toNat = i by omega] at this
  exact ⟨j, h1, by omega, this⟩
theorem ren_valid {ns vl hl : List Int} (hg : goodTo ns 8 = true) (h : validB vl hl = true) : validB (renV ns vl) (renH ns hl) = true := by
  have hl1 := valid_len h
  refine valid_of (by rw [renV_len, hl1.1]) (by rw [renH_len, hl1.2]) (fun i hi => ?_) (fun i hi => ?_)
  · have hv := valid_vat h hi
    have := nm_val hg (v := gi vl i) (by omega) hv.2
    rw [gi_renV (by omega)]; omega
  · obtain ⟨j, h1, h2, h3⟩ := renH_all hl1.2 hg hi
    have hv := valid_hat h h1
    have := nm_val hg hv.1 hv.2
    rw [h3]; omega
end Go.Proofs.YtgfnoinkajfndaaGreat
/- Renamed heaps, in plain Lean: contents, allocated cells, how many. -/
namespace Go.Proofs.YtgfnoinkajfndaaGreat

theorem nm_isAddr {ns : List Int} (hg : goodTo ns 8 = true) (v : Int) : isAddrB (nm ns v) = isAddrB v := by
  by_cases h : isAddrB v = true
  · rw [h]; exact isAddrB_iff.2 (nm_addr hg h)
  · rw [nm, if_neg h]
theorem nm_not {ns : List Int} {v : Int} (h : ¬ isAddrB v = true) : nm ns v = v := by rw [nm, if_neg h]
theorem ct_ren {ns hl : List Int} (hb : hl.length = 8) (hg : goodTo ns 8 = true) (v : Int) : ct (renH ns hl) (nm ns v) = nm ns (ct hl v) := by
  by_cases h : isAddrB v = true
  · have hv := isAddrB_iff.1 h
    have e : nm ns v = gi ns (v - 1).toNat := by rw [nm, if_pos h]
    have := renH_at (hs := hl) hb hg (j := (v - 1).toNat) (by omega)
    rw [ct, nm_isAddr hg, if_pos h, e, this, ct, if_pos h]
  · rw [nm_not h, ct, if_neg h, ct, if_neg h, nm]
    rfl
theorem al_ren {ns vl hl : List Int} (h : validB vl hl = true) (hg : goodTo ns 8 = true) (v : Int) : alB (renH ns hl) (nm ns v) = alB hl v := by
  have hc := valid_ct h v
  have := nm_val hg hc.1 hc.2
  rw [alB, ct_ren (valid_len h).2 hg, alB, decide_eq_decide]
  exact ⟨this.2.2.2, this.2.2.1⟩

end Go.Proofs.YtgfnoinkajfndaaGreat
