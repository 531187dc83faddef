/- Names of addresses, in plain Lean: permutations of the numbers from 1 to 8. -/
import Derived.Test.YtnhhfbhhglhocaaReach
namespace Go.Proofs.Ytnhhfbhhglhocaa

/-- The set of the first k names. -/
def seenN (ns : List Int) : Nat → Nat
  | 0 => 0
  | k + 1 => seenN ns k ||| 2 ^ (gi ns k).toNat
/-- The first k names are addresses and different. -/
def goodTo (ns : List Int) : Nat → Bool
  | 0 => true
  | k + 1 => goodTo ns k && (isAddrB (gi ns k) && !hasB (seenN ns k) (gi ns k))
def namesB (ns : List Int) : Bool := (ns.length == 8) && goodTo ns 8

theorem good_le {ns : List Int} : ∀ {k m : Nat}, k ≤ m → goodTo ns m = true → goodTo ns k = true
  | k, 0, h, hg => by
    obtain rfl : k = 0 := by omega
    exact hg
  | k, m + 1, h, hg => by
    by_cases e : k = m + 1
    · rw [e]; exact hg
    · simp only [goodTo, Bool.and_eq_true] at hg
      exact good_le (by omega) hg.1
theorem good_addr {ns : List Int} {k m : Nat} (h : k < m) (hg : goodTo ns m = true) : 1 ≤ gi ns k ∧ gi ns k ≤ 8 := by
  have := good_le (show k + 1 ≤ m from h) hg
  simp only [goodTo, Bool.and_eq_true] at this
  exact isAddrB_iff.1 this.2.1
theorem seen_lt {ns : List Int} : ∀ {k : Nat}, goodTo ns k = true → seenN ns k < 65536
  | 0, _ => by simp [seenN]
  | k + 1, hg => by
    have := good_addr (Nat.lt_succ_self k) hg
    exact or_lt _ _ (seen_lt (good_le (Nat.le_succ k) hg)) (by omega)
theorem seen_bit {ns : List Int} (p : Nat) : ∀ {k : Nat}, (seenN ns k).testBit p = true ↔ ∃ j, j < k ∧ (gi ns j).toNat = p
  | 0 => by simp [seenN]
  | k + 1 => by
    rw [seenN, testBit_or_pow, Bool.or_eq_true, seen_bit (ns := ns) p (k := k), decide_eq_true_eq]
    constructor
    · rintro (⟨j, h1, h2⟩ | h)
      · exact ⟨j, by omega, h2⟩
      · exact ⟨k, by omega, h⟩
    · rintro ⟨j, h1, h2⟩
      by_cases e : j = k
      · subst e; exact .inr h2
      · exact .inl ⟨j, by omega, h2⟩
theorem good_inj {ns : List Int} {i j m : Nat} (hi : i < j) (hj : j < m) (hg : goodTo ns m = true) : ¬ gi ns i = gi ns j := by
  have h := good_le (show j + 1 ≤ m from hj) hg
  simp only [goodTo, Bool.and_eq_true, Bool.not_eq_true'] at h
  have ha := good_addr hj hg
  intro e
  have hb : (seenN ns j).testBit (gi ns j).toNat = true := (seen_bit _).2 ⟨i, hi, by rw [e]⟩
  have : hasB (seenN ns j) (gi ns j) = true := by rw [hasB, hb, h.2.1]; rfl
  rw [this] at h
  exact absurd h.2.2 (by simp)
theorem good_inj' {ns : List Int} {i j m : Nat} (hi : i < m) (hj : j < m) (hg : goodTo ns m = true) (e : gi ns i = gi ns j) : i = j := by
  rcases Nat.lt_trichotomy i j with h | h | h
  · exact absurd e (good_inj h hj hg)
  · exact h
  · exact absurd e.symm (good_inj h hi hg)
theorem seen_cnt {ns : List Int} : ∀ {k : Nat}, goodTo ns k = true → k ≤ cnt (seenN ns k)
  | 0, _ => Nat.zero_le _
  | k + 1, hg => by
    have ih := seen_cnt (good_le (Nat.le_succ k) hg)
    have ha := good_addr (Nat.lt_succ_self k) hg
    have hn : (seenN ns k).testBit (gi ns k).toNat = false := by
      cases hh : (seenN ns k).testBit (gi ns k).toNat with
      | false => rfl
      | true =>
        obtain ⟨j, h1, h2⟩ := (seen_bit _).1 hh
        have hb := good_addr (show j < k + 1 by omega) hg
        exact absurd (show gi ns j = gi ns k by omega) (good_inj h1 (Nat.lt_succ_self k) hg)
    have := cnt_or (seenN ns k) (gi ns k).toNat (by omega) (by omega) hn
    rw [seenN]; omega
/-- Each address is a name. -/
theorem good_surj {ns : List Int} (hg : goodTo ns 8 = true) {p : Nat} (h1 : 1 ≤ p) (h8 : p ≤ 8) : ∃ j, j < 8 ∧ gi ns j = (p : Int) := by
  have hc := seen_cnt hg
  have hf : (List.range' 1 8).filter (fun n => (seenN ns 8).testBit n) = List.range' 1 8 := by
    have hs : List.Sublist ((List.range' 1 8).filter (fun n => (seenN ns 8).testBit n)) (List.range' 1 8) := List.filter_sublist
    refine hs.eq_of_length_le ?_
    rw [List.length_range']
    exact hc
  have hm : p ∈ (List.range' 1 8).filter (fun n => (seenN ns 8).testBit n) := by
    rw [hf, List.mem_range'_1]; omega
  obtain ⟨j, h1, h2⟩ := (seen_bit _).1 (List.mem_filter.1 hm).2
  have := good_addr h1 hg
  exact ⟨j, h1, by omega⟩

/-- A value by its new name. -/
def nm (ns : List Int) (v : Int) : Int := if isAddrB v = true then gi ns (v - 1).toNat else v
theorem nm_addr {ns : List Int} (hg : goodTo ns 8 = true) {v : Int} (h : isAddrB v = true) : 1 ≤ nm ns v ∧ nm ns v ≤ 8 := by
  have := isAddrB_iff.1 h
  rw [nm, if_pos h]
  exact good_addr (by omega) hg
theorem nm_val {ns : List Int} (hg : goodTo ns 8 = true) {v : Int} (h1 : -1 ≤ v) (h8 : v ≤ 8) : -1 ≤ nm ns v ∧ nm ns v ≤ 8 ∧ (0 ≤ v → 0 ≤ nm ns v) ∧ (0 ≤ nm ns v → 0 ≤ v) := by
  by_cases h : isAddrB v = true
  · have := nm_addr hg h
    have := isAddrB_iff.1 h
    omega
  · rw [nm, if_neg h]; omega
theorem nm_inj {ns : List Int} (hg : goodTo ns 8 = true) {u v : Int} (hu8 : u ≤ 8) (hv8 : v ≤ 8) (e : nm ns u = nm ns v) : u = v := by
  by_cases hu : isAddrB u = true
  · have hu' := isAddrB_iff.1 hu
    have au := nm_addr hg hu
    by_cases hv : isAddrB v = true
    · have hv' := isAddrB_iff.1 hv
      rw [nm, nm, if_pos hu, if_pos hv] at e
      have := good_inj' (by omega) (by omega) hg e
      omega
    · rw [isAddrB_iff] at hv
      rw [show nm ns v = v by rw [nm, if_neg (by rwa [isAddrB_iff])]] at e
      omega
  · by_cases hv : isAddrB v = true
    · have av := nm_addr hg hv
      rw [isAddrB_iff] at hu
      rw [show nm ns u = u by rw [nm, if_neg (by rwa [isAddrB_iff])]] at e
      omega
    · rwa [nm, nm, if_neg hu, if_neg hv] at e

/-- The heap by its new names: k cells laid over `base`. -/
def renHn (ns hs base : List Int) : Nat → List Int
  | 0 => base
  | k + 1 => (renHn ns hs base k).set (gi ns k - 1).toNat (nm ns (gi hs k))
theorem renHn_len (ns hs base : List Int) : ∀ k, (renHn ns hs base k).length = base.length
  | 0 => rfl
  | k + 1 => by rw [renHn, List.length_set, renHn_len]
theorem gi_set {l : List Int} {i j : Nat} (hi : i < l.length) (x : Int) : gi (l.set i x) j = if i = j then x else gi l j := by
  unfold gi
  rw [List.getD_eq_getElem?_getD, List.getD_eq_getElem?_getD, List.getElem?_set]
  split
  · subst_vars; simp_all
  · rfl
theorem renHn_at {ns hs base : List Int} (hb : base.length = 8) (hg : goodTo ns 8 = true) {j : Nat} : ∀ {k : Nat}, k ≤ 8 → j < k → gi (renHn ns hs base k) (gi ns j - 1).toNat = nm ns (gi hs j)
  | 0, _, h => by omega
  | k + 1, h8, h => by
    have hk := good_addr (show k < 8 by omega) hg
    have hj := good_addr (show j < 8 by omega) hg
    rw [renHn, gi_set (by rw [renHn_len]; omega)]
    by_cases e : j = k
    · subst e; rw [if_pos rfl]
    · have := good_inj (ns := ns) (i := j) (j := k) (m := 8) (by omega) (by omega) hg
      rw [if_neg (by omega)]
      exact renHn_at hb hg (by omega) (by omega)
theorem gi_ext {a b : List Int} (h : a.length = b.length) (hi : ∀ i, i < a.length → gi a i = gi b i) : a = b := by
  refine List.ext_getElem h fun i h1 h2 => ?_
  have := hi i h1
  rwa [gi_of h1, gi_of h2] at this
theorem renHn_base {ns hs base base' : List Int} (hb : base.length = 8) (hb' : base'.length = 8) (hg : goodTo ns 8 = true) : renHn ns hs base 8 = renHn ns hs base' 8 := by
  refine gi_ext (by rw [renHn_len, renHn_len, hb, hb']) fun i hi => ?_
  rw [renHn_len, hb] at hi
  obtain ⟨j, h1, h2⟩ := good_surj hg (p := i + 1) (by omega) (by omega)
  have e : (gi ns j - 1).toNat = i := by omega
  rw [← e, renHn_at hb hg (Nat.le_refl 8) h1, renHn_at hb' hg (Nat.le_refl 8) h1]

def renV (ns vs : List Int) : List Int := vs.map (nm ns)
def renH (ns hs : List Int) : List Int := renHn ns hs hs 8
theorem renH_at {ns hs : List Int} (hb : hs.length = 8) (hg : goodTo ns 8 = true) {j : Nat} (hj : j < 8) : gi (renH ns hs) (gi ns j - 1).toNat = nm ns (gi hs j) := renHn_at hb hg (Nat.le_refl 8) hj
theorem renH_len (ns hs : List Int) : (renH ns hs).length = hs.length := renHn_len _ _ _ _
theorem renV_len (ns vs : List Int) : (renV ns vs).length = vs.length := by simp [renV]
theorem gi_renV {ns vs : List Int} {i : Nat} (h : i < vs.length) : gi (renV ns vs) i = nm ns (gi vs i) := by
  rw [gi_of (by rw [renV_len]; exact h), gi_of h]; simp [renV]
end Go.Proofs.Ytnhhfbhhglhocaa
