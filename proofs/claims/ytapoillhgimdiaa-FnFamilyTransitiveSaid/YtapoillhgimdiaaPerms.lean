/- Perms: texts Perm, Perm2, Perm3 in one. -/
import Derived.Test.YtapoillhgimdiaaBase1
import Derived.Test.YtapoillhgimdiaaMath1
/- Names of addresses, in plain Lean: permutations of the numbers from 1 to 8. -/
namespace Go.Proofs.Ytapoillhgimdiaa

/-- The set of the first k names. -/
def seenN (ns : List Int) : Nat → Nat
  | 0 => 0
  | k + 1 => seenN ns k ||| 2 ^ (gi ns k).toNat
/-- The first k names are addresses and different. -/
def goodTo (ns : List Int) : Nat → Bool
  | 0 => true
  | k + 1 => goodTo ns k && (isAddrB (gi ns k) && !hasB (seenN ns k) (gi ns k))
def namesB (ns : List Int) : Bool := (ns.length == 8) && goodTo ns 8

theorem good_le {ns : List Int} : ∀ {k m : Nat}, k ≤ m → goodTo ns m = true → goodTo ns k = true
  | k, 0, h, hg => by
    obtain rfl : k = 0 := by omega
    exact hg
  | k, m + 1, h, hg => by
    by_cases e : k = m + 1
    · rw [e]; exact hg
    · simp only [goodTo, Bool.and_eq_true] at hg
      exact good_le (by omega) hg.1
theorem good_addr {ns : List Int} {k m : Nat} (h : k < m) (hg : goodTo ns m = true) : 1 ≤ gi ns k ∧ gi ns k ≤ 8 := by
  have := good_le (show k + 1 ≤ m from h) hg
  simp only [goodTo, Bool.and_eq_true] at this
  exact isAddrB_iff.1 this.2.1
theorem seen_lt {ns : List Int} : ∀ {k : Nat}, goodTo ns k = true → seenN ns k < 65536
  | 0, _ => by simp [seenN]
  | k + 1, hg => by
    have := good_addr (Nat.lt_succ_self k) hg
    exact or_lt _ _ (seen_lt (good_le (Nat.le_succ k) hg)) (by omega)
theorem seen_bit {ns : List Int} (p : Nat) : ∀ {k : Nat}, (seenN ns k).testBit p = true ↔ ∃ j, j < k ∧ (gi ns j).toNat = p
  | 0 => by simp [seenN]
  | k + 1 => by
    rw [seenN, testBit_or_pow, Bool.or_eq_true, seen_bit (ns := ns) p (k := k), decide_eq_true_eq]
    constructor
    · rintro (⟨j, h1, h2⟩ | h)
      · exact ⟨j, by omega, h2⟩
      · exact ⟨k, by omega, h⟩
    · rintro ⟨j, h1, h2⟩
      by_cases e : j = k
      · subst e; exact .inr h2
      · exact .inl ⟨j, by omega, h2⟩
theorem good_inj {ns : List Int} {i j m : Nat} (hi : i < j) (hj : j < m) (hg : goodTo ns m = true) : ¬ gi ns i = gi ns j := by
  have h := good_le (show j + 1 ≤ m from hj) hg
  simp only [goodTo, Bool.and_eq_true, Bool.not_eq_true'] at h
  have ha := good_addr hj hg
  intro e
  have hb : (seenN ns j).testBit (gi ns j).toNat = true := (seen_bit _).2 ⟨i, hi, by rw [e]⟩
  have : hasB (seenN ns j) (gi ns j) = true := by rw [hasB, hb, h.2.1]; rfl
  rw [this] at h
  exact absurd h.2.2 (by simp)
theorem good_inj' {ns : List Int} {i j m : Nat} (hi : i < m) (hj : j < m) (hg : goodTo ns m = true) (e : gi ns i = gi ns j) : i = j := by
  rcases Nat.lt_trichotomy i j with h | h | h
  · exact absurd e (good_inj h hj hg)
  · exact h
  · exact absurd e.symm (good_inj h hi hg)
theorem seen_cnt {ns : List Int} : ∀ {k : Nat}, goodTo ns k = true → k ≤ cnt (seenN ns k)
  | 0, _ => Nat.zero_le _
  | k + 1, hg => by
    have ih := seen_cnt (good_le (Nat.le_succ k) hg)
    have ha := good_addr (Nat.lt_succ_self k) hg
    have hn : (seenN ns k).testBit (gi ns k).toNat = false := by
      cases hh : (seenN ns k).testBit (gi ns k).toNat with
      | false => rfl
      | true =>
        obtain ⟨j, h1, h2⟩ := (seen_bit _).1 hh
        have hb := good_addr (show j < k + 1 by omega) hg
        exact absurd (show gi ns j = gi ns k by omega) (good_inj h1 (Nat.lt_succ_self k) hg)
    have := cnt_or (seenN ns k) (gi ns k).toNat (by omega) (by omega) hn
    rw [seenN]; omega
/-- Each address is a name. -/
theorem good_surj {ns : List Int} (hg : goodTo ns 8 = true) {p : Nat} (h1 : 1 ≤ p) (h8 : p ≤ 8) : ∃ j, j < 8 ∧ gi ns j = (p : Int) := by
  have hc := seen_cnt hg
  have hf : (List.range' 1 8).filter (fun n => (seenN ns 8).testBit n) = List.range' 1 8 := by
    have hs : List.Sublist ((List.range' 1 8).filter (fun n => (seenN ns 8).testBit n)) (List.range' 1 8) := List.filter_sublist
    refine hs.eq_of_length_le ?_
    rw [List.length_range']
    exact hc
  have hm : p ∈ (List.range' 1 8).filter (fun n => (seenN ns 8).testBit n) := by
    rw [hf, List.mem_range'_1]; omega
  obtain ⟨j, h1, h2⟩ := (seen_bit _).1 (List.mem_filter.1 hm).2
  have := good_addr h1 hg
  exact ⟨j, h1, by omega⟩

/-- A value by its new name. -/
def nm (ns : List Int) (v : Int) : Int := if isAddrB v = true then gi ns (v - 1).toNat else v
theorem nm_addr {ns : List Int} (hg : goodTo ns 8 = true) {v : Int} (h : isAddrB v = true) : 1 ≤ nm ns v ∧ nm ns v ≤ 8 := by
  have := isAddrB_iff.1 h
  rw [nm, if_pos h]
  exact good_addr (by omega) hg
theorem nm_val {ns : List Int} (hg : goodTo ns 8 = true) {v : Int} (h1 : -1 ≤ v) (h8 : v ≤ 8) : -1 ≤ nm ns v ∧ nm ns v ≤ 8 ∧ (0 ≤ v → 0 ≤ nm ns v) ∧ (0 ≤ nm ns v → 0 ≤ v) := by
  by_cases h : isAddrB v = true
  · have := nm_addr hg h
    have := isAddrB_iff.1 h
    omega
  · rw [nm, if_neg h]; omega
theorem nm_inj {ns : List Int} (hg : goodTo ns 8 = true) {u v : Int} (hu8 : u ≤ 8) (hv8 : v ≤ 8) (e : nm ns u = nm ns v) : u = v := by
  by_cases hu : isAddrB u = true
  · have hu' := isAddrB_iff.1 hu
    have au := nm_addr hg hu
    by_cases hv : isAddrB v = true
    · have hv' := isAddrB_iff.1 hv
      rw [nm, nm, if_pos hu, if_pos hv] at e
      have := good_inj' (by omega) (by omega) hg e
      omega
    · rw [isAddrB_iff] at hv
      rw [show nm ns v = v by rw [nm, if_neg (by rwa [isAddrB_iff])]] at e
      omega
  · by_cases hv : isAddrB v = true
    · have av := nm_addr hg hv
      rw [isAddrB_iff] at hu
      rw [show nm ns u = u by rw [nm, if_neg (by rwa [isAddrB_iff])]] at e
      omega
    · rwa [nm, nm, if_neg hu, if_neg hv] at e

/-- The heap by its new names: k cells laid over `base`. -/
def renHn (ns hs base : List Int) : Nat → List Int
  | 0 => base
  | k + 1 => (renHn ns hs base k).set (gi ns k - 1).toNat (nm ns (gi hs k))
theorem renHn_len (ns hs base : List Int) : ∀ k, (renHn ns hs base k).length = base.length
  | 0 => rfl
  | k + 1 => by rw [renHn, List.length_set, renHn_len]
theorem gi_set {l : List Int} {i j : Nat} (hi : i < l.length) (x : Int) : gi (l.set i x) j = if i = j then x else gi l j := by
  unfold gi
  rw [List.getD_eq_getElem?_getD, List.getD_eq_getElem?_getD, List.getElem?_set]
  split
  · subst_vars; simp_all
  · rfl
theorem renHn_at {ns hs base : List Int} (hb : base.length = 8) (hg : goodTo ns 8 = true) {j : Nat} : ∀ {k : Nat}, k ≤ 8 → j < k → gi (renHn ns hs base k) (gi ns j - 1).toNat = nm ns (gi hs j)
  | 0, _, h => by omega
  | k + 1, h8, h => by
    have hk := good_addr (show k < 8 by omega) hg
    have hj := good_addr (show j < 8 by omega) hg
    rw [renHn, gi_set (by rw [renHn_len]; omega)]
    by_cases e : j = k
    · subst e; rw [if_pos rfl]
    · have := good_inj (ns := ns) (i := j) (j := k) (m := 8) (by omega) (by omega) hg
      rw [if_neg (by omega)]
      exact renHn_at hb hg (by omega) (by omega)
theorem gi_ext {a b : List Int} (h : a.length = b.length) (hi : ∀ i, i < a.length → gi a i = gi b i) : a = b := by
  refine List.ext_getElem h fun i h1 h2 => ?_
  have := hi i h1
  rwa [gi_of h1, gi_of h2] at this
theorem renHn_base {ns hs base base' : List Int} (hb : base.length = 8) (hb' : base'.length = 8) (hg : goodTo ns 8 = true) : renHn ns hs base 8 = renHn ns hs base' 8 := by
  refine gi_ext (by rw [renHn_len, renHn_len, hb, hb']) fun i hi => ?_
  rw [renHn_len, hb] at hi
  obtain ⟨j, h1, h2⟩ := good_surj hg (p := i + 1) (by omega) (by omega)
  have e : (gi ns j - 1).toNat = i := by omega
  rw [← e, renHn_at hb hg (Nat.le_refl 8) h1, renHn_at hb' hg (Nat.le_refl 8) h1]

def renV (ns vs : List Int) : List Int := vs.map (nm ns)
def renH (ns hs : List Int) : List Int := renHn ns hs hs 8
theorem renH_at {ns hs : List Int} (hb : hs.length = 8) (hg : goodTo ns 8 = true) {j : Nat} (hj : j < 8) : gi (renH ns hs) (gi ns j - 1).toNat = nm ns (gi hs j) := renHn_at hb hg (Nat.le_refl 8) hj
theorem renH_len (ns hs : List Int) : (renH ns hs).length = hs.length := renHn_len _ _ _ _
theorem renV_len (ns vs : List Int) : (renV ns vs).length = vs.length := by simp [renV]
theorem gi_renV {ns vs : List Int} {i : Nat} (h : i < vs.length) : gi (renV ns vs) i = nm ns (gi vs i) := by
  rw [gi_of (by rw [renV_len]; exact h), gi_of h]; simp [renV]
end Go.Proofs.Ytapoillhgimdiaa
/- Names of addresses, in plain Lean: the names back; renamed states are valid; as many cells. -/
namespace Go.Proofs.Ytapoillhgimdiaa

theorem good_of {ns : List Int} : ∀ {m : Nat}, (∀ i, i < m → 1 ≤ gi ns i ∧ gi ns i ≤ 8) → (∀ i j, i < j → j < m → ¬ gi ns i = gi ns j) → goodTo ns m = true
  | 0, _, _ => rfl
  | m + 1, ha, hd => by
    have ih := good_of (ns := ns) (m := m) (fun i hi => ha i (by omega)) (fun i j hi hj => hd i j hi (by omega))
    have h1 : isAddrB (gi ns m) = true := isAddrB_iff.2 (ha m (Nat.lt_succ_self m))
    have h2 : hasB (seenN ns m) (gi ns m) = false := by
      cases h : hasB (seenN ns m) (gi ns m) with
      | false => rfl
      | true =>
        rw [hasB, h1, Bool.true_and] at h
        obtain ⟨j, hj, e⟩ := (seen_bit _).1 h
        have := ha j (by omega)
        have := ha m (Nat.lt_succ_self m)
        exact absurd (show gi ns j = gi ns m by omega) (hd j m hj (Nat.lt_succ_self m))
    rw [goodTo, ih, h1, h2]; rfl

/-- The names back: k of them. -/
def backN (ns : List Int) : Nat → List Int
  | 0 => List.replicate 8 0
  | k + 1 => (backN ns k).set (gi ns k - 1).toNat ((k : Int) + 1)
theorem backN_len (ns : List Int) : ∀ k, (backN ns k).length = 8
  | 0 => by simp [backN]
  | k + 1 => by rw [backN, List.length_set, backN_len]
theorem backN_at {ns : List Int} (hg : goodTo ns 8 = true) {j : Nat} : ∀ {k : Nat}, k ≤ 8 → j < k → gi (backN ns k) (gi ns j - 1).toNat = (j : Int) + 1
  | 0, _, h => by omega
  | k + 1, h8, h => by
    have hk := good_addr (show k < 8 by omega) hg
    have hj := good_addr (show j < 8 by omega) hg
    rw [backN, gi_set (by rw [backN_len]; omega)]
    by_cases e : j = k
    · subst e; rw [if_pos rfl]
    · have : ¬ gi ns j = gi ns k := fun hh => e (good_inj' (m := 8) (by omega) (by omega) hg hh)
      rw [if_neg (by omega)]
      exact backN_at hg (by omega) (by omega)
/-- Each cell of the names back. -/
theorem back_all {ns : List Int} (hg : goodTo ns 8 = true) {i : Nat} (hi : i < 8) : ∃ j, j < 8 ∧ gi ns j = (i : Int) + 1 ∧ gi (backN ns 8) i = (j : Int) + 1 := by
  obtain ⟨j, h1, h2⟩ := good_surj hg (p := i + 1) (by omega) (by omega)
  have := backN_at hg (j := j) (Nat.le_refl 8) h1
  rw [show (gi ns j - 1).toNat = i by omega] at this
  exact ⟨j, h1, by omega, this⟩
theorem back_good {ns : List Int} (hg : goodTo ns 8 = true) : goodTo (backN ns 8) 8 = true := by
  refine good_of (fun i hi => ?_) (fun i j hi hj e => ?_)
  · obtain ⟨j, h1, _, h3⟩ := back_all hg hi
    omega
  · obtain ⟨a, a1, a2, a3⟩ := back_all hg (i := i) (by omega)
    obtain ⟨b, b1, b2, b3⟩ := back_all hg (i := j) (by omega)
    have : a = b := by omega
    subst this
    omega
theorem nm_back {ns : List Int} (hg : goodTo ns 8 = true) (v : Int) : nm (backN ns 8) (nm ns v) = v := by
  by_cases h : isAddrB v = true
  · have h' := isAddrB_iff.1 h
    have ha := nm_addr hg h
    rw [nm, if_pos (isAddrB_iff.2 ha)]
    rw [nm, if_pos h, backN_at hg (Nat.le_refl 8) (by omega)]
    omega
  · have e : nm ns v = v := by rw [nm, if_neg h]
    rw [e, nm, if_neg h]

theorem valid_of {vl hl : List Int} (h1 : vl.length = 8) (h2 : hl.length = 8) (h3 : ∀ i, i < 8 → 0 ≤ gi vl i ∧ gi vl i ≤ 8) (h4 : ∀ i, i < 8 → -1 ≤ gi hl i ∧ gi hl i ≤ 8) : validB vl hl = true := by
  simp only [validB, Bool.and_eq_true, beq_iff_eq, h1, h2, List.all_eq_true]
  refine ⟨trivial, trivial, fun x hx => ?_, fun x hx => ?_⟩
  · obtain ⟨i, hi, rfl⟩ := List.getElem_of_mem hx
    rw [isTermB_iff, ← gi_of hi]
    exact h3 i (by omega)
  · obtain ⟨i, hi, rfl⟩ := List.getElem_of_mem hx
    rw [heapB_iff, ← gi_of hi]
    exact h4 i (by omega)
theorem valid_vat {vl hl : List Int} (h : validB vl hl = true) {i : Nat} (hi : i < 8) : 0 ≤ gi vl i ∧ gi vl i ≤ 8 := by
  have h1 := (valid_len h).1
  have := List.all_eq_true.1 (valid_all h).1 vl[i] (List.getElem_mem (by omega))
  rwa [isTermB_iff, ← gi_of] at this
theorem valid_hat {vl hl : List Int} (h : validB vl hl = true) {i : Nat} (hi : i < 8) : -1 ≤ gi hl i ∧ gi hl i ≤ 8 := by
  have h1 := (valid_len h).2
  have := List.all_eq_true.1 (valid_all h).2 hl[i] (List.getElem_mem (by omega))
  rwa [heapB_iff, ← gi_of] at this

/-- Each cell of a renamed heap. -/
theorem renH_all {ns hs : List Int} (hb : hs.length = 8) (hg : goodTo ns 8 = true) {i : Nat} (hi : i < 8) : ∃ j, j < 8 ∧ gi ns j = (i : Int) + 1 ∧ gi (renH ns hs) i = nm ns (gi hs j) := by
  obtain ⟨j, h1, h2⟩ := good_surj hg (p := i + 1) (by omega) (by omega)
  have := renH_at hb hg h1
  rw [show (gi ns j - 1).toNat = i by omega] at this
  exact ⟨j, h1, by omega, this⟩
theorem ren_valid {ns vl hl : List Int} (hg : goodTo ns 8 = true) (h : validB vl hl = true) : validB (renV ns vl) (renH ns hl) = true := by
  have hl1 := valid_len h
  refine valid_of (by rw [renV_len, hl1.1]) (by rw [renH_len, hl1.2]) (fun i hi => ?_) (fun i hi => ?_)
  · have hv := valid_vat h hi
    have := nm_val hg (v := gi vl i) (by omega) hv.2
    rw [gi_renV (by omega)]; omega
  · obtain ⟨j, h1, h2, h3⟩ := renH_all hl1.2 hg hi
    have hv := valid_hat h h1
    have := nm_val hg hv.1 hv.2
    rw [h3]; omega
theorem renV_back {ns vl : List Int} (hg : goodTo ns 8 = true) : renV (backN ns 8) (renV ns vl) = vl := by
  unfold renV
  rw [List.map_map]
  have : nm (backN ns 8) ∘ nm ns = id := funext fun v => nm_back hg v
  rw [this, List.map_id]
theorem renH_back {ns hl : List Int} (hb : hl.length = 8) (hg : goodTo ns 8 = true) : renH (backN ns 8) (renH ns hl) = hl := by
  refine gi_ext (by rw [renH_len, renH_len]) fun i hi => ?_
  rw [renH_len, renH_len, hb] at hi
  obtain ⟨j, h1, h2, h3⟩ := renH_all (by rw [renH_len, hb]) (back_good hg) hi (hs := renH ns hl)
  rw [h3]
  obtain ⟨a, a1, a2, a3⟩ := back_all hg h1
  have ea : a = i := by omega
  subst ea
  obtain ⟨c, c1, c2, c3⟩ := renH_all hb hg h1
  have ec : c = a := good_inj' (m := 8) c1 a1 hg (by omega)
  subst ec
  rw [c3, nm_back hg]
end Go.Proofs.Ytapoillhgimdiaa
/- Renamed heaps, in plain Lean: contents, allocated cells, how many. -/
namespace Go.Proofs.Ytapoillhgimdiaa

theorem nm_isAddr {ns : List Int} (hg : goodTo ns 8 = true) (v : Int) : isAddrB (nm ns v) = isAddrB v := by
  by_cases h : isAddrB v = true
  · rw [h]; exact isAddrB_iff.2 (nm_addr hg h)
  · rw [nm, if_neg h]
theorem nm_not {ns : List Int} {v : Int} (h : ¬ isAddrB v = true) : nm ns v = v := by rw [nm, if_neg h]
theorem ct_ren {ns hl : List Int} (hb : hl.length = 8) (hg : goodTo ns 8 = true) (v : Int) : ct (renH ns hl) (nm ns v) = nm ns (ct hl v) := by
  by_cases h : isAddrB v = true
  · have hv := isAddrB_iff.1 h
    have e : nm ns v = gi ns (v - 1).toNat := by rw [nm, if_pos h]
    have := renH_at (hs := hl) hb hg (j := (v - 1).toNat) (by omega)
    rw [ct, nm_isAddr hg, if_pos h, e, this, ct, if_pos h]
  · rw [nm_not h, ct, if_neg h, ct, if_neg h, nm]
    rfl
theorem al_ren {ns vl hl : List Int} (h : validB vl hl = true) (hg : goodTo ns 8 = true) (v : Int) : alB (renH ns hl) (nm ns v) = alB hl v := by
  have hc := valid_ct h v
  have := nm_val hg hc.1 hc.2
  rw [alB, ct_ren (valid_len h).2 hg, alB, decide_eq_decide]
  exact ⟨this.2.2.2, this.2.2.1⟩

theorem sub_len : ∀ {a b : List Int}, a.Nodup → (∀ x ∈ a, x ∈ b) → a.length ≤ b.length
  | [], _, _, _ => Nat.zero_le _
  | x :: a, b, hn, hs => by
    have hx := hs x List.mem_cons_self
    have hn' := List.nodup_cons.1 hn
    have ih := sub_len (a := a) (b := b.erase x) hn'.2 (fun y hy => by
      have hne : ¬ y = x := fun e => hn'.1 (e ▸ hy)
      exact (List.mem_erase_of_ne hne).2 (hs y (List.mem_cons_of_mem _ hy)))
    rw [List.length_erase_of_mem hx] at ih
    have : 0 < b.length := List.length_pos_of_mem hx
    simp only [List.length_cons]
    omega

def usedA' (hs : List Int) : List Int := sel (fun n => alB hs (n : Int)) 1 8
theorem mem_used {hs : List Int} {v : Int} : v ∈ usedA' hs ↔ alB hs v = true := by
  unfold usedA'
  rw [mem_sel]
  constructor
  · rintro ⟨i, rfl, _, _, h⟩; exact h
  · intro h
    have := al_addr h
    exact ⟨v.toNat, by omega, by omega, by omega, by rw [show ((v.toNat : Nat) : Int) = v by omega]; exact h⟩
theorem map_nodup {ns : List Int} (hg : goodTo ns 8 = true) : ∀ {l : List Int}, (∀ x ∈ l, x ≤ 8) → l.Nodup → (l.map (nm ns)).Nodup
  | [], _, _ => by simp
  | x :: l, h8, hn => by
    have hn' := List.nodup_cons.1 hn
    rw [List.map_cons, List.nodup_cons]
    refine ⟨fun hm => ?_, map_nodup hg (fun y hy => h8 y (List.mem_cons_of_mem _ hy)) hn'.2⟩
    obtain ⟨y, hy, e⟩ := List.mem_map.1 hm
    have := nm_inj hg (h8 y (List.mem_cons_of_mem _ hy)) (h8 x List.mem_cons_self) e
    exact hn'.1 (this ▸ hy)
theorem used_le {ns vl hl : List Int} (h : validB vl hl = true) (hg : goodTo ns 8 = true) : (usedA' hl).length ≤ (usedA' (renH ns hl)).length := by
  rw [← List.length_map (nm ns)]
  refine sub_len (map_nodup hg (fun x hx => (al_addr (mem_used.1 hx)).2) (sel_nodup _ _ _)) (fun x hx => ?_)
  obtain ⟨y, hy, rfl⟩ := List.mem_map.1 hx
  rw [mem_used, al_ren h hg]
  exact mem_used.1 hy
/-- A renamed state has as many cells. -/
theorem used_ren {ns vl hl : List Int} (h : validB vl hl = true) (hg : goodTo ns 8 = true) : (usedA' (renH ns hl)).length = (usedA' hl).length := by
  have h1 := used_le h hg
  have h2 := used_le (ren_valid hg h) (back_good hg)
  rw [renH_back (valid_len h).2 hg] at h2
  omega
end Go.Proofs.Ytapoillhgimdiaa
