/- Cans: texts Canon, Can1, Can2 in one. -/
import Derived.Test.YthoingdcmdhllaaPerms
import Derived.Test.YthoingdcmdhllaaRens
import Derived.Test.YthoingdcmdhllaaDraw2
import Derived.Deep.RegionHeld3
import Derived.Test.YthoingdcmdhllaaRens2
import Derived.Test.YthoingdcmdhllaaBase2
import Derived.Deep.MidRow
/- The order in which addresses are met, in plain Lean; canonical forms. -/
namespace Go.Proofs.Ythoingdcmdhllaa

def GoodL (l : List Int) : Prop := goodTo l l.length = true

theorem gi_app {l m : List Int} {j : Nat} : gi (l ++ m) j = if j < l.length then gi l j else gi m (j - l.length) := by
  unfold gi
  simp only [List.getD_eq_getElem?_getD, List.getElem?_append]
  split <;> rfl
theorem seen_app {l m : List Int} : ∀ {k : Nat}, k ≤ l.length → seenN (l ++ m) k = seenN l k
  | 0, _ => rfl
  | k + 1, h => by rw [seenN, seenN, seen_app (by omega), gi_app, if_pos (by omega)]
theorem good_app {l m : List Int} : ∀ {k : Nat}, k ≤ l.length → goodTo (l ++ m) k = goodTo l k
  | 0, _ => rfl
  | k + 1, h => by rw [goodTo, goodTo, good_app (by omega), gi_app, if_pos (by omega), seen_app (by omega)]
theorem goodL_nil : GoodL [] := rfl
theorem goodL_len {l : List Int} (h : GoodL l) : l.length ≤ 8 := Nat.le_trans (seen_cnt h) (cnt_le _)
theorem goodL_mem {l : List Int} (h : GoodL l) {v : Int} (hv : v ∈ l) : 1 ≤ v ∧ v ≤ 8 := by
  obtain ⟨i, hi, rfl⟩ := List.getElem_of_mem hv
  rw [← gi_of hi]
  exact good_addr hi h
theorem goodL_has {l : List Int} (h : GoodL l) {v : Int} (hv : isAddrB v = true) : hasB (seenN l l.length) v = decide (v ∈ l) := by
  have ha := isAddrB_iff.1 hv
  rw [hasB, hv, Bool.true_and, Bool.eq_iff_iff, seen_bit]
  simp only [decide_eq_true_eq]
  constructor
  · rintro ⟨j, h1, h2⟩
    have := good_addr h1 h
    rw [show v = gi l j by omega]
    exact gi_mem h1
  · intro hm
    obtain ⟨i, hi, rfl⟩ := List.getElem_of_mem hm
    exact ⟨i, hi, by rw [gi_of hi]⟩
theorem goodL_snoc {l : List Int} (h : GoodL l) {v : Int} (hv : isAddrB v = true) (hn : ¬ v ∈ l) : GoodL (l ++ [v]) := by
  unfold GoodL
  rw [show (l ++ [v]).length = l.length + 1 by simp, goodTo, good_app (Nat.le_refl _), gi_app, if_neg (by omega), seen_app (Nat.le_refl _)]
  have : gi [v] (l.length - l.length) = v := by simp [gi]
  rw [this, goodL_has h hv, hv, h]
  simp [hn]

/-- The addresses on the way from v, added to l as far as they are new. -/
def walkN (hs : List Int) : Nat → List Int → Int → List Int
  | 0, l, _ => l
  | f + 1, l, v => if isAddrB v = true ∧ ¬ v ∈ l then walkN hs f (l ++ [v]) (ct hs v) else l
def walkL (hs l : List Int) (v : Int) : List Int := walkN hs 9 l v

theorem walkN_more (hs : List Int) : ∀ (f g : Nat) (l : List Int) (v : Int), GoodL l → 9 ≤ l.length + f → 9 ≤ l.length + g → walkN hs f l v = walkN hs g l v
  | 0, _, l, v, hg, h, _ => by have := goodL_len hg; omega
  | _ + 1, 0, l, v, hg, _, h => by have := goodL_len hg; omega
  | f + 1, g + 1, l, v, hg, hf, hgg => by
    unfold walkN
    split
    · rename_i h
      exact walkN_more hs f g _ _ (goodL_snoc hg h.1 h.2) (by simp; omega) (by simp; omega)
    · rfl
theorem walkL_yes {hs l : List Int} {v : Int} (hg : GoodL l) (hv : isAddrB v = true) (hn : ¬ v ∈ l) : walkL hs l v = walkL hs (l ++ [v]) (ct hs v) := by
  show walkN hs (8 + 1) l v = _
  unfold walkN
  rw [if_pos ⟨hv, hn⟩]
  exact walkN_more hs 8 9 _ _ (goodL_snoc hg hv hn) (by simp) (by simp)
theorem walkL_no {hs l : List Int} {v : Int} (h : ¬ (isAddrB v = true ∧ ¬ v ∈ l)) : walkL hs l v = l := by
  show walkN hs (8 + 1) l v = _
  unfold walkN
  rw [if_neg h]
/-- An induction along the way. -/
theorem walk_ind {hs : List Int} (P : List Int → Int → List Int → Prop) (stop : ∀ l v, GoodL l → ¬ (isAddrB v = true ∧ ¬ v ∈ l) → P l v l)
    (step : ∀ l v r, GoodL l → isAddrB v = true → ¬ v ∈ l → GoodL (l ++ [v]) → P (l ++ [v]) (ct hs v) r → P l v r) : ∀ l v, GoodL l → P l v (walkL hs l v) := by
  have key : ∀ (k : Nat) (l : List Int) (v : Int), GoodL l → 9 - l.length ≤ k → P l v (walkL hs l v) := by
    intro k
    induction k with
    | zero => intro l v hg h; have := goodL_len hg; omega
    | succ k ih =>
      intro l v hg h
      by_cases hc : isAddrB v = true ∧ ¬ v ∈ l
      · rw [walkL_yes hg hc.1 hc.2]
        have hg2 := goodL_snoc hg hc.1 hc.2
        exact step l v _ hg hc.1 hc.2 hg2 (ih _ _ hg2 (by simp; omega))
      · rw [walkL_no hc]; exact stop l v hg hc
  intro l v hg
  exact key _ l v hg (Nat.le_refl _)
theorem walk_good {hs l : List Int} {v : Int} (hg : GoodL l) : GoodL (walkL hs l v) :=
  walk_ind (hs := hs) (fun _ _ r => GoodL r) (fun _ _ h _ => h) (fun _ _ _ _ _ _ _ h => h) l v hg
theorem walk_pre {hs l : List Int} {v : Int} (hg : GoodL l) : ∃ t, walkL hs l v = l ++ t :=
  walk_ind (hs := hs) (fun l _ r => ∃ t, r = l ++ t) (fun l _ _ _ => ⟨[], by simp⟩) (fun l v r _ _ _ _ ⟨t, ht⟩ => ⟨v :: t, by rw [ht]; simp⟩) l v hg
theorem walk_in {hs l : List Int} {v : Int} (hg : GoodL l) (hv : isAddrB v = true) : v ∈ walkL hs l v := by
  by_cases hn : v ∈ l
  · rw [walkL_no (by simp [hn])]; exact hn
  · obtain ⟨t, ht⟩ := walk_pre (hs := hs) (v := ct hs v) (goodL_snoc hg hv hn)
    rw [walkL_yes hg hv hn, ht]
    simp
/-- Walks from a list of addresses. -/
theorem fold_good {hs : List Int} : ∀ (us l : List Int), GoodL l → GoodL (us.foldl (walkL hs) l)
  | [], _, h => h
  | _ :: us, _, h => fold_good us _ (walk_good h)
theorem fold_pre {hs : List Int} : ∀ (us l : List Int), GoodL l → ∃ t, us.foldl (walkL hs) l = l ++ t
  | [], l, _ => ⟨[], by simp⟩
  | u :: us, l, h => by
    obtain ⟨t, ht⟩ := fold_pre us _ (walk_good (hs := hs) (v := u) h)
    obtain ⟨s, hs'⟩ := walk_pre (hs := hs) (v := u) h
    exact ⟨s ++ t, by rw [List.foldl_cons, ht, hs']; simp⟩
theorem fold_in {hs : List Int} : ∀ (us l : List Int), GoodL l → ∀ v ∈ us, isAddrB v = true → v ∈ us.foldl (walkL hs) l
  | u :: us, l, h, v, hv, ha => by
    rw [List.foldl_cons]
    rcases List.mem_cons.1 hv with rfl | hv
    · obtain ⟨t, ht⟩ := fold_pre (hs := hs) us _ (walk_good (hs := hs) (v := v) h)
      rw [ht]
      exact List.mem_append_left _ (walk_in h ha)
    · exact fold_in us _ (walk_good h) v hv ha

/-- The used addresses; all addresses. -/
def usedA (hs : List Int) : List Int := sel (fun n => alB hs (n : Int)) 1 8
def allA (k : Nat) : List Int := sel (fun _ => true) 1 k
def ord1 (vs hs : List Int) : List Int := vs.foldl (walkL hs) []
def ord2 (vs hs : List Int) : List Int := (usedA hs).foldl (walkL hs) (ord1 vs hs)
def ordL (vs hs : List Int) : List Int := (allA 8).foldl (walkL hs) (ord2 vs hs)
theorem ord1_good (vs hs : List Int) : GoodL (ord1 vs hs) := fold_good _ _ goodL_nil
theorem ord2_good (vs hs : List Int) : GoodL (ord2 vs hs) := fold_good _ _ (ord1_good vs hs)
theorem ordL_good (vs hs : List Int) : GoodL (ordL vs hs) := fold_good _ _ (ord2_good vs hs)
theorem ordL_mem (vs hs : List Int) {v : Int} (h1 : 1 ≤ v) (h8 : v ≤ 8) : v ∈ ordL vs hs := by
  refine fold_in _ _ (ord2_good vs hs) v ?_ (isAddrB_iff.2 ⟨h1, h8⟩)
  exact mem_sel.2 ⟨v.toNat, by omega, by omega, by omega, rfl⟩
theorem full_len {l : List Int} (hg : GoodL l) (hm : ∀ v : Int, 1 ≤ v → v ≤ 8 → v ∈ l) : l.length = 8 := by
  have h8 := goodL_len hg
  have hc : cnt (seenN l l.length) = 8 := by
    unfold cnt
    rw [List.filter_eq_self.2 ?_]
    · simp
    · intro p hp
      rw [List.mem_range'_1] at hp
      rw [seen_bit]
      obtain ⟨i, hi, e⟩ := List.getElem_of_mem (hm p (by omega) (by omega))
      exact ⟨i, hi, by rw [gi_of hi, e]; simp⟩
  have hle : ∀ k, cnt (seenN l k) ≤ k := by
    intro k
    induction k with
    | zero => simp [seenN, cnt]
    | succ k ih =>
      rw [seenN]
      have : cnt (seenN l k ||| 2 ^ (gi l k).toNat) ≤ cnt (seenN l k) + 1 := by
        unfold cnt
        have e : ∀ x : Nat, (seenN l k ||| 2 ^ (gi l k).toNat).testBit x = ((seenN l k).testBit x || decide ((gi l k).toNat = x)) := fun x => testBit_or_pow _ _ _
        simp only [e]
        generalize (gi l k).toNat = y
        have : ∀ L : List Nat, L.Nodup → (L.filter fun x => (seenN l k).testBit x || decide (y = x)).length ≤ (L.filter fun x => (seenN l k).testBit x).length + 1 := by
          intro L
          induction L with
          | nil => intro _; simp
          | cons a L ih2 =>
            intro hnd
            have hnd2 := List.nodup_cons.1 hnd
            by_cases hya : y = a
            · subst hya
              have : (L.filter fun x => (seenN l k).testBit x || decide (y = x)) = L.filter fun x => (seenN l k).testBit x := by
                apply List.filter_congr
                intro x hx
                have : ¬ y = x := fun e => hnd2.1 (e ▸ hx)
                simp [this]
              rw [List.filter_cons, List.filter_cons, this]
              simp only [decide_true, Bool.or_true, if_true]
              split <;> simp
            · have ih3 := ih2 hnd2.2
              rw [List.filter_cons, List.filter_cons]
              simp only [hya, decide_false, Bool.or_false]
              split <;> simp <;> omega
        exact this _ (List.nodup_range' (step := 1))
      omega
  have := hle l.length
  omega
theorem ordL_len (vs hs : List Int) : (ordL vs hs).length = 8 := full_len (ordL_good vs hs) fun _ h1 h8 => ordL_mem vs hs h1 h8
theorem ordL_names (vs hs : List Int) : goodTo (ordL vs hs) 8 = true := by
  have := ordL_good vs hs
  unfold GoodL at this
  rwa [ordL_len] at this
end Go.Proofs.Ythoingdcmdhllaa
/- Walks: follow: names in the order in which addresses are met. -/
namespace Go.Proofs.Ythoingdcmdhllaa
open Go.RowKit

/-- The name of an address in a list. -/
def posO (l : List Int) (v : Int) : Int := if v ∈ l then (l.idxOf v : Int) + 1 else 0
def tabO (l : List Int) : List Int := (List.range 9).map fun (n : Nat) => posO l n
/-- The ten cells of the names: the table, the last name. -/
def cn (l : List Int) : List Int := tabO l ++ [(l.length : Int)]
theorem tabO_len (l : List Int) : (tabO l).length = 9 := by simp [tabO]
theorem cn_len (l : List Int) : (cn l).length = 10 := by simp [cn, tabO]
theorem gi_tabO (l : List Int) {i : Nat} (h : i < 9) : gi (tabO l) i = posO l i := by
  rw [gi_of (by rw [tabO_len]; exact h)]; simp [tabO]
theorem gi_cn (l : List Int) {i : Nat} (h : i < 9) : gi (cn l) i = posO l i := by
  rw [cn, gi_app, if_pos (by rw [tabO_len]; exact h), gi_tabO l h]
theorem gi_cn9 (l : List Int) : gi (cn l) 9 = (l.length : Int) := by
  rw [cn, gi_app, if_neg (by rw [tabO_len]; omega), tabO_len]; simp [gi]
theorem posO_zero {l : List Int} {v : Int} : posO l v = 0 ↔ ¬ v ∈ l := by
  unfold posO
  split
  · rename_i h; simp [h]; omega
  · rename_i h; simp [h]
theorem posO_snoc {l : List Int} {v u : Int} (hn : ¬ v ∈ l) : posO (l ++ [v]) u = if u = v then (l.length : Int) + 1 else posO l u := by
  unfold posO
  by_cases e : u = v
  · subst e
    rw [if_pos rfl, if_pos (by simp), List.idxOf_append, if_neg hn]
    simp
  · rw [if_neg e]
    by_cases hu : u ∈ l
    · rw [if_pos (by simp [hu]), if_pos hu, List.idxOf_append, if_pos hu]
    · rw [if_neg (by simp [hu, e]), if_neg hu]
theorem cn_step {l : List Int} {m : Nat} (h1 : 1 ≤ m) (h8 : m ≤ 8) (hn : ¬ (m : Int) ∈ l) : ((cn l).set 9 ((l.length : Int) + 1)).set m ((l.length : Int) + 1) = cn (l ++ [(m : Int)]) := by
  refine gi_ext (by simp [cn_len]) fun i hi => ?_
  simp only [List.length_set, cn_len] at hi
  rw [gi_set (by simp [cn_len]; omega), gi_set (by rw [cn_len]; omega)]
  by_cases h9 : i = 9
  · subst h9
    rw [if_neg (by omega), if_pos rfl, gi_cn9]; simp
  · rw [gi_cn l (by omega), gi_cn (l ++ [(m : Int)]) (by omega), posO_snoc hn]
    by_cases e : m = i
    · subst e; rw [if_pos rfl, if_pos rfl]
    · rw [if_neg e, if_neg (by omega), if_neg (by omega)]

end Go.Proofs.Ythoingdcmdhllaa
/- Walks: the program's CanonState. -/
namespace Go.Proofs.Ythoingdcmdhllaa
open Go.RowKit

theorem posO_at {l : List Int} {j : Nat} (hg : goodTo l 8 = true) (hl : l.length = 8) (hj : j < 8) : posO l (gi l j) = (j : Int) + 1 := by
  have hm : gi l j ∈ l := gi_mem (by omega)
  have hi : l.idxOf (gi l j) < l.length := List.idxOf_lt_length_of_mem hm
  have he : gi l (l.idxOf (gi l j)) = gi l j := by
    rw [gi_of hi]
    exact List.getElem_idxOf hi
  have := good_inj' (by omega) hj hg he
  rw [posO, if_pos hm, this]
theorem tabO_full {l : List Int} (hg : goodTo l 8 = true) (hl : l.length = 8) : tabO l = 0 :: backN l 8 := by
  refine gi_ext (by simp [tabO_len, backN_len]) fun i hi => ?_
  rw [tabO_len] at hi
  rw [gi_tabO _ hi]
  cases i with
  | zero =>
    have : posO l ((0 : Nat) : Int) = 0 := posO_zero.2 (fun hm => by
      obtain ⟨k, hk, e⟩ := List.getElem_of_mem hm
      have := good_addr (show k < 8 by omega) hg
      rw [gi_of hk, e] at this
      omega)
    rw [this]; simp [gi]
  | succ i =>
    obtain ⟨j, h1, h2, h3⟩ := back_all hg (i := i) (by omega)
    have e : (((i + 1 : Nat)) : Int) = gi l j := by omega
    rw [e, posO_at hg hl h1]
    simp only [gi, List.getD_cons_succ]
    exact h3.symm
def canV (vl hl : List Int) : List Int := if validB vl hl = true then renV (backN (ordL vl hl) 8) vl else []
def canH (vl hl : List Int) : List Int := if validB vl hl = true then renH (backN (ordL vl hl) 8) hl else []
theorem can_len (vl hl : List Int) : (canV vl hl).length ≤ 8 ∧ (canH vl hl).length ≤ 8 := by
  unfold canV canH
  split
  · rename_i h
    have := valid_len h
    rw [renV_len, renH_len]; omega
  · simp
theorem fold_take {hs : List Int} {vs : List Int} {k : Nat} (h : k < vs.length) (l : List Int) : (vs.take (k + 1)).foldl (walkL hs) l = walkL hs ((vs.take k).foldl (walkL hs) l) (gi vs k) := by
  rw [List.take_succ_eq_append_getElem h, List.foldl_append, gi_of h]; rfl
theorem allA_succ (k : Nat) : allA (k + 1) = allA k ++ [((k + 1 : Nat) : Int)] := by
  unfold allA
  rw [sel_yes rfl, Nat.add_comm 1 k]

end Go.Proofs.Ythoingdcmdhllaa
