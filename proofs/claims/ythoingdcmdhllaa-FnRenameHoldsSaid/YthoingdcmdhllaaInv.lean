/- States of one shape have the same aliases and as many used, lost and cyclic cells, in plain Lean. -/
import Derived.Test.YthoingdcmdhllaaShapes
import Derived.Test.YthoingdcmdhllaaBase2
namespace Go.Proofs.Ythoingdcmdhllaa

theorem sel_le {p : List Int} (hg : goodTo p 8 = true) {P P' : Nat → Bool} (h : ∀ x : Int, 1 ≤ x → x ≤ 8 → P x.toNat = true → P' (nm p x).toNat = true) : (sel P 1 8).length ≤ (sel P' 1 8).length := by
  rw [← List.length_map (nm p)]
  refine sub_len (map_nodup hg (fun x hx => ?_) (sel_nodup _ _ _)) (fun x hx => ?_)
  · obtain ⟨i, rfl, h1, h2, _⟩ := mem_sel.1 hx; omega
  · obtain ⟨y, hy, rfl⟩ := List.mem_map.1 hx
    obtain ⟨i, rfl, h1, h2, hp⟩ := mem_sel.1 hy
    have ha := nm_addr hg (isAddrB_iff.2 (show 1 ≤ (i : Int) ∧ (i : Int) ≤ 8 by omega))
    refine mem_sel.2 ⟨(nm p (i : Int)).toNat, by omega, by omega, by omega, h (i : Int) (by omega) (by omega) hp⟩
theorem sel_ren {p : List Int} (_p8 : p.length = 8) (hg : goodTo p 8 = true) {P P' : Nat → Bool} (h : ∀ x : Int, 1 ≤ x → x ≤ 8 → P' (nm p x).toNat = P x.toNat) : (sel P' 1 8).length = (sel P 1 8).length := by
  have h1 : (sel P 1 8).length ≤ (sel P' 1 8).length := sel_le hg fun x h1 h8 hp => by rw [h x h1 h8]; exact hp
  have h2 : (sel P' 1 8).length ≤ (sel P 1 8).length := sel_le (back_good hg) fun y y1 y8 hp => by
    obtain ⟨j, hj, e⟩ := good_surj hg (p := y.toNat) (by omega) (by omega)
    have ey : y = nm p ((j : Int) + 1) := by rw [nm_at hj, e]; omega
    rw [ey, nm_back hg]
    rw [← h ((j : Int) + 1) (by omega) (by omega), ← ey]
    exact hp
  omega

section
variable {vl hl p : List Int}
theorem tv_ren {t : Int} (hv : validB vl hl = true) (ht : isTermB t = true) : tv (renV p vl) t = nm p (tv vl t) := by
  have h := isTermB_iff.1 ht
  have hl := (valid_len hv).1
  unfold tv
  by_cases h0 : t = 0
  · rw [if_pos h0, if_pos h0, nm_not (by decide)]
  · rw [if_neg h0, if_neg h0, gi_renV (by omega)]
theorem tv_le {t : Int} (hv : validB vl hl = true) (ht : isTermB t = true) : tv vl t ≤ 8 := by
  have h := isTermB_iff.1 ht
  unfold tv
  by_cases h0 : t = 0
  · rw [if_pos h0]; omega
  · rw [if_neg h0]; exact (valid_vat hv (by omega)).2
theorem alias_ren (hv : validB vl hl = true) (hg : goodTo p 8 = true) (t : Int) : aliasL (renV p vl) (renH p hl) t = aliasL vl hl t := by
  unfold aliasL
  rw [hv, ren_valid hg hv]
  by_cases ht : isTermB t = true
  · rw [if_pos ⟨rfl, ht⟩, if_pos ⟨rfl, ht⟩]
    refine sel_congr fun i _ h2 => ?_
    have hi : isTermB (i : Int) = true := isTermB_iff.2 (by omega)
    unfold aliasP
    rw [tv_ren hv hi, tv_ren hv ht, Bool.eq_iff_iff, beq_iff_eq, beq_iff_eq]
    exact ⟨fun e => nm_inj hg (tv_le hv hi) (tv_le hv ht) e, fun e => by rw [e]⟩
  · rw [if_neg (by simp [ht]), if_neg (by simp [ht])]
/-- Sets of addresses that correspond. -/
def Cor (p : List Int) (m m' : Nat) : Prop := ∀ x : Int, 1 ≤ x → x ≤ 8 → m'.testBit (nm p x).toNat = m.testBit x.toNat
theorem cor_or {m m' : Nat} (hg : goodTo p 8 = true) {v : Int} (hv : 1 ≤ v ∧ v ≤ 8) (h : Cor p m m') : Cor p (m ||| 2 ^ v.toNat) (m' ||| 2 ^ (nm p v).toNat) := by
  intro x h1 h8
  rw [testBit_or_pow, testBit_or_pow, h x h1 h8]
  congr 1
  rw [decide_eq_decide]
  have a1 := nm_addr hg (isAddrB_iff.2 hv)
  have a2 := nm_addr hg (isAddrB_iff.2 ⟨h1, h8⟩)
  constructor
  · intro e
    have := nm_inj hg hv.2 h8 (show nm p v = nm p x by omega)
    rw [this]
  · intro e
    have : v = x := by omega
    rw [this]
theorem cor_has {m m' : Nat} (hg : goodTo p 8 = true) {v : Int} (h : Cor p m m') : hasB m' (nm p v) = hasB m v := by
  unfold hasB
  rw [nm_isAddr hg]
  by_cases ha : isAddrB v = true
  · have := isAddrB_iff.1 ha
    rw [h v this.1 this.2]
  · simp [ha]
theorem reach_ren (hv : validB vl hl = true) (hg : goodTo p 8 = true) {m m' : Nat} {v : Int} (h : Cor p m m') : Cor p (reachF hl m v) (reachF (renH p hl) m' (nm p v)) := by
  refine reach_ind (hs := hl) (fun m v r => ∀ m', Cor p m m' → Cor p r (reachF (renH p hl) m' (nm p v))) ?_ ?_ m v m' h
  · intro m v hn m' hc
    rw [reachF_no]
    · exact hc
    · rw [al_ren hv hg, cor_has hg hc]; exact hn
  · intro m v r ha hh ih m' hc
    rw [reachF_yes (by rw [al_ren hv hg]; exact ha) (by rw [cor_has hg hc]; exact hh), ct_ren (valid_len hv).2 hg]
    exact ih _ (cor_or hg (al_addr ha) hc)
theorem cor_zero : Cor p 0 0 := fun x _ _ => by simp
theorem mark_ren (hv : validB vl hl = true) (hg : goodTo p 8 = true) : ∀ k, k ≤ 4 → Cor p (markAll vl hl k) (markAll (renV p vl) (renH p hl) k)
  | 0, _ => cor_zero
  | k + 1, h => by
    rw [markAll, markAll, tv_ren hv (isTermB_iff.2 (by omega))]
    exact reach_ren hv hg (mark_ren hv hg k (by omega))
theorem al_toNat (hv : validB vl hl = true) (hg : goodTo p 8 = true) {x : Int} (h1 : 1 ≤ x) (h8 : x ≤ 8) : alB (renH p hl) (((nm p x).toNat : Nat) : Int) = alB hl ((x.toNat : Nat) : Int) := by
  have := nm_addr hg (isAddrB_iff.2 ⟨h1, h8⟩)
  rw [show (((nm p x).toNat : Nat) : Int) = nm p x by omega, show ((x.toNat : Nat) : Int) = x by omega, al_ren hv hg]
theorem garb_ren (hv : validB vl hl = true) (p8 : p.length = 8) (hg : goodTo p 8 = true) : (garbageL (renV p vl) (renH p hl)).length = (garbageL vl hl).length := by
  rw [garbageL, garbageL, if_pos hv, if_pos (ren_valid hg hv)]
  refine sel_ren p8 hg fun x h1 h8 => ?_
  unfold garbageP
  rw [al_toNat hv hg h1 h8, mark_ren hv hg 4 (Nat.le_refl 4) x h1 h8]
theorem cyc_ren (hv : validB vl hl = true) (p8 : p.length = 8) (hg : goodTo p 8 = true) : (cycleL (renV p vl) (renH p hl)).length = (cycleL vl hl).length := by
  rw [cycleL, cycleL, if_pos hv, if_pos (ren_valid hg hv)]
  refine sel_ren p8 hg fun x h1 h8 => ?_
  have ha := nm_addr hg (isAddrB_iff.2 ⟨h1, h8⟩)
  unfold cycleP cycI
  rw [al_toNat hv hg h1 h8, show (((nm p x).toNat : Nat) : Int) = nm p x by omega, show ((x.toNat : Nat) : Int) = x by omega, ct_ren (valid_len hv).2 hg, cor_has hg (reach_ren hv hg cor_zero)]
theorem usedL_ren (hv : validB vl hl = true) (p8 : p.length = 8) (hg : goodTo p 8 = true) : (usedL (renV p vl) (renH p hl)).length = (usedL vl hl).length := by
  rw [usedL, usedL, if_pos hv, if_pos (ren_valid hg hv)]
  refine sel_ren p8 hg fun x h1 h8 => ?_
  unfold usedP
  rw [al_toNat hv hg h1 h8]
end
/-- What states of one shape have in common. -/
theorem shape_inv {vl hl vm hm : List Int} (h : shapeB vl hl vm hm = true) :
    (∀ t, aliasL vl hl t = aliasL vm hm t) ∧ (usedL vl hl).length = (usedL vm hm).length ∧ (garbageL vl hl).length = (garbageL vm hm).length ∧ (cycleL vl hl).length = (cycleL vm hm).length := by
  obtain ⟨h1, _, p, p8, hg, hV, hH⟩ := shape_iff.1 h
  subst hV; subst hH
  exact ⟨fun t => (alias_ren h1 hg t).symm, (usedL_ren h1 p8 hg).symm, (garb_ren h1 p8 hg).symm, (cyc_ren h1 p8 hg).symm⟩
end Go.Proofs.Ythoingdcmdhllaa
