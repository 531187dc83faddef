/- Shapes, in plain Lean: both searches agree; equivalence; canonical forms. -/
import Derived.Test.YtnhhfbhhglhocaaShape3
namespace Go.Proofs.Ytnhhfbhhglhocaa

/-- The pairs of the values, as far as they go. -/
def valF (vl vm : List Int) : Nat → Option Prs
  | 0 => some []
  | k + 1 => match valF vl vm k with
    | none => none
    | some ps => if nextOk ps (gi vl k) (gi vm k) = true then some (nextL ps (gi vl k) (gi vm k)) else none
/-- The pairs without those whose first address is there already. -/
def distP (out : Prs) : Prs → Prs
  | [] => out
  | q :: r => distP (if known out q.1 = true then out else out ++ [q]) r
def specShape (vl hl vm hm : List Int) : Bool := (validB vl hl && validB vm hm) && match valF vl vm 8 with
  | none => false
  | some ps => matchF hl hm 9 (distP [] ps) 1

theorem val_PI {vl vm : List Int} (h1 : ∀ i, i < 8 → gi vl i ≤ 8) (h2 : ∀ i, i < 8 → gi vm i ≤ 8) : ∀ {k : Nat} {ps : Prs}, k ≤ 8 → valF vl vm k = some ps → PI ps ∧ ∀ i, i < k → (gi vl i < 1 ∧ gi vl i = gi vm i) ∨ (gi vl i, gi vm i) ∈ ps
  | 0, ps, _, h => by
    injection h with h
    subst h
    exact ⟨PI.nil, fun i hi => by omega⟩
  | k + 1, ps, hk, h => by
    unfold valF at h
    split at h
    · cases h
    · rename_i qs hq
      obtain ⟨hi, hc⟩ := val_PI h1 h2 (by omega) hq
      split at h
      · rename_i hok
        injection h with h
        subst h
        refine ⟨next_PI hi (h1 k (by omega)) (h2 k (by omega)), fun i hi' => ?_⟩
        have sub : ∀ z ∈ qs, z ∈ nextL qs (gi vl k) (gi vm k) := by
          intro z hz
          unfold nextL
          split
          · exact List.mem_append_left _ hz
          · exact hz
        by_cases e : i = k
        · subst e
          rcases nextOk_iff.1 hok with h | h
          · exact .inl h
          · right
            rw [nextL_new hok h.1]
            simp
        · rcases hc i (by omega) with h | h
          · exact .inl h
          · exact .inr (sub _ h)
      · cases h
theorem val_comp {vl vm p : List Int} (hg : goodTo p 8 = true) (h1 : ∀ i, i < 8 → gi vl i ≤ 8) (hp : ∀ i, i < 8 → gi vm i = nm p (gi vl i)) (h2 : ∀ i, i < 8 → gi vm i ≤ 8) : ∀ {k : Nat}, k ≤ 8 → ∃ ps, valF vl vm k = some ps ∧ Cp p ps
  | 0, _ => ⟨[], rfl, fun _ h => by cases h⟩
  | k + 1, hk => by
    obtain ⟨ps, hps, hc⟩ := val_comp hg h1 hp h2 (k := k) (by omega)
    have hi := (val_PI h1 h2 (by omega) hps).1
    refine ⟨nextL ps (gi vl k) (gi vm k), ?_, ?_⟩
    · unfold valF
      rw [hps]
      simp only
      rw [hp k (by omega), next_comp hg hi hc (h1 k (by omega)), if_pos rfl]
    · rw [hp k (by omega)]
      exact next_Cp hc

theorem dist_spec {ps : Prs} (hi : PI ps) : ∀ {r out : Prs}, (∀ q ∈ r, q ∈ ps) → (∀ q ∈ out, q ∈ ps) → (out.map (·.1)).Nodup → (∀ q ∈ distP out r, q ∈ ps) ∧ ((distP out r).map (·.1)).Nodup ∧ (∀ q ∈ out, q ∈ distP out r) ∧ (∀ q ∈ r, q ∈ distP out r)
  | [], out, _, ho, hn => ⟨ho, hn, fun _ h => h, fun _ h => by cases h⟩
  | a :: r, out, hr, ho, hn => by
    unfold distP
    by_cases hk : known out a.1 = true
    · rw [if_pos hk]
      obtain ⟨h1, h2, h3, h4⟩ := dist_spec hi (r := r) (out := out) (fun q hq => hr q (List.mem_cons_of_mem _ hq)) ho hn
      refine ⟨h1, h2, h3, fun q hq => ?_⟩
      rcases List.mem_cons.1 hq with rfl | hq
      · obtain ⟨y, hy⟩ := known_iff.1 hk
        have e : y = q.2 := (hi.bij _ (ho _ hy) _ (hr q List.mem_cons_self)).1 rfl
        rw [e] at hy
        exact h3 _ hy
      · exact h4 q hq
    · rw [if_neg hk]
      have hk' : known out a.1 = false := by simpa using hk
      obtain ⟨h1, h2, h3, h4⟩ := dist_spec hi (r := r) (out := out ++ [a]) (fun q hq => hr q (List.mem_cons_of_mem _ hq)) (fun q hq => by
        rcases List.mem_append.1 hq with hq | hq
        · exact ho q hq
        · simp at hq; subst hq; exact hr q List.mem_cons_self) (firsts_snoc (x := a.1) (y := a.2) hn hk')
      refine ⟨h1, h2, fun q hq => h3 q (List.mem_append_left _ hq), fun q hq => ?_⟩
      rcases List.mem_cons.1 hq with rfl | hq
      · exact h3 _ (by simp)
      · exact h4 q hq
theorem PI.sub {ps qs : Prs} (h : PI ps) (hs : ∀ q ∈ qs, q ∈ ps) : PI qs := ⟨fun q hq => h.adr q (hs q hq), fun q hq r hr => h.bij q (hs q hq) r (hs r hr)⟩

theorem specShape_iff {vl hl vm hm : List Int} : specShape vl hl vm hm = true ↔ validB vl hl = true ∧ validB vm hm = true ∧ ∃ p, Iso vl hl vm hm p := by
  constructor
  · intro h
    simp only [specShape, Bool.and_eq_true] at h
    obtain ⟨⟨hv, hw⟩, h⟩ := h
    refine ⟨hv, hw, ?_⟩
    have b1 : ∀ i, i < 8 → gi vl i ≤ 8 := fun i hi => (valid_vat hv hi).2
    have b2 : ∀ i, i < 8 → gi vm i ≤ 8 := fun i hi => (valid_vat hw hi).2
    cases hp : valF vl vm 8 with
    | none => rw [hp] at h; cases h
    | some ps =>
      rw [hp] at h
      simp only at h
      obtain ⟨hi, hc⟩ := val_PI b1 b2 (Nat.le_refl 8) hp
      obtain ⟨d1, d2, _, d4⟩ := dist_spec hi (r := ps) (out := []) (fun _ h => h) (fun _ h => by cases h) (by simp)
      obtain ⟨p, p8, pg, pc, pH⟩ := match_sound hv hw (hi.sub d1) d2 (by omega) (by omega) (fun j hj ha => by
        have := al_addr ha
        omega) h
      refine ⟨p, p8, pg, ?_, pH⟩
      have hl1 := (valid_len hv).1
      refine gi_ext (by rw [renV_len, hl1, (valid_len hw).1]) fun i hi' => ?_
      rw [renV_len, hl1] at hi'
      rw [gi_renV (by omega)]
      rcases hc i hi' with ⟨h1, h2⟩ | h
      · rw [nm_not (by rw [isAddrB_iff]; omega), h2]
      · exact pc _ (d4 _ h)
  · rintro ⟨hv, hw, p, p8, pg, pV, pH⟩
    have b1 : ∀ i, i < 8 → gi vl i ≤ 8 := fun i hi => (valid_vat hv hi).2
    have b2 : ∀ i, i < 8 → gi vm i ≤ 8 := fun i hi => (valid_vat hw hi).2
    have hp : ∀ i, i < 8 → gi vm i = nm p (gi vl i) := fun i hi => by rw [← pV]; exact gi_renV (by rw [(valid_len hv).1]; exact hi)
    obtain ⟨ps, hps, hc⟩ := val_comp pg b1 hp b2 (Nat.le_refl 8)
    obtain ⟨hi, _⟩ := val_PI b1 b2 (Nat.le_refl 8) hps
    obtain ⟨d1, d2, _, _⟩ := dist_spec hi (r := ps) (out := []) (fun _ h => h) (fun _ h => by cases h) (by simp)
    rw [specShape, hv, hw, hps]
    simp only [Bool.and_self, Bool.true_and]
    exact match_comp hv p8 pg pH (hi.sub d1) d2 (fun q hq => hc q (d1 q hq)) (by omega)
/-- The reference's answer is the program's. -/
theorem spec_shape (vl hl vm hm : List Int) : specShape vl hl vm hm = shapeB vl hl vm hm := by
  rw [Bool.eq_iff_iff, specShape_iff, shape_iff]

/-! ### An equivalence -/
theorem iso_back {vl hl vm hm p : List Int} (hl8 : hl.length = 8) (h : Iso vl hl vm hm p) : Iso vm hm vl hl (backN p 8) := by
  obtain ⟨p8, hg, hV, hH⟩ := h
  exact ⟨backN_len _ _, back_good hg, by rw [← hV, renV_back hg], by rw [← hH, renH_back hl8 hg]⟩
theorem shape_symm (vl hl vm hm : List Int) : shapeB vl hl vm hm = shapeB vm hm vl hl := by
  have key : ∀ vl hl vm hm, shapeB vl hl vm hm = true → shapeB vm hm vl hl = true := by
    intro vl hl vm hm h
    obtain ⟨h1, h2, p, hp⟩ := shape_iff.1 h
    exact shape_iff.2 ⟨h2, h1, _, iso_back (valid_len h1).2 hp⟩
  rw [Bool.eq_iff_iff]
  exact ⟨key _ _ _ _, key _ _ _ _⟩
def idN : List Int := [1, 2, 3, 4, 5, 6, 7, 8]
theorem nm_id (v : Int) : nm idN v = v := by
  by_cases h : isAddrB v = true
  · have := isAddrB_iff.1 h
    rw [nm, if_pos h]
    obtain ⟨k, hk⟩ : ∃ k : Nat, v = (k : Int) + 1 := ⟨(v - 1).toNat, by omega⟩
    subst hk
    have hk8 : k < 8 := by omega
    rw [show ((k : Int) + 1 - 1).toNat = k by omega]
    match k, hk8 with
    | 0, _ => rfl
    | 1, _ => rfl
    | 2, _ => rfl
    | 3, _ => rfl
    | 4, _ => rfl
    | 5, _ => rfl
    | 6, _ => rfl
    | 7, _ => rfl
  · exact nm_not h
theorem id_good : goodTo idN 8 = true := by decide
theorem renV_id (vl : List Int) : renV idN vl = vl := by
  unfold renV
  rw [show nm idN = id from funext nm_id, List.map_id]
theorem renH_id {hl : List Int} (h8 : hl.length = 8) : renH idN hl = hl := by
  refine gi_ext (renH_len _ _) fun i hi => ?_
  rw [renH_len, h8] at hi
  obtain ⟨j, h1, h2, h3⟩ := renH_all h8 id_good hi
  have e := nm_at (p := idN) h1
  rw [nm_id] at e
  have : j = i := by omega
  rw [h3, nm_id, this]
theorem shape_refl (vl hl : List Int) : shapeB vl hl vl hl = validB vl hl := by
  cases hv : validB vl hl with
  | false => simp [shapeB, hv]
  | true => exact shape_iff.2 ⟨hv, hv, idN, rfl, id_good, renV_id _, renH_id (valid_len hv).2⟩
end Go.Proofs.Ytnhhfbhhglhocaa
