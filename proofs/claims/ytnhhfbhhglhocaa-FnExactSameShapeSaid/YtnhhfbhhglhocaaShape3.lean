/- Shapes, in plain Lean: the reference's search finds what the program's finds. -/
import Derived.Test.YtnhhfbhhglhocaaShape2
namespace Go.Proofs.Ytnhhfbhhglhocaa

/-- The first pair whose contents do not correspond, or are new. none: there is none; some none: no; some (some q): on with q. -/
def scanP (hl hm : List Int) (ps : Prs) : Prs → Option (Option Prs)
  | [] => none
  | q :: r => if nextOk ps (ct hl q.1) (ct hm q.2) = false then some none
    else if known ps (ct hl q.1) = false ∧ 1 ≤ ct hl q.1 then some (some (nextL ps (ct hl q.1) (ct hm q.2)))
    else scanP hl hm ps r
/-- The first open cell from n on, c cells looked at. -/
def openP (hl : List Int) (ps : Prs) : Nat → Nat → Option Nat
  | 0, _ => none
  | c + 1, n => if alB hl (n : Int) = true ∧ known ps (n : Int) = false then some n else openP hl ps c (n + 1)
def matchF (hl hm : List Int) : Nat → Prs → Nat → Bool
  | 0, _, _ => false
  | f + 1, ps, n =>
    match scanP hl hm ps ps with
    | some none => false
    | some (some q) => matchF hl hm f q n
    | none =>
      match openP hl ps (9 - n) n with
      | some k => (List.range 8).any fun m => nextOk ps (k : Int) ((m : Int) + 1) && (alB hm ((m : Int) + 1) && matchF hl hm f (nextL ps (k : Int) ((m : Int) + 1)) (k + 1))
      | none => decide ((usedA' hl).length = (usedA' hm).length)

theorem scan_none {hl hm : List Int} {ps : Prs} : ∀ {r : Prs}, scanP hl hm ps r = none → ∀ q ∈ r, nextOk ps (ct hl q.1) (ct hm q.2) = true ∧ (known ps (ct hl q.1) = true ∨ ct hl q.1 < 1)
  | [], _, q, hq => by cases hq
  | a :: r, h, q, hq => by
    unfold scanP at h
    split at h
    · cases h
    · rename_i h1
      split at h
      · cases h
      · rename_i h2
        rcases List.mem_cons.1 hq with rfl | hq
        · refine ⟨by simpa using h1, ?_⟩
          cases hk : known ps (ct hl q.1) with
          | true => exact .inl rfl
          | false => rw [hk] at h2; simp at h2; exact .inr (by omega)
        · exact scan_none h q hq
theorem scan_ext {hl hm : List Int} {ps qs : Prs} : ∀ {r : Prs}, scanP hl hm ps r = some (some qs) → ∃ q ∈ r, nextOk ps (ct hl q.1) (ct hm q.2) = true ∧ known ps (ct hl q.1) = false ∧ 1 ≤ ct hl q.1 ∧ qs = nextL ps (ct hl q.1) (ct hm q.2)
  | [], h => by cases h
  | a :: r, h => by
    unfold scanP at h
    split at h
    · cases h
    · rename_i h1
      split at h
      · rename_i h2
        injection h with h
        injection h with h
        exact ⟨a, List.mem_cons_self, by simpa using h1, h2.1, h2.2, h.symm⟩
      · obtain ⟨q, hq, hh⟩ := scan_ext h
        exact ⟨q, List.mem_cons_of_mem _ hq, hh⟩
theorem scan_fail {hl hm : List Int} {ps : Prs} : ∀ {r : Prs}, scanP hl hm ps r = some none → ∃ q ∈ r, nextOk ps (ct hl q.1) (ct hm q.2) = false
  | [], h => by cases h
  | a :: r, h => by
    unfold scanP at h
    split at h
    · rename_i h1; exact ⟨a, List.mem_cons_self, h1⟩
    · split at h
      · cases h
      · obtain ⟨q, hq, hh⟩ := scan_fail h
        exact ⟨q, List.mem_cons_of_mem _ hq, hh⟩
theorem open_some {hl : List Int} {ps : Prs} {k : Nat} : ∀ {c n : Nat}, openP hl ps c n = some k → alB hl (k : Int) = true ∧ known ps (k : Int) = false ∧ n ≤ k ∧ k < n + c ∧ ∀ j, n ≤ j → j < k → alB hl (j : Int) = true → known ps (j : Int) = true
  | 0, _, h => by cases h
  | c + 1, n, h => by
    unfold openP at h
    split at h
    · rename_i h1
      injection h with h
      subst h
      exact ⟨h1.1, h1.2, Nat.le_refl _, by omega, fun j _ _ => by omega⟩
    · rename_i h1
      obtain ⟨a, b, c1, d, e⟩ := open_some h
      refine ⟨a, b, by omega, by omega, fun j hj hk ha => ?_⟩
      by_cases ej : j = n
      · subst ej
        cases hh : known ps (j : Int) with
        | true => rfl
        | false => exact absurd ⟨ha, hh⟩ h1
      · exact e j (by omega) hk ha
theorem open_none {hl : List Int} {ps : Prs} : ∀ {c n : Nat}, openP hl ps c n = none → ∀ j, n ≤ j → j < n + c → alB hl (j : Int) = true → known ps (j : Int) = true
  | 0, _, _, j, h1, h2 => by omega
  | c + 1, n, h, j, h1, h2 => by
    unfold openP at h
    split at h
    · cases h
    · rename_i hn
      intro ha
      by_cases ej : j = n
      · subst ej
        cases hh : known ps (j : Int) with
        | true => rfl
        | false => exact absurd ⟨ha, hh⟩ hn
      · exact open_none h j (by omega) (by omega) ha

theorem nextL_new {ps : Prs} {x y : Int} (h : nextOk ps x y = true) (hx : 1 ≤ x) : nextL ps x y = ps ++ [(x, y)] := by
  rw [nextL, if_pos ⟨h, by omega⟩]
theorem firsts_snoc {ps : Prs} {x y : Int} (hn : (ps.map (·.1)).Nodup) (hk : known ps x = false) : ((ps ++ [(x, y)]).map (·.1)).Nodup := by
  rw [List.map_append, List.nodup_append]
  refine ⟨hn, by simp, fun a ha b hb e => ?_⟩
  simp at hb
  subst hb; subst e
  obtain ⟨q, hq, e⟩ := List.mem_map.1 ha
  have : known ps a = true := known_iff.2 ⟨q.2, by rw [← e]; exact hq⟩
  rw [hk] at this; cases this
theorem known_snoc {ps : Prs} {x y v : Int} (h : known ps v = true) : known (ps ++ [(x, y)]) v = true := by
  obtain ⟨z, hz⟩ := known_iff.1 h
  exact known_iff.2 ⟨z, List.mem_append_left _ hz⟩
theorem al_le {hs : List Int} {v : Int} (h : alB hs v = true) : isAddrB v = true := isAddrB_iff.2 (al_addr h)
theorem al_false {vl hl : List Int} (hv : validB vl hl = true) {v : Int} (h : ¬ alB hl v = true) : ct hl v = -1 := by
  have := (valid_ct hv v).1
  unfold alB at h
  simp at h
  omega

/-- Closed pairs make a permutation of the heap. -/
theorem closed_ren {vl hl vm hm : List Int} (hv : validB vl hl = true) (hw : validB vm hm = true) {ps : Prs} (hi : PI ps) (hn : (ps.map (·.1)).Nodup)
    (hs : scanP hl hm ps ps = none) (hall : ∀ v, alB hl v = true → known ps v = true) (hu : (usedA' hl).length = (usedA' hm).length) : ∃ p, p.length = 8 ∧ goodTo p 8 = true ∧ Cp p ps ∧ renH p hl = hm := by
  obtain ⟨p, hp8, hg, hc⟩ := extend 8 hi hn (by omega)
  refine ⟨p, hp8, hg, hc, ?_⟩
  have hl8 := (valid_len hv).2
  have hm8 := (valid_len hw).2
  have pair : ∀ x, known ps x = true → ct hm (nm p x) = nm p (ct hl x) := by
    intro x hk
    obtain ⟨y, hy⟩ := known_iff.1 hk
    have ey := hc _ hy
    obtain ⟨h1, h2⟩ := scan_none hs _ hy
    simp only at ey h1 h2
    rw [ey]
    rcases nextOk_iff.1 h1 with ⟨h3, h4⟩ | ⟨h3, h4, h5⟩
    · rw [← h4, nm_not (by rw [isAddrB_iff]; omega)]
    · rcases h2 with h2 | h2
      · obtain ⟨z, hz⟩ := known_iff.1 h2
        have e1 := (h5 _ hz).1 rfl
        have e2 := hc _ hz
        simp only at e1 e2
        rw [e2, e1]
      · omega
  have alp : ∀ x, alB hl x = true → alB hm (nm p x) = true := by
    intro x hx
    have e := pair x (hall x hx)
    have hcx := valid_ct hv x
    have := nm_val hg hcx.1 hcx.2
    have h0 : 0 ≤ ct hl x := by simpa [alB] using hx
    simp only [alB, decide_eq_true_eq]
    rw [e]; exact this.2.2.1 h0
  have onto : ∀ x, isAddrB x = true → alB hm (nm p x) = true → alB hl x = true := by
    intro x hax hx
    apply Classical.byContradiction
    intro hnx
    have h8 := isAddrB_iff.1 hax
    have hnd : ((x :: usedA' hl).map (nm p)).Nodup := map_nodup hg (fun y hy => by
      rcases List.mem_cons.1 hy with rfl | hy
      · exact h8.2
      · exact (al_addr (mem_used.1 hy)).2) (List.nodup_cons.2 ⟨fun hm' => hnx (mem_used.1 hm'), sel_nodup _ _ _⟩)
    have := sub_len hnd (b := usedA' hm) (fun z hz => by
      obtain ⟨y, hy, rfl⟩ := List.mem_map.1 hz
      rw [mem_used]
      rcases List.mem_cons.1 hy with rfl | hy
      · exact hx
      · exact alp y (mem_used.1 hy))
    simp at this
    omega
  refine gi_ext (by rw [renH_len, hl8, hm8]) fun i hi' => ?_
  rw [renH_len, hl8] at hi'
  obtain ⟨j, h1, h2, h3⟩ := renH_all hl8 hg hi'
  have ej : gi hl j = ct hl ((j : Int) + 1) := by rw [ct, if_pos (isAddrB_iff.2 (by omega))]; congr 1; omega
  have ei : gi hm i = ct hm ((i : Int) + 1) := by rw [ct, if_pos (isAddrB_iff.2 (by omega))]; congr 1; omega
  have ep : nm p ((j : Int) + 1) = (i : Int) + 1 := by rw [nm_at h1, h2]
  rw [h3, ej, ei, ← ep]
  by_cases hk : known ps ((j : Int) + 1) = true
  · exact (pair _ hk).symm
  · have hna : ¬ alB hl ((j : Int) + 1) = true := fun ha => hk (hall _ ha)
    rw [al_false hv hna, nm_not (by decide)]
    have : ¬ alB hm (nm p ((j : Int) + 1)) = true := fun ha => hna (onto _ (isAddrB_iff.2 (by omega)) ha)
    exact (al_false hw this).symm

theorem match_sound {vl hl vm hm : List Int} (hv : validB vl hl = true) (hw : validB vm hm = true) : ∀ {f : Nat} {ps : Prs} {n : Nat}, PI ps → (ps.map (·.1)).Nodup → 1 ≤ n → n ≤ 9 → (∀ j : Nat, j < n → alB hl (j : Int) = true → known ps (j : Int) = true) → matchF hl hm f ps n = true → ∃ p, p.length = 8 ∧ goodTo p 8 = true ∧ Cp p ps ∧ renH p hl = hm
  | 0, _, _, _, _, _, _, _, h => by cases h
  | f + 1, ps, n, hi, hn, h1, h9, ho, h => by
    unfold matchF at h
    split at h
    · cases h
    · rename_i qs hs
      obtain ⟨q, hq, k1, k2, k3, rfl⟩ := scan_ext hs
      have c1 := valid_ct hv q.1
      have c2 := valid_ct hw q.2
      have hi2 := next_PI (ps := ps) hi c1.2 c2.2
      rw [nextL_new k1 k3] at h hi2
      obtain ⟨p, a, b, c, d⟩ := match_sound hv hw hi2 (firsts_snoc hn k2) h1 h9 (fun j hj ha => known_snoc (ho j hj ha)) h
      exact ⟨p, a, b, fun r hr => c r (List.mem_append_left _ hr), d⟩
    · rename_i hs
      split at h
      · rename_i k hk
        obtain ⟨o1, o2, o3, o4, o5⟩ := open_some hk
        simp only [List.any_eq_true, List.mem_range, Bool.and_eq_true] at h
        obtain ⟨m, hm8, k1, k2, k3⟩ := h
        have ha := al_addr o1
        have hi2 := next_PI (ps := ps) hi (x := (k : Int)) (y := (m : Int) + 1) (by omega) (by omega)
        rw [nextL_new k1 (by omega)] at k3 hi2
        obtain ⟨p, a, b, c, d⟩ := match_sound hv hw hi2 (firsts_snoc hn o2) (by omega) (by omega) (fun j hj haj => by
          by_cases ej : j = k
          · subst ej; exact known_iff.2 ⟨(m : Int) + 1, by simp⟩
          · by_cases hjn : j < n
            · exact known_snoc (ho j hjn haj)
            · exact known_snoc (o5 j (by omega) (by omega) haj)) k3
        exact ⟨p, a, b, fun r hr => c r (List.mem_append_left _ hr), d⟩
      · rename_i hk
        have hno := open_none hk
        refine closed_ren hv hw hi hn hs (fun v hav => ?_) (by simpa using h)
        have hva := al_addr hav
        have ev : ((v.toNat : Nat) : Int) = v := by omega
        rw [← ev] at hav ⊢
        by_cases hjn : v.toNat < n
        · exact ho _ hjn hav
        · exact hno _ (by omega) (by omega) hav

theorem match_comp {vl hl hm : List Int} (hv : validB vl hl = true) {p : List Int} (hp8 : p.length = 8) (hg : goodTo p 8 = true) (hH : renH p hl = hm) : ∀ {f : Nat} {ps : Prs} {n : Nat}, PI ps → (ps.map (·.1)).Nodup → Cp p ps → 9 ≤ ps.length + f → matchF hl hm f ps n = true
  | 0, ps, n, hi, hn, hc, hf => by
    exfalso
    have := sub_len hn (b := addrs) (fun x hx => by
      obtain ⟨q, hq, rfl⟩ := List.mem_map.1 hx
      exact mem_addrs.2 (hi.adr q hq).1)
    rw [addrs_len, List.length_map] at this
    omega
  | f + 1, ps, n, hi, hn, hc, hf => by
    have hl8 := (valid_len hv).2
    have ec : ∀ v : Int, ct hm (nm p v) = nm p (ct hl v) := fun v => by rw [← hH]; exact ct_ren hl8 hg v
    have key : ∀ q ∈ ps, ct hm q.2 = nm p (ct hl q.1) := fun q hq => by rw [← hc q hq]; exact ec _
    unfold matchF
    split
    · rename_i hs
      obtain ⟨q, hq, h⟩ := scan_fail hs
      rw [key q hq, next_comp hg hi hc (valid_ct hv q.1).2] at h
      cases h
    · rename_i qs hs
      obtain ⟨q, hq, k1, k2, k3, rfl⟩ := scan_ext hs
      have e := key q hq
      have c1 := (valid_ct hv q.1).2
      have c2 : ct hm q.2 ≤ 8 := by rw [e]; exact (nm_val hg (valid_ct hv q.1).1 c1).2.1
      have hi2 := next_PI (ps := ps) hi c1 c2
      rw [nextL_new k1 k3] at hi2 ⊢
      exact match_comp hv hp8 hg hH hi2 (firsts_snoc hn k2) (hc.snoc e.symm) (by simp; omega)
    · split
      · rename_i k hk
        obtain ⟨o1, o2, _, _, _⟩ := open_some hk
        have ha := al_addr o1
        have hb := nm_addr hg (isAddrB_iff.2 ha)
        obtain ⟨m, em⟩ : ∃ m : Nat, nm p (k : Int) = (m : Int) + 1 := ⟨(nm p (k : Int) - 1).toNat, by omega⟩
        have k1 := next_comp hg hi hc (x := (k : Int)) ha.2
        rw [em] at k1
        have hi2 := next_PI (ps := ps) hi (x := (k : Int)) (y := (m : Int) + 1) (by omega) (by omega)
        rw [nextL_new k1 (by omega)] at hi2
        simp only [List.any_eq_true, List.mem_range, Bool.and_eq_true]
        refine ⟨m, by omega, k1, ?_, ?_⟩
        · rw [← em, ← hH, al_ren hv hg]; exact o1
        · rw [nextL_new k1 (by omega)]
          exact match_comp hv hp8 hg hH hi2 (firsts_snoc hn o2) (hc.snoc em) (by simp; omega)
      · rw [← hH, used_ren hv hg]; simp
end Go.Proofs.Ytnhhfbhhglhocaa
