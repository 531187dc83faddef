/- Shapes, in plain Lean: the reference's search by pairs. -/
import Derived.Test.YtnhhfbhhglhocaaShape
namespace Go.Proofs.Ytnhhfbhhglhocaa

abbrev Prs := List (Int × Int)
def known (ps : Prs) (v : Int) : Bool := ps.any fun q => q.1 == v
def clash (ps : Prs) (x y : Int) : Bool := ps.any fun q => (q.1 == x) != (q.2 == y)
def nextOk (ps : Prs) (x y : Int) : Bool := !((decide (x < 1) || decide (y < 1)) && (x != y)) && (decide (x < 1) || !clash ps x y)
def nextL (ps : Prs) (x y : Int) : Prs := if nextOk ps x y = true ∧ ¬ x < 1 then ps ++ [(x, y)] else ps

theorem known_iff {ps : Prs} {v : Int} : known ps v = true ↔ ∃ y, (v, y) ∈ ps := by
  simp only [known, List.any_eq_true, beq_iff_eq]
  constructor
  · rintro ⟨q, hq, rfl⟩; exact ⟨q.2, hq⟩
  · rintro ⟨y, h⟩; exact ⟨_, h, rfl⟩
theorem clash_no {ps : Prs} {x y : Int} : clash ps x y = false ↔ ∀ q ∈ ps, (q.1 = x ↔ q.2 = y) := by
  have key : ∀ q : Int × Int, ((q.1 == x) != (q.2 == y)) = true ↔ ¬ (q.1 = x ↔ q.2 = y) := by
    intro q
    by_cases e1 : q.1 = x
    · by_cases e2 : q.2 = y
      · simp [e1, e2]
      · rw [beq_eq_false_iff_ne.2 e2]; simp [e1, e2]
    · by_cases e2 : q.2 = y
      · rw [beq_eq_false_iff_ne.2 e1]; simp [e1, e2]
      · rw [beq_eq_false_iff_ne.2 e1, beq_eq_false_iff_ne.2 e2]; simp [e1, e2]
  simp only [clash, List.any_eq_false, key, Classical.not_not]
/-- What a passed test says. -/
theorem nextOk_iff {ps : Prs} {x y : Int} : nextOk ps x y = true ↔ (x < 1 ∧ x = y) ∨ (1 ≤ x ∧ 1 ≤ y ∧ ∀ q ∈ ps, (q.1 = x ↔ q.2 = y)) := by
  unfold nextOk
  by_cases hx : x < 1
  · have d : decide (x < 1) = true := by simpa using hx
    rw [d]
    by_cases e : x = y
    · subst e; simp [hx]
    · simp [e]; omega
  · have d : decide (x < 1) = false := by simpa using hx
    rw [d]
    by_cases hy : y < 1
    · have e : ¬ x = y := by omega
      simp [hy, e]; omega
    · have d2 : decide (y < 1) = false := by simpa using hy
      rw [d2]
      simp only [Bool.or_self, Bool.false_and, Bool.not_false, Bool.true_and, Bool.false_or, Bool.not_eq_true', clash_no]
      constructor
      · intro h; exact .inr ⟨by omega, by omega, h⟩
      · rintro (h | h)
        · omega
        · exact h.2.2

/-- Pairs that are a partial bijection of addresses. -/
structure PI (ps : Prs) : Prop where
  adr : ∀ q ∈ ps, (1 ≤ q.1 ∧ q.1 ≤ 8) ∧ (1 ≤ q.2 ∧ q.2 ≤ 8)
  bij : ∀ q ∈ ps, ∀ r ∈ ps, (q.1 = r.1 ↔ q.2 = r.2)
def Cp (p : List Int) (ps : Prs) : Prop := ∀ q ∈ ps, nm p q.1 = q.2

theorem PI.nil : PI [] := ⟨(fun _ h => by cases h), (fun _ h => by cases h)⟩
theorem PI.snoc {ps : Prs} (h : PI ps) {x y : Int} (hx : 1 ≤ x ∧ x ≤ 8) (hy : 1 ≤ y ∧ y ≤ 8) (hn : ∀ q ∈ ps, (q.1 = x ↔ q.2 = y)) : PI (ps ++ [(x, y)]) := by
  refine ⟨fun q hq => ?_, fun q hq r hr => ?_⟩
  · rcases List.mem_append.1 hq with hq | hq
    · exact h.adr q hq
    · simp at hq; subst hq; exact ⟨hx, hy⟩
  · rcases List.mem_append.1 hq with hq | hq <;> rcases List.mem_append.1 hr with hr | hr
    · exact h.bij q hq r hr
    · simp at hr; subst hr; exact hn q hq
    · simp at hq; subst hq
      have := hn r hr
      exact ⟨fun e => (this.1 e.symm).symm, fun e => (this.2 e.symm).symm⟩
    · simp at hq hr; subst hq; subst hr; simp
theorem Cp.snoc {p : List Int} {ps : Prs} (h : Cp p ps) {x y : Int} (e : nm p x = y) : Cp p (ps ++ [(x, y)]) := by
  intro q hq
  rcases List.mem_append.1 hq with hq | hq
  · exact h q hq
  · simp at hq; subst hq; exact e
/-- Under a permutation that agrees with the pairs the test passes. -/
theorem next_comp {p : List Int} (hg : goodTo p 8 = true) {ps : Prs} (hi : PI ps) (hc : Cp p ps) {x : Int} (hx : x ≤ 8) : nextOk ps x (nm p x) = true := by
  rw [nextOk_iff]
  by_cases h : x < 1
  · exact .inl ⟨h, by rw [nm_not (by rw [isAddrB_iff]; omega)]⟩
  · have ha : isAddrB x = true := isAddrB_iff.2 (by omega)
    have := nm_addr hg ha
    refine .inr ⟨by omega, this.1, fun q hq => ?_⟩
    rw [← hc q hq]
    have := (hi.adr q hq).1
    exact ⟨fun e => by rw [e], fun e => nm_inj hg (by omega) hx e⟩
theorem next_PI {ps : Prs} (hi : PI ps) {x y : Int} (hx : x ≤ 8) (hy : y ≤ 8) : PI (nextL ps x y) := by
  unfold nextL
  split
  · rename_i h
    rcases nextOk_iff.1 h.1 with ⟨h1, _⟩ | ⟨h1, h2, h3⟩
    · exact absurd h1 h.2
    · exact hi.snoc ⟨h1, hx⟩ ⟨h2, hy⟩ h3
  · exact hi
theorem next_Cp {p : List Int} {ps : Prs} (hc : Cp p ps) {x : Int} : Cp p (nextL ps x (nm p x)) := by
  unfold nextL
  split
  · exact hc.snoc rfl
  · exact hc

/-! ### Extension to a permutation -/
def addrs : List Int := sel (fun _ => true) 1 8
theorem mem_addrs {v : Int} : v ∈ addrs ↔ 1 ≤ v ∧ v ≤ 8 := by
  unfold addrs
  rw [mem_sel]
  constructor
  · rintro ⟨i, rfl, h1, h2, _⟩; omega
  · intro h; exact ⟨v.toNat, by omega, by omega, by omega, rfl⟩
theorem addrs_nd : addrs.Nodup := sel_nodup _ _ _
theorem addrs_len : addrs.length = 8 := by decide

theorem PI.nd {ps : Prs} (hi : PI ps) : ∀ {qs : Prs}, (∀ q ∈ qs, q ∈ ps) → (qs.map (·.1)).Nodup → (qs.map (·.2)).Nodup
  | [], _, _ => by simp
  | q :: qs, hs, hn => by
    rw [List.map_cons, List.nodup_cons] at hn ⊢
    refine ⟨fun hm => ?_, hi.nd (fun r hr => hs r (List.mem_cons_of_mem _ hr)) hn.2⟩
    obtain ⟨r, hr, e⟩ := List.mem_map.1 hm
    exact hn.1 (List.mem_map.2 ⟨r, hr, ((hi.bij r (hs r (List.mem_cons_of_mem _ hr)) q (hs q List.mem_cons_self)).2 e)⟩)

/-- The partner of an address. -/
def partner (ps : Prs) (v : Int) : Int := ((ps.find? fun q => q.1 == v).map (·.2)).getD 0
theorem partner_mem {ps : Prs} {v : Int} (h : known ps v = true) : (v, partner ps v) ∈ ps := by
  obtain ⟨y, hy⟩ := known_iff.1 h
  unfold partner
  cases hf : ps.find? fun q => q.1 == v with
  | none =>
    have := List.find?_eq_none.1 hf _ hy
    simp at this
  | some q =>
    have h1 := List.mem_of_find?_eq_some hf
    have h2 : q.1 = v := by simpa using List.find?_some hf
    simp only [Option.map_some, Option.getD_some]
    rw [← h2]; exact h1
theorem extend : ∀ (f : Nat) {ps : Prs}, PI ps → (ps.map (·.1)).Nodup → 8 ≤ ps.length + f → ∃ p, p.length = 8 ∧ goodTo p 8 = true ∧ Cp p ps := by
  intro f
  induction f with
  | zero =>
    intro ps hi hn hl
    have hall : ∀ v : Int, 1 ≤ v → v ≤ 8 → known ps v = true := by
      intro v h1 h8
      cases hk : known ps v with
      | true => rfl
      | false =>
        exfalso
        have hnv : ¬ v ∈ ps.map (·.1) := by
          intro hm
          obtain ⟨q, hq, e⟩ := List.mem_map.1 hm
          have : known ps v = true := known_iff.2 ⟨q.2, by rw [← e]; exact hq⟩
          rw [hk] at this; cases this
        have := sub_len (a := v :: ps.map (·.1)) (b := addrs) (List.nodup_cons.2 ⟨hnv, hn⟩) (fun x hx => by
          rcases List.mem_cons.1 hx with rfl | hx
          · exact mem_addrs.2 ⟨h1, h8⟩
          · obtain ⟨q, hq, rfl⟩ := List.mem_map.1 hx
            exact mem_addrs.2 (hi.adr q hq).1)
        rw [addrs_len] at this
        simp at this
        omega
    refine ⟨(List.range 8).map fun (k : Nat) => partner ps ((k : Int) + 1), by simp, ?_, ?_⟩
    · have hgi : ∀ i, i < 8 → gi ((List.range 8).map fun (k : Nat) => partner ps ((k : Int) + 1)) i = partner ps ((i : Int) + 1) := fun i hi => by
        rw [gi_of (by simpa using hi)]; simp
      refine good_of (fun i hi' => ?_) (fun i j hij hj e => ?_)
      · rw [hgi i hi']
        exact (hi.adr _ (partner_mem (hall _ (by omega) (by omega)))).2
      · rw [hgi i (by omega), hgi j hj] at e
        have := (hi.bij _ (partner_mem (hall ((i : Int) + 1) (by omega) (by omega))) _ (partner_mem (hall ((j : Int) + 1) (by omega) (by omega)))).2 e
        simp at this
        omega
    · intro q hq
      have ha := (hi.adr q hq).1
      have hk : known ps q.1 = true := known_iff.2 ⟨q.2, hq⟩
      obtain ⟨k, e⟩ : ∃ k : Nat, q.1 = (k : Int) + 1 := ⟨(q.1 - 1).toNat, by omega⟩
      have hk8 : k < 8 := by omega
      rw [e, nm_at hk8, gi_of (by simpa using hk8)]
      simp only [List.getElem_map, List.getElem_range]
      rw [← e]
      exact (hi.bij _ (partner_mem hk) _ hq).1 rfl
  | succ f ih =>
    intro ps hi hn hl
    by_cases hall : ∀ v ∈ addrs, known ps v = true
    · have hle := sub_len addrs_nd (b := ps.map (·.1)) (fun v hv => by
        obtain ⟨y, hy⟩ := known_iff.1 (hall v hv)
        exact List.mem_map.2 ⟨_, hy, rfl⟩)
      rw [addrs_len, List.length_map] at hle
      exact ih hi hn (by omega)
    · obtain ⟨x, hx, hk⟩ : ∃ x, x ∈ addrs ∧ known ps x = false := by
        apply Classical.byContradiction
        intro hh
        apply hall
        intro v hv
        cases hk : known ps v with
        | true => rfl
        | false => exact absurd ⟨v, hv, hk⟩ hh
      have hxn : ¬ x ∈ ps.map (·.1) := by
        intro hm
        obtain ⟨q, hq, e⟩ := List.mem_map.1 hm
        have : known ps x = true := known_iff.2 ⟨q.2, by rw [← e]; exact hq⟩
        rw [hk] at this; cases this
      have hlt := sub_len (a := x :: ps.map (·.1)) (b := addrs) (List.nodup_cons.2 ⟨hxn, hn⟩) (fun v hv => by
        rcases List.mem_cons.1 hv with rfl | hv
        · exact hx
        · obtain ⟨q, hq, rfl⟩ := List.mem_map.1 hv
          exact mem_addrs.2 (hi.adr q hq).1)
      rw [addrs_len] at hlt
      simp at hlt
      obtain ⟨y, hy, hyn⟩ : ∃ y, y ∈ addrs ∧ ¬ y ∈ ps.map (·.2) := by
        apply Classical.byContradiction
        intro hh
        have := sub_len addrs_nd (b := ps.map (·.2)) (fun v hv => by
          apply Classical.byContradiction
          intro hvn
          exact hh ⟨v, hv, hvn⟩)
        rw [addrs_len, List.length_map] at this
        omega
      have hi2 : PI (ps ++ [(x, y)]) := hi.snoc (mem_addrs.1 hx) (mem_addrs.1 hy) (fun q hq => ⟨fun e => absurd (List.mem_map.2 ⟨q, hq, e⟩) hxn, fun e => absurd (List.mem_map.2 ⟨q, hq, e⟩) hyn⟩)
      obtain ⟨p, hp8, hpg, hpc⟩ := ih hi2 (by
        rw [List.map_append, List.nodup_append]
        refine ⟨hn, by simp, fun a ha b hb e => ?_⟩
        simp at hb
        subst hb; subst e
        exact hxn ha) (by simp; omega)
      exact ⟨p, hp8, hpg, fun q hq => hpc q (List.mem_append_left _ hq)⟩
end Go.Proofs.Ytnhhfbhhglhocaa
