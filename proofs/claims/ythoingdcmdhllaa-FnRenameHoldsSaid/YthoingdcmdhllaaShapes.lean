/- Shapes: texts Shape, Shape2, Shape3, Shape4 in one. -/
import Derived.Test.YthoingdcmdhllaaPerms
import Derived.Test.YthoingdcmdhllaaCans
/- Shapes, in plain Lean: the program's search. -/
namespace Go.Proofs.Ythoingdcmdhllaa

/-- The names ns turn the one state into the other. -/
def isoB (vl hl vm hm ns : List Int) : Bool := decide (renV ns vl = vm) && decide (renH ns hl = hm)
/-- The last of the names ns agrees. -/
def fitB (vl hl vm hm ns : List Int) (n : Nat) : Bool :=
  ((List.range 8).all fun i => (gi vl i == (n : Int)) == (gi vm i == gi ns (n - 1))) &&
  (!((decide (ct hl n < 1) || decide (ct hm (gi ns (n - 1)) < 1)) && (ct hl n != ct hm (gi ns (n - 1)))) &&
  ((List.range n).all fun k => ((ct hl n == (k : Int) + 1) == (ct hm (gi ns (n - 1)) == gi ns k)) && ((ct hl ((k : Int) + 1) == (n : Int)) == (ct hm (gi ns k) == gi ns (n - 1)))))
/-- Names can be found for the addresses that have none. -/
def shN (vl hl vm hm : List Int) : Nat → List Int → Bool
  | 0, ns => isoB vl hl vm hm ns
  | f + 1, ns => (List.range 8).any fun m => !decide (((m : Int) + 1) ∈ ns) && (fitB vl hl vm hm (ns ++ [(m : Int) + 1]) (ns.length + 1) && shN vl hl vm hm f (ns ++ [(m : Int) + 1]))

/-- Two states of one shape. -/
def Iso (vl hl vm hm ns : List Int) : Prop := ns.length = 8 ∧ goodTo ns 8 = true ∧ renV ns vl = vm ∧ renH ns hl = hm

theorem goodL_of {ns : List Int} (h8 : ns.length = 8) (hg : goodTo ns 8 = true) : GoodL ns := by unfold GoodL; rw [h8]; exact hg
theorem nm_at {p : List Int} {k : Nat} (hk : k < 8) : nm p ((k : Int) + 1) = gi p k := by
  rw [nm, if_pos (isAddrB_iff.2 (by omega))]; congr 1; omega
theorem beq_iff_bool {a b c d : Int} (h : a = b ↔ c = d) : ((a == b) == (c == d)) = true := by
  by_cases e : a = b
  · have e2 := h.1 e
    subst e; subst e2; simp
  · have e2 : ¬ c = d := fun hh => e (h.2 hh)
    rw [beq_eq_false_iff_ne.2 e, beq_eq_false_iff_ne.2 e2]; rfl

theorem fit_iso {vl hl vm hm p : List Int} (hv : validB vl hl = true) (h : Iso vl hl vm hm p) {ns : List Int} {n : Nat} (h1 : 1 ≤ n) (h8 : n ≤ 8) (hp : ∀ k, k < n → gi ns k = gi p k) : fitB vl hl vm hm ns n = true := by
  obtain ⟨p8, hg, hV, hH⟩ := h
  have hlen := valid_len hv
  have en : gi ns (n - 1) = nm p (n : Int) := by
    rw [hp _ (by omega), ← nm_at (show n - 1 < 8 by omega)]
    congr 1; omega
  have ek : ∀ k, k < n → gi ns k = nm p ((k : Int) + 1) := fun k hk => by rw [hp k hk, nm_at (by omega)]
  have ec : ∀ v : Int, ct hm (nm p v) = nm p (ct hl v) := fun v => by rw [← hH]; exact ct_ren hlen.2 hg v
  have inj : ∀ u v : Int, u ≤ 8 → v ≤ 8 → (u = v ↔ nm p u = nm p v) := fun u v hu hv => ⟨fun e => by rw [e], fun e => nm_inj hg hu hv e⟩
  have c8 : ∀ v, ct hl v ≤ 8 := fun v => (valid_ct hv v).2
  unfold fitB
  rw [en, ec]
  simp only [Bool.and_eq_true, List.all_eq_true, List.mem_range]
  refine ⟨fun i hi => ?_, ?_, fun k hk => ⟨?_, ?_⟩⟩
  · have : gi vm i = nm p (gi vl i) := by rw [← hV]; exact gi_renV (by omega)
    rw [this]
    exact beq_iff_bool (inj _ _ (valid_vat hv hi).2 (by omega))
  · have hc := valid_ct hv (n : Int)
    by_cases e : ct hl (n : Int) = nm p (ct hl (n : Int))
    · simp [← e]
    · have ha : isAddrB (ct hl (n : Int)) = true := by
        cases hh : isAddrB (ct hl (n : Int)) with
        | true => rfl
        | false => exact absurd (nm_not (by rw [hh]; simp)).symm e
      have h1 := isAddrB_iff.1 ha
      have h2 := nm_addr hg ha
      have d1 : decide (ct hl (n : Int) < 1) = false := by simp; omega
      have d2 : decide (nm p (ct hl (n : Int)) < 1) = false := by simp; omega
      rw [d1, d2]; rfl
  · rw [ek k hk]
    exact beq_iff_bool (inj _ _ (c8 _) (by omega))
  · rw [ek k hk, ec]
    exact beq_iff_bool (inj _ _ (c8 _) (by omega))

theorem sh_iff {vl hl vm hm : List Int} (hv : validB vl hl = true) : ∀ {f : Nat} {ns : List Int}, ns.length + f = 8 → GoodL ns → (shN vl hl vm hm f ns = true ↔ ∃ t, Iso vl hl vm hm (ns ++ t))
  | 0, ns, hf, hg => by
    have h8 : ns.length = 8 := by omega
    constructor
    · intro h
      simp only [shN, isoB, Bool.and_eq_true, decide_eq_true_eq] at h
      refine ⟨[], ?_⟩
      rw [List.append_nil]
      refine ⟨h8, ?_, h.1, h.2⟩
      unfold GoodL at hg
      rwa [h8] at hg
    · rintro ⟨t, h⟩
      have : t = [] := by
        have := h.1
        rw [List.length_append] at this
        exact List.eq_nil_of_length_eq_zero (by omega)
      subst this
      rw [List.append_nil] at h
      simp [shN, isoB, h.2.2.1, h.2.2.2]
  | f + 1, ns, hf, hg => by
    constructor
    · intro h
      simp only [shN, List.any_eq_true, List.mem_range, Bool.and_eq_true, Bool.not_eq_true', decide_eq_false_iff_not] at h
      obtain ⟨m, hm8, hm, _, hs⟩ := h
      have ha : isAddrB ((m : Int) + 1) = true := isAddrB_iff.2 (by omega)
      obtain ⟨t, ht⟩ := (sh_iff hv (by simp; omega) (goodL_snoc hg ha hm)).1 hs
      exact ⟨((m : Int) + 1) :: t, by simpa using ht⟩
    · rintro ⟨t, h⟩
      have hl := h.1
      rw [List.length_append] at hl
      cases t with
      | nil => simp at hl; omega
      | cons x t =>
        have hgp := goodL_of h.1 h.2.1
        have hx := goodL_mem hgp (v := x) (by simp)
        have hxi : gi (ns ++ x :: t) ns.length = x := by rw [gi_app, if_neg (by omega)]; simp [gi]
        have hn : ¬ x ∈ ns := by
          intro hm
          obtain ⟨i, hi, e⟩ := List.getElem_of_mem hm
          have e2 : gi (ns ++ x :: t) i = x := by rw [gi_app, if_pos hi, gi_of hi, e]
          have := good_inj' (ns := ns ++ x :: t) (i := i) (j := ns.length) (m := 8) (by omega) (by simp at hl; omega) h.2.1 (by rw [e2, hxi])
          omega
        obtain ⟨m, rfl⟩ : ∃ m : Nat, x = (m : Int) + 1 := ⟨(x - 1).toNat, by omega⟩
        have ha : isAddrB ((m : Int) + 1) = true := isAddrB_iff.2 (by omega)
        simp only [shN, List.any_eq_true, List.mem_range, Bool.and_eq_true, Bool.not_eq_true', decide_eq_false_iff_not]
        refine ⟨m, by omega, hn, ?_, ?_⟩
        · refine fit_iso hv h (by omega) (by simp at hl; omega) fun k hk => ?_
          rw [show ns ++ ((m : Int) + 1) :: t = (ns ++ [(m : Int) + 1]) ++ t by simp, gi_app (m := t), if_pos (by simp; omega)]
        · exact (sh_iff hv (by simp; omega) (goodL_snoc hg ha hn)).2 ⟨t, by simpa using h⟩

/-- Whether two states have the same shape. -/
def shapeB (vl hl vm hm : List Int) : Bool := (validB vl hl && validB vm hm) && shN vl hl vm hm 8 []
theorem shape_iff {vl hl vm hm : List Int} : shapeB vl hl vm hm = true ↔ validB vl hl = true ∧ validB vm hm = true ∧ ∃ p, Iso vl hl vm hm p := by
  unfold shapeB
  constructor
  · intro h
    simp only [Bool.and_eq_true] at h
    obtain ⟨t, ht⟩ := (sh_iff h.1.1 rfl goodL_nil).1 h.2
    exact ⟨h.1.1, h.1.2, t, ht⟩
  · rintro ⟨h1, h2, p, hp⟩
    rw [h1, h2, (sh_iff (ns := []) h1 rfl goodL_nil).2 ⟨p, hp⟩]; rfl
end Go.Proofs.Ythoingdcmdhllaa
/- Shapes, in plain Lean: the reference's search by pairs. -/
namespace Go.Proofs.Ythoingdcmdhllaa

abbrev Prs := List (Int × Int)
def known (ps : Prs) (v : Int) : Bool := ps.any fun q => q.1 == v
def clash (ps : Prs) (x y : Int) : Bool := ps.any fun q => (q.1 == x) != (q.2 == y)
def nextOk (ps : Prs) (x y : Int) : Bool := !((decide (x < 1) || decide (y < 1)) && (x != y)) && (decide (x < 1) || !clash ps x y)
def nextL (ps : Prs) (x y : Int) : Prs := if nextOk ps x y = true ∧ ¬ x < 1 then ps ++ [(x, y)] else ps

theorem known_iff {ps : Prs} {v : Int} : known ps v = true ↔ ∃ y, (v, y) ∈ ps := by
  simp only [known, List.any_eq_true, beq_iff_eq]
  constructor
  · rintro ⟨q, hq, rfl⟩; exact ⟨q.2, hq⟩
  · rintro ⟨y, h⟩; exact ⟨_, h, rfl⟩
theorem clash_no {ps : Prs} {x y : Int} : clash ps x y = false ↔ ∀ q ∈ ps, (q.1 = x ↔ q.2 = y) := by
  have key : ∀ q : Int × Int, ((q.1 == x) != (q.2 == y)) = true ↔ ¬ (q.1 = x ↔ q.2 = y) := by
    intro q
    by_cases e1 : q.1 = x
    · by_cases e2 : q.2 = y
      · simp [e1, e2]
      · rw [beq_eq_false_iff_ne.2 e2]; simp [e1, e2]
    · by_cases e2 : q.2 = y
      · rw [beq_eq_false_iff_ne.2 e1]; simp [e1, e2]
      · rw [beq_eq_false_iff_ne.2 e1, beq_eq_false_iff_ne.2 e2]; simp [e1, e2]
  simp only [clash, List.any_eq_false, key, Classical.not_not]
/-- What a passed test says. -/
theorem nextOk_iff {ps : Prs} {x y : Int} : nextOk ps x y = true ↔ (x < 1 ∧ x = y) ∨ (1 ≤ x ∧ 1 ≤ y ∧ ∀ q ∈ ps, (q.1 = x ↔ q.2 = y)) := by
  unfold nextOk
  by_cases hx : x < 1
  · have d : decide (x < 1) = true := by simpa using hx
    rw [d]
    by_cases e : x = y
    · subst e; simp [hx]
    · simp [e]; omega
  · have d : decide (x < 1) = false := by simpa using hx
    rw [d]
    by_cases hy : y < 1
    · have e : ¬ x = y := by omega
      simp [hy, e]; omega
    · have d2 : decide (y < 1) = false := by simpa using hy
      rw [d2]
      simp only [Bool.or_self, Bool.false_and, Bool.not_false, Bool.true_and, Bool.false_or, Bool.not_eq_true', clash_no]
      constructor
      · intro h; exact .inr ⟨by omega, by omega, h⟩
      · rintro (h | h)
        · omega
        · exact h.2.2

/-- Pairs that are a partial bijection of addresses. -/
structure PI (ps : Prs) : Prop where
  adr : ∀ q ∈ ps, (1 ≤ q.1 ∧ q.1 ≤ 8) ∧ (1 ≤ q.2 ∧ q.2 ≤ 8)
  bij : ∀ q ∈ ps, ∀ r ∈ ps, (q.1 = r.1 ↔ q.2 = r.2)
def Cp (p : List Int) (ps : Prs) : Prop := ∀ q ∈ ps, nm p q.1 = q.2

theorem PI.nil : PI [] := ⟨(fun _ h => by cases h), (fun _ h => by cases h)⟩
theorem PI.snoc {ps : Prs} (h : PI ps) {x y : Int} (hx : 1 ≤ x ∧ x ≤ 8) (hy : 1 ≤ y ∧ y ≤ 8) (hn : ∀ q ∈ ps, (q.1 = x ↔ q.2 = y)) : PI (ps ++ [(x, y)]) := by
  refine ⟨fun q hq => ?_, fun q hq r hr => ?_⟩
  · rcases List.mem_append.1 hq with hq | hq
    · exact h.adr q hq
    · simp at hq; subst hq; exact ⟨hx, hy⟩
  · rcases List.mem_append.1 hq with hq | hq <;> rcases List.mem_append.1 hr with hr | hr
    · exact h.bij q hq r hr
    · simp at hr; subst hr; exact hn q hq
    · simp at hq; subst hq
      have := hn r hr
      exact ⟨fun e => (this.1 e.symm).symm, fun e => (this.2 e.symm).symm⟩
    · simp at hq hr; subst hq; subst hr; simp
theorem Cp.snoc {p : List Int} {ps : Prs} (h : Cp p ps) {x y : Int} (e : nm p x = y) : Cp p (ps ++ [(x, y)]) := by
  intro q hq
  rcases List.mem_append.1 hq with hq | hq
  · exact h q hq
  · simp at hq; subst hq; exact e
/-- Under a permutation that agrees with the pairs the test passes. -/
theorem next_comp {p : List Int} (hg : goodTo p 8 = true) {ps : Prs} (hi : PI ps) (hc : Cp p ps) {x : Int} (hx : x ≤ 8) : nextOk ps x (nm p x) = true := by
  rw [nextOk_iff]
  by_cases h : x < 1
  · exact .inl ⟨h, by rw [nm_not (by rw [isAddrB_iff]; omega)]⟩
  · have ha : isAddrB x = true := isAddrB_iff.2 (by omega)
    have := nm_addr hg ha
    refine .inr ⟨by omega, this.1, fun q hq => ?_⟩
    rw [← hc q hq]
    have := (hi.adr q hq).1
    exact ⟨fun e => by rw [e], fun e => nm_inj hg (by omega) hx e⟩
theorem next_PI {ps : Prs} (hi : PI ps) {x y : Int} (hx : x ≤ 8) (hy : y ≤ 8) : PI (nextL ps x y) := by
  unfold nextL
  split
  · rename_i h
    rcases nextOk_iff.1 h.1 with ⟨h1, _⟩ | ⟨h1, h2, h3⟩
    · exact absurd h1 h.2
    · exact hi.snoc ⟨h1, hx⟩ ⟨h2, hy⟩ h3
  · exact hi
theorem next_Cp {p : List Int} {ps : Prs} (hc : Cp p ps) {x : Int} : Cp p (nextL ps x (nm p x)) := by
  unfold nextL
  split
  · exact hc.snoc rfl
  · exact hc

/-! ### Extension to a permutation -/
def addrs : List Int := sel (fun _ => true) 1 8
theorem mem_addrs {v : Int} : v ∈ addrs ↔ 1 ≤ v ∧ v ≤ 8 := by
  unfold addrs
  rw [mem_sel]
  constructor
  · rintro ⟨i, rfl, h1, h2, _⟩; omega
  · intro h; exact ⟨v.toNat, by omega, by omega, by omega, rfl⟩
theorem addrs_nd : addrs.Nodup := sel_nodup _ _ _
theorem addrs_len : addrs.length = 8 := by decide

theorem PI.nd {ps : Prs} (hi : PI ps) : ∀ {qs : Prs}, (∀ q ∈ qs, q ∈ ps) → (qs.map (·.1)).Nodup → (qs.map (·.2)).Nodup
  | [], _, _ => by simp
  | q :: qs, hs, hn => by
    rw [List.map_cons, List.nodup_cons] at hn ⊢
    refine ⟨fun hm => ?_, hi.nd (fun r hr => hs r (List.mem_cons_of_mem _ hr)) hn.2⟩
    obtain ⟨r, hr, e⟩ := List.mem_map.1 hm
    exact hn.1 (List.mem_map.2 ⟨r, hr, ((hi.bij r (hs r (List.mem_cons_of_mem _ hr)) q (hs q List.mem_cons_self)).2 e)⟩)

/-- The partner of an address. -/
def partner (ps : Prs) (v : Int) : Int := ((ps.find? fun q => q.1 == v).map (·.2)).getD 0
theorem partner_mem {ps : Prs} {v : Int} (h : known ps v = true) : (v, partner ps v) ∈ ps := by
  obtain ⟨y, hy⟩ := known_iff.1 h
  unfold partner
  cases hf : ps.find? fun q => q.1 == v with
  | none =>
    have := List.find?_eq_none.1 hf _ hy
    simp at this
  | some q =>
    have h1 := List.mem_of_find?_eq_some hf
    have h2 : q.1 = v := by simpa using List.find?_some hf
    simp only [Option.map_some, Option.getD_some]
    rw [← h2]; exact h1
theorem extend : ∀ (f : Nat) {ps : Prs}, PI ps → (ps.map (·.1)).Nodup → 8 ≤ ps.length + f → ∃ p, p.length = 8 ∧ goodTo p 8 = true ∧ Cp p ps := by
  intro f
  induction f with
  | zero =>
    intro ps hi hn hl
    have hall : ∀ v : Int, 1 ≤ v → v ≤ 8 → known ps v = true := by
      intro v h1 h8
      cases hk : known ps v with
      | true => rfl
      | false =>
        exfalso
        have hnv : ¬ v ∈ ps.map (·.1) := by
          intro hm
          obtain ⟨q, hq, e⟩ := List.mem_map.1 hm
          have : known ps v = true := known_iff.2 ⟨q.2, by rw [← e]; exact hq⟩
          rw [hk] at this; cases this
        have := sub_len (a := v :: ps.map (·.1)) (b := addrs) (List.nodup_cons.2 ⟨hnv, hn⟩) (fun x hx => by
          rcases List.mem_cons.1 hx with rfl | hx
          · exact mem_addrs.2 ⟨h1, h8⟩
          · obtain ⟨q, hq, rfl⟩ := List.mem_map.1 hx
            exact mem_addrs.2 (hi.adr q hq).1)
        rw [addrs_len] at this
        simp at this
        omega
    refine ⟨(List.range 8).map fun (k : Nat) => partner ps ((k : Int) + 1), by simp, ?_, ?_⟩
    · have hgi : ∀ i, i < 8 → gi ((List.range 8).map fun (k : Nat) => partner ps ((k : Int) + 1)) i = partner ps ((i : Int) + 1) := fun i hi => by
        rw [gi_of (by simpa using hi)]; simp
      refine good_of (fun i hi' => ?_) (fun i j hij hj e => ?_)
      · rw [hgi i hi']
        exact (hi.adr _ (partner_mem (hall _ (by omega) (by omega)))).2
      · rw [hgi i (by omega), hgi j hj] at e
        have := (hi.bij _ (partner_mem (hall ((i : Int) + 1) (by omega) (by omega))) _ (partner_mem (hall ((j : Int) + 1) (by omega) (by omega)))).2 e
        simp at this
        omega
    · intro q hq
      have ha := (hi.adr q hq).1
      have hk : known ps q.1 = true := known_iff.2 ⟨q.2, hq⟩
      obtain ⟨k, e⟩ : ∃ k : Nat, q.1 = (k : Int) + 1 := ⟨(q.1 - 1).toNat, by omega⟩
      have hk8 : k < 8 := by omega
      rw [e, nm_at hk8, gi_of (by simpa using hk8)]
      simp only [List.getElem_map, List.getElem_range]
      rw [← e]
      exact (hi.bij _ (partner_mem hk) _ hq).1 rfl
  | succ f ih =>
    intro ps hi hn hl
    by_cases hall : ∀ v ∈ addrs, known ps v = true
    · have hle := sub_len addrs_nd (b := ps.map (·.1)) (fun v hv => by
        obtain ⟨y, hy⟩ := known_iff.1 (hall v hv)
        exact List.mem_map.2 ⟨_, hy, rfl⟩)
      rw [addrs_len, List.length_map] at hle
      exact ih hi hn (by omega)
    · obtain ⟨x, hx, hk⟩ : ∃ x, x ∈ addrs ∧ known ps x = false := by
        apply Classical.byContradiction
        intro hh
        apply hall
        intro v hv
        cases hk : known ps v with
        | true => rfl
        | false => exact absurd ⟨v, hv, hk⟩ hh
      have hxn : ¬ x ∈ ps.map (·.1) := by
        intro hm
        obtain ⟨q, hq, e⟩ := List.mem_map.1 hm
        have : known ps x = true := known_iff.2 ⟨q.2, by rw [← e]; exact hq⟩
        rw [hk] at this; cases this
      have hlt := sub_len (a := x :: ps.map (·.1)) (b := addrs) (List.nodup_cons.2 ⟨hxn, hn⟩) (fun v hv => by
        rcases List.mem_cons.1 hv with rfl | hv
        · exact hx
        · obtain ⟨q, hq, rfl⟩ := List.mem_map.1 hv
          exact mem_addrs.2 (hi.adr q hq).1)
      rw [addrs_len] at hlt
      simp at hlt
      obtain ⟨y, hy, hyn⟩ : ∃ y, y ∈ addrs ∧ ¬ y ∈ ps.map (·.2) := by
        apply Classical.byContradiction
        intro hh
        have := sub_len addrs_nd (b := ps.map (·.2)) (fun v hv => by
          apply Classical.byContradiction
          intro hvn
          exact hh ⟨v, hv, hvn⟩)
        rw [addrs_len, List.length_map] at this
        omega
      have hi2 : PI (ps ++ [(x, y)]) := hi.snoc (mem_addrs.1 hx) (mem_addrs.1 hy) (fun q hq => ⟨fun e => absurd (List.mem_map.2 ⟨q, hq, e⟩) hxn, fun e => absurd (List.mem_map.2 ⟨q, hq, e⟩) hyn⟩)
      obtain ⟨p, hp8, hpg, hpc⟩ := ih hi2 (by
        rw [List.map_append, List.nodup_append]
        refine ⟨hn, by simp, fun a ha b hb e => ?_⟩
        simp at hb
        subst hb; subst e
        exact hxn ha) (by simp; omega)
      exact ⟨p, hp8, hpg, fun q hq => hpc q (List.mem_append_left _ hq)⟩
end Go.Proofs.Ythoingdcmdhllaa
/- Shapes, in plain Lean: the reference's search finds what the program's finds. -/
namespace Go.Proofs.Ythoingdcmdhllaa

/-- The first pair whose contents do not correspond, or are new. none: there is none; some none: no; some (some q): on with q. -/
def scanP (hl hm : List Int) (ps : Prs) : Prs → Option (Option Prs)
  | [] => none
  | q :: r => if nextOk ps (ct hl q.1) (ct hm q.2) = false then some none
    else if known ps (ct hl q.1) = false ∧ 1 ≤ ct hl q.1 then some (some (nextL ps (ct hl q.1) (ct hm q.2)))
    else scanP hl hm ps r
/-- The first open cell from n on, c cells looked at. -/
def openP (hl : List Int) (ps : Prs) : Nat → Nat → Option Nat
  | 0, _ => none
  | c + 1, n => if alB hl (n : Int) = true ∧ known ps (n : Int) = false then some n else openP hl ps c (n + 1)
def matchF (hl hm : List Int) : Nat → Prs → Nat → Bool
  | 0, _, _ => false
  | f + 1, ps, n =>
    match scanP hl hm ps ps with
    | some none => false
    | some (some q) => matchF hl hm f q n
    | none =>
      match openP hl ps (9 - n) n with
      | some k => (List.range 8).any fun m => nextOk ps (k : Int) ((m : Int) + 1) && (alB hm ((m : Int) + 1) && matchF hl hm f (nextL ps (k : Int) ((m : Int) + 1)) (k + 1))
      | none => decide ((usedA' hl).length = (usedA' hm).length)

theorem scan_none {hl hm : List Int} {ps : Prs} : ∀ {r : Prs}, scanP hl hm ps r = none → ∀ q ∈ r, nextOk ps (ct hl q.1) (ct hm q.2) = true ∧ (known ps (ct hl q.1) = true ∨ ct hl q.1 < 1)
  | [], _, q, hq => by cases hq
  | a :: r, h, q, hq => by
    unfold scanP at h
    split at h
    · cases h
    · rename_i h1
      split at h
      · cases h
      · rename_i h2
        rcases List.mem_cons.1 hq with rfl | hq
        · refine ⟨by simpa using h1, ?_⟩
          cases hk : known ps (ct hl q.1) with
          | true => exact .inl rfl
          | false => rw [hk] at h2; simp at h2; exact .inr (by omega)
        · exact scan_none h q hq
theorem scan_ext {hl hm : List Int} {ps qs : Prs} : ∀ {r : Prs}, scanP hl hm ps r = some (some qs) → ∃ q ∈ r, nextOk ps (ct hl q.1) (ct hm q.2) = true ∧ known ps (ct hl q.1) = false ∧ 1 ≤ ct hl q.1 ∧ qs = nextL ps (ct hl q.1) (ct hm q.2)
  | [], h => by cases h
  | a :: r, h => by
    unfold scanP at h
    split at h
    · cases h
    · rename_i h1
      split at h
      · rename_i h2
        injection h with h
        injection h with h
        exact ⟨a, List.mem_cons_self, by simpa using h1, h2.1, h2.2, h.symm⟩
      · obtain ⟨q, hq, hh⟩ := scan_ext h
        exact ⟨q, List.mem_cons_of_mem _ hq, hh⟩
theorem scan_fail {hl hm : List Int} {ps : Prs} : ∀ {r : Prs}, scanP hl hm ps r = some none → ∃ q ∈ r, nextOk ps (ct hl q.1) (ct hm q.2) = false
  | [], h => by cases h
  | a :: r, h => by
    unfold scanP at h
    split at h
    · rename_i h1; exact ⟨a, List.mem_cons_self, h1⟩
    · split at h
      · cases h
      · obtain ⟨q, hq, hh⟩ := scan_fail h
        exact ⟨q, List.mem_cons_of_mem _ hq, hh⟩
theorem open_some {hl : List Int} {ps : Prs} {k : Nat} : ∀ {c n : Nat}, openP hl ps c n = some k → alB hl (k : Int) = true ∧ known ps (k : Int) = false ∧ n ≤ k ∧ k < n + c ∧ ∀ j, n ≤ j → j < k → alB hl (j : Int) = true → known ps (j : Int) = true
  | 0, _, h => by cases h
  | c + 1, n, h => by
    unfold openP at h
    split at h
    · rename_i h1
      injection h with h
      subst h
      exact ⟨h1.1, h1.2, Nat.le_refl _, by omega, fun j _ _ => by omega⟩
    · rename_i h1
      obtain ⟨a, b, c1, d, e⟩ := open_some h
      refine ⟨a, b, by omega, by omega, fun j hj hk ha => ?_⟩
      by_cases ej : j = n
      · subst ej
        cases hh : known ps (j : Int) with
        | true => rfl
        | false => exact absurd ⟨ha, hh⟩ h1
      · exact e j (by omega) hk ha
theorem open_none {hl : List Int} {ps : Prs} : ∀ {c n : Nat}, openP hl ps c n = none → ∀ j, n ≤ j → j < n + c → alB hl (j : Int) = true → known ps (j : Int) = true
  | 0, _, _, j, h1, h2 => by omega
  | c + 1, n, h, j, h1, h2 => by
    unfold openP at h
    split at h
    · cases h
    · rename_i hn
      intro ha
      by_cases ej : j = n
      · subst ej
        cases hh : known ps (j : Int) with
        | true => rfl
        | false => exact absurd ⟨ha, hh⟩ hn
      · exact open_none h j (by omega) (by omega) ha

theorem nextL_new {ps : Prs} {x y : Int} (h : nextOk ps x y = true) (hx : 1 ≤ x) : nextL ps x y = ps ++ [(x, y)] := by
  rw [nextL, if_pos ⟨h, by omega⟩]
theorem firsts_snoc {ps : Prs} {x y : Int} (hn : (ps.map (·.1)).Nodup) (hk : known ps x = false) : ((ps ++ [(x, y)]).map (·.1)).Nodup := by
  rw [List.map_append, List.nodup_append]
  refine ⟨hn, by simp, fun a ha b hb e => ?_⟩
  simp at hb
  subst hb; subst e
  obtain ⟨q, hq, e⟩ := List.mem_map.1 ha
  have : known ps a = true := known_iff.2 ⟨q.2, by rw [← e]; exact hq⟩
  rw [hk] at this; cases this
theorem known_snoc {ps : Prs} {x y v : Int} (h : known ps v = true) : known (ps ++ [(x, y)]) v = true := by
  obtain ⟨z, hz⟩ := known_iff.1 h
  exact known_iff.2 ⟨z, List.mem_append_left _ hz⟩
theorem al_le {hs : List Int} {v : Int} (h : alB hs v = true) : isAddrB v = true := isAddrB_iff.2 (al_addr h)
theorem al_false {vl hl : List Int} (hv : validB vl hl = true) {v : Int} (h : ¬ alB hl v = true) : ct hl v = -1 := by
  have := (valid_ct hv v).1
  unfold alB at h
  simp at h
  omega

/-- Closed pairs make a permutation of the heap. -/
theorem closed_ren {vl hl vm hm : List Int} (hv : validB vl hl = true) (hw : validB vm hm = true) {ps : Prs} (hi : PI ps) (hn : (ps.map (·.1)).Nodup)
    (hs : scanP hl hm ps ps = none) (hall : ∀ v, alB hl v = true → known ps v = true) (hu : (usedA' hl).length = (usedA' hm).length) : ∃ p, p.length = 8 ∧ goodTo p 8 = true ∧ Cp p ps ∧ renH p hl = hm := by
  obtain ⟨p, hp8, hg, hc⟩ := extend 8 hi hn (by omega)
  refine ⟨p, hp8, hg, hc, ?_⟩
  have hl8 := (valid_len hv).2
  have hm8 := (valid_len hw).2
  have pair : ∀ x, known ps x = true → ct hm (nm p x) = nm p (ct hl x) := by
    intro x hk
    obtain ⟨y, hy⟩ := known_iff.1 hk
    have ey := hc _ hy
    obtain ⟨h1, h2⟩ := scan_none hs _ hy
    simp only at ey h1 h2
    rw [ey]
    rcases nextOk_iff.1 h1 with ⟨h3, h4⟩ | ⟨h3, h4, h5⟩
    · rw [← h4, nm_not (by rw [isAddrB_iff]; omega)]
    · rcases h2 with h2 | h2
      · obtain ⟨z, hz⟩ := known_iff.1 h2
        have e1 := (h5 _ hz).1 rfl
        have e2 := hc _ hz
        simp only at e1 e2
        rw [e2, e1]
      · omega
  have alp : ∀ x, alB hl x = true → alB hm (nm p x) = true := by
    intro x hx
    have e := pair x (hall x hx)
    have hcx := valid_ct hv x
    have := nm_val hg hcx.1 hcx.2
    have h0 : 0 ≤ ct hl x := by simpa [alB] using hx
    simp only [alB, decide_eq_true_eq]
    rw [e]; exact this.2.2.1 h0
  have onto : ∀ x, isAddrB x = true → alB hm (nm p x) = true → alB hl x = true := by
    intro x hax hx
    apply Classical.byContradiction
    intro hnx
    have h8 := isAddrB_iff.1 hax
    have hnd : ((x :: usedA' hl).map (nm p)).Nodup := map_nodup hg (fun y hy => by
      rcases List.mem_cons.1 hy with rfl | hy
      · exact h8.2
      · exact (al_addr (mem_used.1 hy)).2) (List.nodup_cons.2 ⟨fun hm' => hnx (mem_used.1 hm'), sel_nodup _ _ _⟩)
    have := sub_len hnd (b := usedA' hm) (fun z hz => by
      obtain ⟨y, hy, rfl⟩ := List.mem_map.1 hz
      rw [mem_used]
      rcases List.mem_cons.1 hy with rfl | hy
      · exact hx
      · exact alp y (mem_used.1 hy))
    simp at this
    omega
  refine gi_ext (by rw [renH_len, hl8, hm8]) fun i hi' => ?_
  rw [renH_len, hl8] at hi'
  obtain ⟨j, h1, h2, h3⟩ := renH_all hl8 hg hi'
  have ej : gi hl j = ct hl ((j : Int) + 1) := by rw [ct, if_pos (isAddrB_iff.2 (by omega))]; congr 1; omega
  have ei : gi hm i = ct hm ((i : Int) + 1) := by rw [ct, if_pos (isAddrB_iff.2 (by omega))]; congr 1; omega
  have ep : nm p ((j : Int) + 1) = (i : Int) + 1 := by rw [nm_at h1, h2]
  rw [h3, ej, ei, ← ep]
  by_cases hk : known ps ((j : Int) + 1) = true
  · exact (pair _ hk).symm
  · have hna : ¬ alB hl ((j : Int) + 1) = true := fun ha => hk (hall _ ha)
    rw [al_false hv hna, nm_not (by decide)]
    have : ¬ alB hm (nm p ((j : Int) + 1)) = true := fun ha => hna (onto _ (isAddrB_iff.2 (by omega)) ha)
    exact (al_false hw this).symm

theorem match_sound {vl hl vm hm : List Int} (hv : validB vl hl = true) (hw : validB vm hm = true) : ∀ {f : Nat} {ps : Prs} {n : Nat}, PI ps → (ps.map (·.1)).Nodup → 1 ≤ n → n ≤ 9 → (∀ j : Nat, j < n → alB hl (j : Int) = true → known ps (j : Int) = true) → matchF hl hm f ps n = true → ∃ p, p.length = 8 ∧ goodTo p 8 = true ∧ Cp p ps ∧ renH p hl = hm
  | 0, _, _, _, _, _, _, _, h => by cases h
  | f + 1, ps, n, hi, hn, h1, h9, ho, h => by
    unfold matchF at h
    split at h
    · cases h
    · rename_i qs hs
      obtain ⟨q, hq, k1, k2, k3, rfl⟩ := scan_ext hs
      have c1 := valid_ct hv q.1
      have c2 := valid_ct hw q.2
      have hi2 := next_PI (ps := ps) hi c1.2 c2.2
      rw [nextL_new k1 k3] at h hi2
      obtain ⟨p, a, b, c, d⟩ := match_sound hv hw hi2 (firsts_snoc hn k2) h1 h9 (fun j hj ha => known_snoc (ho j hj ha)) h
      exact ⟨p, a, b, fun r hr => c r (List.mem_append_left _ hr), d⟩
    · rename_i hs
      split at h
      · rename_i k hk
        obtain ⟨o1, o2, o3, o4, o5⟩ := open_some hk
        simp only [List.any_eq_true, List.mem_range, Bool.and_eq_true] at h
        obtain ⟨m, hm8, k1, k2, k3⟩ := h
        have ha := al_addr o1
        have hi2 := next_PI (ps := ps) hi (x := (k : Int)) (y := (m : Int) + 1) (by omega) (by omega)
        rw [nextL_new k1 (by omega)] at k3 hi2
        obtain ⟨p, a, b, c, d⟩ := match_sound hv hw hi2 (firsts_snoc hn o2) (by omega) (by omega) (fun j hj haj => by
          by_cases ej : j = k
          · subst ej; exact known_iff.2 ⟨(m : Int) + 1, by simp⟩
          · by_cases hjn : j < n
            · exact known_snoc (ho j hjn haj)
            · exact known_snoc (o5 j (by omega) (by omega) haj)) k3
        exact ⟨p, a, b, fun r hr => c r (List.mem_append_left _ hr), d⟩
      · rename_i hk
        have hno := open_none hk
        refine closed_ren hv hw hi hn hs (fun v hav => ?_) (by simpa using h)
        have hva := al_addr hav
        have ev : ((v.toNat : Nat) : Int) = v := by omega
        rw [← ev] at hav ⊢
        by_cases hjn : v.toNat < n
        · exact ho _ hjn hav
        · exact hno _ (by omega) (by omega) hav

theorem match_comp {vl hl hm : List Int} (hv : validB vl hl = true) {p : List Int} (hp8 : p.length = 8) (hg : goodTo p 8 = true) (hH : renH p hl = hm) : ∀ {f : Nat} {ps : Prs} {n : Nat}, PI ps → (ps.map (·.1)).Nodup → Cp p ps → 9 ≤ ps.length + f → matchF hl hm f ps n = true
  | 0, ps, n, hi, hn, hc, hf => by
    exfalso
    have := sub_len hn (b := addrs) (fun x hx => by
      obtain ⟨q, hq, rfl⟩ := List.mem_map.1 hx
      exact mem_addrs.2 (hi.adr q hq).1)
    rw [addrs_len, List.length_map] at this
    omega
  | f + 1, ps, n, hi, hn, hc, hf => by
    have hl8 := (valid_len hv).2
    have ec : ∀ v : Int, ct hm (nm p v) = nm p (ct hl v) := fun v => by rw [← hH]; exact ct_ren hl8 hg v
    have key : ∀ q ∈ ps, ct hm q.2 = nm p (ct hl q.1) := fun q hq => by rw [← hc q hq]; exact ec _
    unfold matchF
    split
    · rename_i hs
      obtain ⟨q, hq, h⟩ := scan_fail hs
      rw [key q hq, next_comp hg hi hc (valid_ct hv q.1).2] at h
      cases h
    · rename_i qs hs
      obtain ⟨q, hq, k1, k2, k3, rfl⟩ := scan_ext hs
      have e := key q hq
      have c1 := (valid_ct hv q.1).2
      have c2 : ct hm q.2 ≤ 8 := by rw [e]; exact (nm_val hg (valid_ct hv q.1).1 c1).2.1
      have hi2 := next_PI (ps := ps) hi c1 c2
      rw [nextL_new k1 k3] at hi2 ⊢
      exact match_comp hv hp8 hg hH hi2 (firsts_snoc hn k2) (hc.snoc e.symm) (by simp; omega)
    · split
      · rename_i k hk
        obtain ⟨o1, o2, _, _, _⟩ := open_some hk
        have ha := al_addr o1
        have hb := nm_addr hg (isAddrB_iff.2 ha)
        obtain ⟨m, em⟩ : ∃ m : Nat, nm p (k : Int) = (m : Int) + 1 := ⟨(nm p (k : Int) - 1).toNat, by omega⟩
        have k1 := next_comp hg hi hc (x := (k : Int)) ha.2
        rw [em] at k1
        have hi2 := next_PI (ps := ps) hi (x := (k : Int)) (y := (m : Int) + 1) (by omega) (by omega)
        rw [nextL_new k1 (by omega)] at hi2
        simp only [List.any_eq_true, List.mem_range, Bool.and_eq_true]
        refine ⟨m, by omega, k1, ?_, ?_⟩
        · rw [← em, ← hH, al_ren hv hg]; exact o1
        · rw [nextL_new k1 (by omega)]
          exact match_comp hv hp8 hg hH hi2 (firsts_snoc hn o2) (hc.snoc em) (by simp; omega)
      · rw [← hH, used_ren hv hg]; simp
end Go.Proofs.Ythoingdcmdhllaa
/- Shapes, in plain Lean: both searches agree; equivalence; canonical forms. -/
namespace Go.Proofs.Ythoingdcmdhllaa

/-- The pairs of the values, as far as they go. -/
def valF (vl vm : List Int) : Nat → Option Prs
  | 0 => some []
  | k + 1 => match valF vl vm k with
    | none => none
    | some ps => if nextOk ps (gi vl k) (gi vm k) = true then some (nextL ps (gi vl k) (gi vm k)) else none
/-- The pairs without those whose first address is there already. -/
def distP (out : Prs) : Prs → Prs
  | [] => out
  | q :: r => distP (if known out q.1 = true then out else out ++ [q]) r
def specShape (vl hl vm hm : List Int) : Bool := (validB vl hl && validB vm hm) && match valF vl vm 8 with
  | none => false
  | some ps => matchF hl hm 9 (distP [] ps) 1

theorem val_PI {vl vm : List Int} (h1 : ∀ i, i < 8 → gi vl i ≤ 8) (h2 : ∀ i, i < 8 → gi vm i ≤ 8) : ∀ {k : Nat} {ps : Prs}, k ≤ 8 → valF vl vm k = some ps → PI ps ∧ ∀ i, i < k → (gi vl i < 1 ∧ gi vl i = gi vm i) ∨ (gi vl i, gi vm i) ∈ ps
  | 0, ps, _, h => by
    injection h with h
    subst h
    exact ⟨PI.nil, fun i hi => by omega⟩
  | k + 1, ps, hk, h => by
    unfold valF at h
    split at h
    · cases h
    · rename_i qs hq
      obtain ⟨hi, hc⟩ := val_PI h1 h2 (by omega) hq
      split at h
      · rename_i hok
        injection h with h
        subst h
        refine ⟨next_PI hi (h1 k (by omega)) (h2 k (by omega)), fun i hi' => ?_⟩
        have sub : ∀ z ∈ qs, z ∈ nextL qs (gi vl k) (gi vm k) := by
          intro z hz
          unfold nextL
          split
          · exact List.mem_append_left _ hz
          · exact hz
        by_cases e : i = k
        · subst e
          rcases nextOk_iff.1 hok with h | h
          · exact .inl h
          · right
            rw [nextL_new hok h.1]
            simp
        · rcases hc i (by omega) with h | h
          · exact .inl h
          · exact .inr (sub _ h)
      · cases h
theorem val_comp {vl vm p : List Int} (hg : goodTo p 8 = true) (h1 : ∀ i, i < 8 → gi vl i ≤ 8) (hp : ∀ i, i < 8 → gi vm i = nm p (gi vl i)) (h2 : ∀ i, i < 8 → gi vm i ≤ 8) : ∀ {k : Nat}, k ≤ 8 → ∃ ps, valF vl vm k = some ps ∧ Cp p ps
  | 0, _ => ⟨[], rfl, fun _ h => by cases h⟩
  | k + 1, hk => by
    obtain ⟨ps, hps, hc⟩ := val_comp hg h1 hp h2 (k := k) (by omega)
    have hi := (val_PI h1 h2 (by omega) hps).1
    refine ⟨nextL ps (gi vl k) (gi vm k), ?_, ?_⟩
    · unfold valF
      rw [hps]
      simp only
      rw [hp k (by omega), next_comp hg hi hc (h1 k (by omega)), if_pos rfl]
    · rw [hp k (by omega)]
      exact next_Cp hc

theorem dist_spec {ps : Prs} (hi : PI ps) : ∀ {r out : Prs}, (∀ q ∈ r, q ∈ ps) → (∀ q ∈ out, q ∈ ps) → (out.map (·.1)).Nodup → (∀ q ∈ distP out r, q ∈ ps) ∧ ((distP out r).map (·.1)).Nodup ∧ (∀ q ∈ out, q ∈ distP out r) ∧ (∀ q ∈ r, q ∈ distP out r)
  | [], out, _, ho, hn => ⟨ho, hn, fun _ h => h, fun _ h => by cases h⟩
  | a :: r, out, hr, ho, hn => by
    unfold distP
    by_cases hk : known out a.1 = true
    · rw [if_pos hk]
      obtain ⟨h1, h2, h3, h4⟩ := dist_spec hi (r := r) (out := out) (fun q hq => hr q (List.mem_cons_of_mem _ hq)) ho hn
      refine ⟨h1, h2, h3, fun q hq => ?_⟩
      rcases List.mem_cons.1 hq with rfl | hq
      · obtain ⟨y, hy⟩ := known_iff.1 hk
        have e : y = q.2 := (hi.bij _ (ho _ hy) _ (hr q List.mem_cons_self)).1 rfl
        rw [e] at hy
        exact h3 _ hy
      · exact h4 q hq
    · rw [if_neg hk]
      have hk' : known out a.1 = false := by simpa using hk
      obtain ⟨h1, h2, h3, h4⟩ := dist_spec hi (r := r) (out := out ++ [a]) (fun q hq => hr q (List.mem_cons_of_mem _ hq)) (fun q hq => by
        rcases List.mem_append.1 hq with hq | hq
        · exact ho q hq
        · simp at hq; subst hq; exact hr q List.mem_cons_self) (firsts_snoc (x := a.1) (y := a.2) hn hk')
      refine ⟨h1, h2, fun q hq => h3 q (List.mem_append_left _ hq), fun q hq => ?_⟩
      rcases List.mem_cons.1 hq with rfl | hq
      · exact h3 _ (by simp)
      · exact h4 q hq
theorem PI.sub {ps qs : Prs} (h : PI ps) (hs : ∀ q ∈ qs, q ∈ ps) : PI qs := ⟨fun q hq => h.adr q (hs q hq), fun q hq r hr => h.bij q (hs q hq) r (hs r hr)⟩

theorem specShape_iff {vl hl vm hm : List Int} : specShape vl hl vm hm = true ↔ validB vl hl = true ∧ validB vm hm = true ∧ ∃ p, Iso vl hl vm hm p := by
  constructor
  · intro h
    simp only [specShape, Bool.and_eq_true] at h
    obtain ⟨⟨hv, hw⟩, h⟩ := h
    refine ⟨hv, hw, ?_⟩
    have b1 : ∀ i, i < 8 → gi vl i ≤ 8 := fun i hi => (valid_vat hv hi).2
    have b2 : ∀ i, i < 8 → gi vm i ≤ 8 := fun i hi => (valid_vat hw hi).2
    cases hp : valF vl vm 8 with
    | none => rw [hp] at h; cases h
    | some ps =>
      rw [hp] at h
      simp only at h
      obtain ⟨hi, hc⟩ := val_PI b1 b2 (Nat.le_refl 8) hp
      obtain ⟨d1, d2, _, d4⟩ := dist_spec hi (r := ps) (out := []) (fun _ h => h) (fun _ h => by cases h) (by simp)
      obtain ⟨p, p8, pg, pc, pH⟩ := match_sound hv hw (hi.sub d1) d2 (by omega) (by omega) (fun j hj ha => by
        have := al_addr ha
        omega) h
      refine ⟨p, p8, pg, ?_, pH⟩
      have hl1 := (valid_len hv).1
      refine gi_ext (by rw [renV_len, hl1, (valid_len hw).1]) fun i hi' => ?_
      rw [renV_len, hl1] at hi'
      rw [gi_renV (by omega)]
      rcases hc i hi' with ⟨h1, h2⟩ | h
      · rw [nm_not (by rw [isAddrB_iff]; omega), h2]
      · exact pc _ (d4 _ h)
  · rintro ⟨hv, hw, p, p8, pg, pV, pH⟩
    have b1 : ∀ i, i < 8 → gi vl i ≤ 8 := fun i hi => (valid_vat hv hi).2
    have b2 : ∀ i, i < 8 → gi vm i ≤ 8 := fun i hi => (valid_vat hw hi).2
    have hp : ∀ i, i < 8 → gi vm i = nm p (gi vl i) := fun i hi => by rw [← pV]; exact gi_renV (by rw [(valid_len hv).1]; exact hi)
    obtain ⟨ps, hps, hc⟩ := val_comp pg b1 hp b2 (Nat.le_refl 8)
    obtain ⟨hi, _⟩ := val_PI b1 b2 (Nat.le_refl 8) hps
    obtain ⟨d1, d2, _, _⟩ := dist_spec hi (r := ps) (out := []) (fun _ h => h) (fun _ h => by cases h) (by simp)
    rw [specShape, hv, hw, hps]
    simp only [Bool.and_self, Bool.true_and]
    exact match_comp hv p8 pg pH (hi.sub d1) d2 (fun q hq => hc q (d1 q hq)) (by omega)
/-- The reference's answer is the program's. -/
theorem spec_shape (vl hl vm hm : List Int) : specShape vl hl vm hm = shapeB vl hl vm hm := by
  rw [Bool.eq_iff_iff, specShape_iff, shape_iff]

/-! ### An equivalence -/
theorem iso_back {vl hl vm hm p : List Int} (hl8 : hl.length = 8) (h : Iso vl hl vm hm p) : Iso vm hm vl hl (backN p 8) := by
  obtain ⟨p8, hg, hV, hH⟩ := h
  exact ⟨backN_len _ _, back_good hg, by rw [← hV, renV_back hg], by rw [← hH, renH_back hl8 hg]⟩
theorem shape_symm (vl hl vm hm : List Int) : shapeB vl hl vm hm = shapeB vm hm vl hl := by
  have key : ∀ vl hl vm hm, shapeB vl hl vm hm = true → shapeB vm hm vl hl = true := by
    intro vl hl vm hm h
    obtain ⟨h1, h2, p, hp⟩ := shape_iff.1 h
    exact shape_iff.2 ⟨h2, h1, _, iso_back (valid_len h1).2 hp⟩
  rw [Bool.eq_iff_iff]
  exact ⟨key _ _ _ _, key _ _ _ _⟩
def idN : List Int := [1, 2, 3, 4, 5, 6, 7, 8]
theorem nm_id (v : Int) : nm idN v = v := by
  by_cases h : isAddrB v = true
  · have := isAddrB_iff.1 h
    rw [nm, if_pos h]
    obtain ⟨k, hk⟩ : ∃ k : Nat, v = (k : Int) + 1 := ⟨(v - 1).toNat, by omega⟩
    subst hk
    have hk8 : k < 8 := by omega
    rw [show ((k : Int) + 1 - 1).toNat = k by omega]
    match k, hk8 with
    | 0, _ => rfl
    | 1, _ => rfl
    | 2, _ => rfl
    | 3, _ => rfl
    | 4, _ => rfl
    | 5, _ => rfl
    | 6, _ => rfl
    | 7, _ => rfl
  · exact nm_not h
theorem id_good : goodTo idN 8 = true := by decide
theorem renV_id (vl : List Int) : renV idN vl = vl := by
  unfold renV
  rw [show nm idN = id from funext nm_id, List.map_id]
theorem renH_id {hl : List Int} (h8 : hl.length = 8) : renH idN hl = hl := by
  refine gi_ext (renH_len _ _) fun i hi => ?_
  rw [renH_len, h8] at hi
  obtain ⟨j, h1, h2, h3⟩ := renH_all h8 id_good hi
  have e := nm_at (p := idN) h1
  rw [nm_id] at e
  have : j = i := by omega
  rw [h3, nm_id, this]
theorem shape_refl (vl hl : List Int) : shapeB vl hl vl hl = validB vl hl := by
  cases hv : validB vl hl with
  | false => simp [shapeB, hv]
  | true => exact shape_iff.2 ⟨hv, hv, idN, rfl, id_good, renV_id _, renH_id (valid_len hv).2⟩
end Go.Proofs.Ythoingdcmdhllaa
