/- Shapes, in plain Lean: the program's search. -/
import Derived.Test.YtnhhfbhhglhocaaPerm3
import Derived.Test.YtnhhfbhhglhocaaCanon
namespace Go.Proofs.Ytnhhfbhhglhocaa

/-- The names ns turn the one state into the other. -/
def isoB (vl hl vm hm ns : List Int) : Bool := decide (renV ns vl = vm) && decide (renH ns hl = hm)
/-- The last of the names ns agrees. -/
def fitB (vl hl vm hm ns : List Int) (n : Nat) : Bool :=
  ((List.range 8).all fun i => (gi vl i == (n : Int)) == (gi vm i == gi ns (n - 1))) &&
  (!((decide (ct hl n < 1) || decide (ct hm (gi ns (n - 1)) < 1)) && (ct hl n != ct hm (gi ns (n - 1)))) &&
  ((List.range n).all fun k => ((ct hl n == (k : Int) + 1) == (ct hm (gi ns (n - 1)) == gi ns k)) && ((ct hl ((k : Int) + 1) == (n : Int)) == (ct hm (gi ns k) == gi ns (n - 1)))))
/-- Names can be found for the addresses that have none. -/
def shN (vl hl vm hm : List Int) : Nat → List Int → Bool
  | 0, ns => isoB vl hl vm hm ns
  | f + 1, ns => (List.range 8).any fun m => !decide (((m : Int) + 1) ∈ ns) && (fitB vl hl vm hm (ns ++ [(m : Int) + 1]) (ns.length + 1) && shN vl hl vm hm f (ns ++ [(m : Int) + 1]))

/-- Two states of one shape. -/
def Iso (vl hl vm hm ns : List Int) : Prop := ns.length = 8 ∧ goodTo ns 8 = true ∧ renV ns vl = vm ∧ renH ns hl = hm

theorem goodL_of {ns : List Int} (h8 : ns.length = 8) (hg : goodTo ns 8 = true) : GoodL ns := by unfold GoodL; rw [h8]; exact hg
theorem nm_at {p : List Int} {k : Nat} (hk : k < 8) : nm p ((k : Int) + 1) = gi p k := by
  rw [nm, if_pos (isAddrB_iff.2 (by omega))]; congr 1; omega
theorem beq_iff_bool {a b c d : Int} (h : a = b ↔ c = d) : ((a == b) == (c == d)) = true := by
  by_cases e : a = b
  · have e2 := h.1 e
    subst e; subst e2; simp
  · have e2 : ¬ c = d := fun hh => e (h.2 hh)
    rw [beq_eq_false_iff_ne.2 e, beq_eq_false_iff_ne.2 e2]; rfl

theorem fit_iso {vl hl vm hm p : List Int} (hv : validB vl hl = true) (h : Iso vl hl vm hm p) {ns : List Int} {n : Nat} (h1 : 1 ≤ n) (h8 : n ≤ 8) (hp : ∀ k, k < n → gi ns k = gi p k) : fitB vl hl vm hm ns n = true := by
  obtain ⟨p8, hg, hV, hH⟩ := h
  have hlen := valid_len hv
  have en : gi ns (n - 1) = nm p (n : Int) := by
    rw [hp _ (by omega), ← nm_at (show n - 1 < 8 by omega)]
    congr 1; omega
  have ek : ∀ k, k < n → gi ns k = nm p ((k : Int) + 1) := fun k hk => by rw [hp k hk, nm_at (by omega)]
  have ec : ∀ v : Int, ct hm (nm p v) = nm p (ct hl v) := fun v => by rw [← hH]; exact ct_ren hlen.2 hg v
  have inj : ∀ u v : Int, u ≤ 8 → v ≤ 8 → (u = v ↔ nm p u = nm p v) := fun u v hu hv => ⟨fun e => by rw [e], fun e => nm_inj hg hu hv e⟩
  have c8 : ∀ v, ct hl v ≤ 8 := fun v => (valid_ct hv v).2
  unfold fitB
  rw [en, ec]
  simp only [Bool.and_eq_true, List.all_eq_true, List.mem_range]
  refine ⟨fun i hi => ?_, ?_, fun k hk => ⟨?_, ?_⟩⟩
  · have : gi vm i = nm p (gi vl i) := by rw [← hV]; exact gi_renV (by omega)
    rw [this]
    exact beq_iff_bool (inj _ _ (valid_vat hv hi).2 (by omega))
  · have hc := valid_ct hv (n : Int)
    by_cases e : ct hl (n : Int) = nm p (ct hl (n : Int))
    · simp [← e]
    · have ha : isAddrB (ct hl (n : Int)) = true := by
        cases hh : isAddrB (ct hl (n : Int)) with
        | true => rfl
        | false => exact absurd (nm_not (by rw [hh]; simp)).symm e
      have h1 := isAddrB_iff.1 ha
      have h2 := nm_addr hg ha
      have d1 : decide (ct hl (n : Int) < 1) = false := by simp; omega
      have d2 : decide (nm p (ct hl (n : Int)) < 1) = false := by simp; omega
      rw [d1, d2]; rfl
  · rw [ek k hk]
    exact beq_iff_bool (inj _ _ (c8 _) (by omega))
  · rw [ek k hk, ec]
    exact beq_iff_bool (inj _ _ (c8 _) (by omega))

theorem sh_iff {vl hl vm hm : List Int} (hv : validB vl hl = true) : ∀ {f : Nat} {ns : List Int}, ns.length + f = 8 → GoodL ns → (shN vl hl vm hm f ns = true ↔ ∃ t, Iso vl hl vm hm (ns ++ t))
  | 0, ns, hf, hg => by
    have h8 : ns.length = 8 := by omega
    constructor
    · intro h
      simp only [shN, isoB, Bool.and_eq_true, decide_eq_true_eq] at h
      refine ⟨[], ?_⟩
      rw [List.append_nil]
      refine ⟨h8, ?_, h.1, h.2⟩
      unfold GoodL at hg
      rwa [h8] at hg
    · rintro ⟨t, h⟩
      have : t = [] := by
        have := h.1
        rw [List.length_append] at this
        exact List.eq_nil_of_length_eq_zero (by omega)
      subst this
      rw [List.append_nil] at h
      simp [shN, isoB, h.2.2.1, h.2.2.2]
  | f + 1, ns, hf, hg => by
    constructor
    · intro h
      simp only [shN, List.any_eq_true, List.mem_range, Bool.and_eq_true, Bool.not_eq_true', decide_eq_false_iff_not] at h
      obtain ⟨m, hm8, hm, _, hs⟩ := h
      have ha : isAddrB ((m : Int) + 1) = true := isAddrB_iff.2 (by omega)
      obtain ⟨t, ht⟩ := (sh_iff hv (by simp; omega) (goodL_snoc hg ha hm)).1 hs
      exact ⟨((m : Int) + 1) :: t, by simpa using ht⟩
    · rintro ⟨t, h⟩
      have hl := h.1
      rw [List.length_append] at hl
      cases t with
      | nil => simp at hl; omega
      | cons x t =>
        have hgp := goodL_of h.1 h.2.1
        have hx := goodL_mem hgp (v := x) (by simp)
        have hxi : gi (ns ++ x :: t) ns.length = x := by rw [gi_app, if_neg (by omega)]; simp [gi]
        have hn : ¬ x ∈ ns := by
          intro hm
          obtain ⟨i, hi, e⟩ := List.getElem_of_mem hm
          have e2 : gi (ns ++ x :: t) i = x := by rw [gi_app, if_pos hi, gi_of hi, e]
          have := good_inj' (ns := ns ++ x :: t) (i := i) (j := ns.length) (m := 8) (by omega) (by simp at hl; omega) h.2.1 (by rw [e2, hxi])
          omega
        obtain ⟨m, rfl⟩ : ∃ m : Nat, x = (m : Int) + 1 := ⟨(x - 1).toNat, by omega⟩
        have ha : isAddrB ((m : Int) + 1) = true := isAddrB_iff.2 (by omega)
        simp only [shN, List.any_eq_true, List.mem_range, Bool.and_eq_true, Bool.not_eq_true', decide_eq_false_iff_not]
        refine ⟨m, by omega, hn, ?_, ?_⟩
        · refine fit_iso hv h (by omega) (by simp at hl; omega) fun k hk => ?_
          rw [show ns ++ ((m : Int) + 1) :: t = (ns ++ [(m : Int) + 1]) ++ t by simp, gi_app (m := t), if_pos (by simp; omega)]
        · exact (sh_iff hv (by simp; omega) (goodL_snoc hg ha hn)).2 ⟨t, by simpa using h⟩

/-- Whether two states have the same shape. -/
def shapeB (vl hl vm hm : List Int) : Bool := (validB vl hl && validB vm hm) && shN vl hl vm hm 8 []
theorem shape_iff {vl hl vm hm : List Int} : shapeB vl hl vm hm = true ↔ validB vl hl = true ∧ validB vm hm = true ∧ ∃ p, Iso vl hl vm hm p := by
  unfold shapeB
  constructor
  · intro h
    simp only [Bool.and_eq_true] at h
    obtain ⟨t, ht⟩ := (sh_iff h.1.1 rfl goodL_nil).1 h.2
    exact ⟨h.1.1, h.1.2, t, ht⟩
  · rintro ⟨h1, h2, p, hp⟩
    rw [h1, h2, (sh_iff (ns := []) h1 rfl goodL_nil).2 ⟨p, hp⟩]; rfl
end Go.Proofs.Ytnhhfbhhglhocaa
