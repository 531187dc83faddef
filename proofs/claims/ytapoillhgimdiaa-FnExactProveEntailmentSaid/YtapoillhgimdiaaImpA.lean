/- ImpA: texts Imp, ImpI in one. -/
import Derived.Test.YtapoillhgimdiaaCsA
import Derived.Test.YtapoillhgimdiaaSplA
import Derived.Test.YtapoillhgimdiaaItrB
import Derived.Deep.RegionHeld3
/- The plain law of splitting: the parts of an assertion, and what it implies. -/
namespace Go.Proofs.Ytapoillhgimdiaa
open Go.RowKit

/-- The terms of an assertion and a fact. -/
def impM (a : Asn) (f : Fact) : Nat := termM (termsM a) 0 ||| termM (termM 0 f.2.1) f.2.2
/-- Whether an assertion implies a fact. -/
def impB (a : Asn) (f : Fact) : Bool := asnB a && (factB f && (casesL (impM a f) a).all fun cl => factC cl f)
theorem imp_has {a : Asn} {f : Fact} (hf : factB f = true) : hasT (impM a f) f.2.1 = true ∧ hasT (impM a f) f.2.2 = true := by
  obtain ⟨f1, f2, f3, f4⟩ := factB_le hf
  have h1 := isTermB_iff.2 (And.intro f1 f2)
  have h2 := isTermB_iff.2 (And.intro f3 f4)
  refine ⟨hasT_iff.2 ⟨f1, f2, ?_⟩, hasT_iff.2 ⟨f3, f4, ?_⟩⟩
  · have e : f.2.1 = ((f.2.1.toNat : Nat) : Int) := by omega
    simp only [impM, Nat.testBit_or, termM_bit, h1, decide_eq_true e]; simp
  · have e : f.2.2 = ((f.2.2.toNat : Nat) : Int) := by omega
    simp only [impM, Nat.testBit_or, termM_bit, h2, decide_eq_true e]; simp
theorem imp_cov {a : Asn} (f : Fact) (ha : asnB a = true) : Covers (impM a f) a ∧ (impM a f).testBit 0 = true := by
  refine ⟨covers_of ha fun j hj => ?_, ?_⟩
  · rw [impM, Nat.testBit_or, one_bit, hj]; rfl
  · rw [impM, Nat.testBit_or, one_bit]; simp
theorem imp_iff {a : Asn} {f : Fact} (ha : asnB a = true) (hf : factB f = true) : impB a f = true ↔ ∀ g, g 0 = 0 → PossV g a → factV g f = true := by
  obtain ⟨hc, hb⟩ := imp_cov f ha
  rw [← cases_val ha hc hb (fun g => factV g f = true) fun g1 g2 _ _ hp h => by rw [← fact_pat hp (imp_has hf)]; exact h]
  rw [impB, ha, hf, Bool.true_and, Bool.true_and, List.all_eq_true]
  exact Iff.rfl
theorem fact_not (g : Int → Int) (f : Fact) : factV g (nF f) = !factV g f := by
  obtain ⟨b, x, y⟩ := f
  show ((g x == g y) == !b) = !((g x == g y) == b)
  cases g x == g y <;> cases b <;> rfl
theorem nF_nF (f : Fact) : nF (nF f) = f := by
  obtain ⟨b, x, y⟩ := f
  show (!(!b), x, y) = _
  rw [Bool.not_not]
theorem nF_ok {f : Fact} (hf : factB f = true) : factB (nF f) = true := hf
theorem poss_with {g : Int → Int} {a : Asn} {f : Fact} : PossV g (withF a f) ↔ PossV g a ∧ factV g f = true := by
  constructor
  · intro h
    exact ⟨⟨fun x hx => h.facts x (List.mem_append_left _ hx), h.apart⟩, h.facts f (List.mem_append_right _ List.mem_cons_self)⟩
  · rintro ⟨h1, h2⟩
    refine ⟨fun x hx => ?_, h1.apart⟩
    rcases List.mem_append.1 hx with h | h
    · exact h1.facts x h
    · rw [List.mem_singleton.1 h]; exact h2
theorem asn_with {a : Asn} {f : Fact} (ha : asnB a = true) (hf : factB f = true) (hl : ¬ a.1.length = 12) : asnB (withF a f) = true := by
  simp only [asnB, factsB, Bool.and_eq_true, decide_eq_true_eq, List.all_eq_true] at ha ⊢
  obtain ⟨⟨h1, h2⟩, h3⟩ := ha
  refine ⟨⟨by simp only [withF, List.length_append, List.length_cons, List.length_nil]; omega, fun x hx => ?_⟩, h3⟩
  rcases List.mem_append.1 hx with h | h
  · exact h2 x h
  · rw [List.mem_singleton.1 h]; exact hf
theorem cons_with {a : Asn} {f : Fact} (ha : asnB a = true) (hf : factB f = true) (hl : ¬ a.1.length = 12) : consB (withF a f) = !impB a (nF f) := by
  rw [Bool.eq_iff_iff, cons_iff (asn_with ha hf hl), Bool.not_eq_true', ← Bool.not_eq_true, imp_iff ha (nF_ok hf)]
  constructor
  · rintro ⟨g, g0, hp⟩ h
    obtain ⟨h1, h2⟩ := poss_with.1 hp
    have := h g g0 h1
    rw [fact_not, h2] at this
    cases this
  · intro h
    apply Classical.byContradiction
    intro hn
    refine h fun g g0 hp => ?_
    rw [fact_not]
    cases hv : factV g f with
    | false => rfl
    | true => exact absurd ⟨g, g0, poss_with.2 ⟨hp, hv⟩⟩ hn
theorem split_ok {a : Asn} {f : Fact} (h : splitOk a f = true) : asnB a = true ∧ factB f = true ∧ ¬ a.1.length = 12 := by
  simp only [splitOk, Bool.and_eq_true, Bool.not_eq_true', decide_eq_false_iff_not] at h
  exact h
/-- What splitting yields. -/
theorem split_two {a : Asn} {f : Fact} (h : splitOk a f = true) : splitR a f = (if impB a (nF f) = true then [] else [withF a f]) ++ (if impB a f = true then [] else [withF a (nF f)]) := by
  obtain ⟨ha, hf, hl⟩ := split_ok h
  have e1 := cons_with ha hf hl
  have e2 := cons_with ha (nF_ok hf) hl
  rw [nF_nF] at e2
  rw [splitR, if_pos h, splitTo, List.take_of_length_le (by simp), List.filter_cons, List.filter_cons, List.filter_nil, e1, e2]
  cases impB a (nF f) <;> cases impB a f <;> rfl
/-- A consistent assertion implies not a fact and its other way. -/
theorem imp_not {a : Asn} {f : Fact} (hc : consB a = true) (h1 : impB a f = true) : impB a (nF f) = false := by
  have ha : asnB a = true := by rw [consB, Bool.and_eq_true] at hc; exact hc.1
  have hf : factB f = true := by rw [impB, Bool.and_eq_true, Bool.and_eq_true] at h1; exact h1.2.1
  obtain ⟨g, g0, hp⟩ := (cons_iff ha).1 hc
  cases h2 : impB a (nF f) with
  | false => rfl
  | true =>
    have a1 := (imp_iff ha hf).1 h1 g g0 hp
    have a2 := (imp_iff ha (nF_ok hf)).1 h2 g g0 hp
    rw [fact_not, a1] at a2
    cases a2
end Go.Proofs.Ytapoillhgimdiaa
/- Walks: whether an assertion implies a fact: the program. -/
namespace Go.Proofs.Ytapoillhgimdiaa
open Go Go.RowKit

attribute [local go_sem] Oper.semAt_some
/-- One result variable, a cell. -/
theorem res_one {P : Program} {fn : Func} {p : Tmp} (h : fn.results = #[.cell p 4]) {tmps : Array Value} {W : World} {D g : Nat} {b : Bool} (hP : P = Try.prog)
    (hp : tmps.getD p undef = .pointer (some ⟨g, 0, none⟩)) (h2 : W.cell? ⟨g, 0, none⟩ = some (.bool b)) (d1 : ¬ g = D) :
    (results fn tmps).run P (W.putObj D (.deferred none)) = .ok (.bool b) (W.putObj D (.deferred none)) := by
  subst hP
  have hp' : tmps[p]?.getD undef = .pointer (some ⟨g, 0, none⟩) := by simpa using hp
  simp [results, h, hp', asAddr, load_bool ((fr_put W D _).cell d1 h2)]
theorem imp_lt (a : Asn) (f : Fact) : impM a f < 65536 := Nat.or_lt_two_pow (n := 16) (termM_lt (termsM_lt a)) (termM_lt (termM_lt (by decide)))
end Go.Proofs.Ytapoillhgimdiaa
