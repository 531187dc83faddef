/- Plain: tidying and folding of an assertion; what comes out is entailed. -/
import Derived.Test.YtdjfdopgjlbloaaVHold1
import Derived.Test.YtdjfdopgjlbloaaVBusy
import Derived.Test.YtdjfdopgjlbloaaVCsA
set_option linter.unusedVariables false
namespace Go.Proofs.Ytdjfdopgjlbloaa
open Go.RowKit

/-- A logical variable that is not kept. -/
def freeB (m : Nat) (t : Int) : Bool := decide (4 < t) && !hasT m t
def knownS (m : Nat) (f : Fact) : Option (Int × Int) :=
  if f.1 = true then (if f.2.1 = f.2.2 then none else if freeB m f.2.1 = true then some (f.2.1, f.2.2) else if freeB m f.2.2 = true then some (f.2.2, f.2.1) else none) else none
def knownF (m : Nat) (l : List Fact) : Option (Int × Int) := l.findSome? (knownS m)
def tidyN (m : Nat) : Nat → Asn → Asn
  | 0, a => a
  | n + 1, a => match knownF m a.1 with
    | none => a
    | some s => tidyN m n (subB a s.1 s.2)
def okT (k : Nat) (t : Int) : Bool := decide (t ≤ 4) || hasT k t
def restB (k : Nat) (f : Fact) : Bool := okT k f.2.1 && okT k f.2.2
def looseL (m : Nat) (a : Asn) : List Fact := a.1.filter (restB (m ||| termsM ([], a.2)))
def tidyE (m : Nat) (a : Asn) : Asn := nfB (looseL m a, a.2)
def tidyB (m : Nat) (a : Asn) : Asn := tidyE m (tidyN m 4 a)
/-- How many variables that are not kept occur in the facts. -/
def occF (m : Nat) (l : List Fact) (t : Int) : Bool := freeB m t && l.any fun f => (f.2.1 == t) || (f.2.2 == t)
def cntF (m : Nat) (l : List Fact) : Nat := ([5, 6, 7, 8] : List Int).countP (occF m l)
theorem countI_lt {p q : Int → Bool} : ∀ {r : List Int}, (∀ x ∈ r, p x = true → q x = true) → (∃ x, x ∈ r ∧ q x = true ∧ p x = false) → r.countP p < r.countP q
  | [], _, h => by obtain ⟨x, hx, _⟩ := h; cases hx
  | y :: r, hm, h => by
    have hm2 : ∀ x ∈ r, p x = true → q x = true := fun x hx => hm x (List.mem_cons_of_mem _ hx)
    have hle : r.countP p ≤ r.countP q := List.countP_mono_left hm2
    rw [List.countP_cons, List.countP_cons]
    obtain ⟨x, hx, hq, hp⟩ := h
    rcases List.mem_cons.1 hx with rfl | hx
    · rw [hq, hp]; simp only [if_true, Bool.false_eq_true, if_false]; omega
    · have := countI_lt hm2 ⟨x, hx, hq, hp⟩
      cases hpy : p y with
      | true => rw [hm y List.mem_cons_self hpy]; simp only [if_true]; omega
      | false => simp only [Bool.false_eq_true, if_false]; split <;> omega
theorem cntF_le (m : Nat) (l : List Fact) : cntF m l ≤ 4 := List.countP_le_length
/-- What a substitution says. -/
structure Known (m : Nat) (a : Asn) (x t : Int) : Prop where
  ne : t ≠ x
  free : freeB m x = true
  mem : ∃ f ∈ a.1, f.1 = true ∧ ((f.2.1 = x ∧ f.2.2 = t) ∨ (f.2.1 = t ∧ f.2.2 = x))
theorem known_of {m : Nat} {a : Asn} {x t : Int} (h : knownF m a.1 = some (x, t)) : Known m a x t := by
  rw [knownF] at h
  obtain ⟨f, hf, hs⟩ := List.exists_of_findSome?_eq_some h
  rw [knownS] at hs
  by_cases h1 : f.1 = true
  · rw [if_pos h1] at hs
    by_cases h2 : f.2.1 = f.2.2
    · rw [if_pos h2] at hs; cases hs
    · rw [if_neg h2] at hs
      by_cases h3 : freeB m f.2.1 = true
      · rw [if_pos h3] at hs
        obtain ⟨rfl, rfl⟩ := Prod.mk.inj (Option.some.inj hs)
        exact ⟨fun e => h2 e.symm, h3, f, hf, h1, .inl ⟨rfl, rfl⟩⟩
      · rw [if_neg h3] at hs
        by_cases h4 : freeB m f.2.2 = true
        · rw [if_pos h4] at hs
          obtain ⟨rfl, rfl⟩ := Prod.mk.inj (Option.some.inj hs)
          exact ⟨h2, h4, f, hf, h1, .inr ⟨rfl, rfl⟩⟩
        · rw [if_neg h4] at hs; cases hs
  · rw [if_neg h1] at hs; cases hs
theorem swT_self (x t : Int) : swT x t x = t := by simp [swT]
theorem swT_cases (x t n : Int) : (n = x ∧ swT x t n = t) ∨ (n ≠ x ∧ swT x t n = n) := by
  by_cases h : n = x
  · subst h; exact .inl ⟨rfl, swT_self _ _⟩
  · exact .inr ⟨h, by simp [swT, h]⟩
theorem swT_ne {x t n : Int} (h : t ≠ x) : swT x t n ≠ x := by
  rcases swT_cases x t n with ⟨_, e⟩ | ⟨h2, e⟩
  · rw [e]; exact h
  · rw [e]; exact h2
theorem factB_iff {f : Fact} : factB f = true ↔ (0 ≤ f.2.1 ∧ f.2.1 ≤ 8) ∧ 0 ≤ f.2.2 ∧ f.2.2 ≤ 8 := by
  simp [factB, isTermB]
theorem known_term {m : Nat} {a : Asn} {x t : Int} (ha : ∀ f ∈ a.1, factB f = true) (h : Known m a x t) : (4 < x ∧ x ≤ 8) ∧ 0 ≤ t ∧ t ≤ 8 := by
  obtain ⟨f, hf, _, hc⟩ := h.mem
  have := factB_iff.1 (ha f hf)
  have h5 : 4 < x := by have := h.free; simp [freeB] at this; exact this.1
  rcases hc with ⟨rfl, rfl⟩ | ⟨rfl, rfl⟩ <;> omega
theorem cnt_sub {m : Nat} {a : Asn} {x t : Int} (ha : ∀ f ∈ a.1, factB f = true) (h : Known m a x t) : cntF m (subB a x t).1 < cntF m a.1 := by
  refine countI_lt (fun y hy hp => ?_) ⟨x, ?_, ?_, ?_⟩
  · simp only [occF, Bool.and_eq_true, List.any_eq_true, Bool.or_eq_true, beq_iff_eq] at hp ⊢
    obtain ⟨hfr, g, hg, hc⟩ := hp
    refine ⟨hfr, ?_⟩
    obtain ⟨f, hf, rfl⟩ := List.mem_map.1 hg
    obtain ⟨k, hk, _, hkc⟩ := h.mem
    have key : ∀ n, swT x t n = y → (n = y ∧ n ≠ x) ∨ t = y := fun n e => by
      rcases swT_cases x t n with ⟨_, e2⟩ | ⟨e1, e2⟩
      · exact .inr (by rw [← e2, e])
      · exact .inl ⟨by rw [← e2, e], e1⟩
    have ht : t = y → ∃ z ∈ a.1, z.2.1 = y ∨ z.2.2 = y := fun e => ⟨k, hk, by rcases hkc with ⟨_, e2⟩ | ⟨e2, _⟩ <;> simp [e2, e]⟩
    rcases hc with e | e
    · rcases key _ e with ⟨e2, _⟩ | e2
      · exact ⟨f, hf, .inl e2⟩
      · exact ht e2
    · rcases key _ e with ⟨e2, _⟩ | e2
      · exact ⟨f, hf, .inr e2⟩
      · exact ht e2
  · have := (known_term ha h).1
    simp only [List.mem_cons, List.not_mem_nil, or_false]; omega
  · rw [occF, h.free, Bool.true_and, List.any_eq_true]
    obtain ⟨k, hk, _, hkc⟩ := h.mem
    exact ⟨k, hk, by rcases hkc with ⟨e, _⟩ | ⟨_, e⟩ <;> simp [e]⟩
  · rw [occF, h.free, Bool.true_and, List.any_eq_false]
    intro g hg
    obtain ⟨f, _, rfl⟩ := List.mem_map.1 hg
    simp [sbF, swT_ne h.ne]
theorem sub_valid {a : Asn} {x t : Int} (ha : asnB a = true) (ht : 0 ≤ t ∧ t ≤ 8) : asnB (subB a x t) = true := by
  have h := asnLe ha
  have p := asn_parts ha
  have k : ∀ n : Int, isTermB n = true → isTermB (swT x t n) = true := fun n hn => by
    rcases swT_cases x t n with ⟨_, e⟩ | ⟨_, e⟩
    · rw [e]; simp [isTermB]; omega
    · rw [e]; exact hn
  simp only [asnB, factsB, subB, Bool.and_eq_true, decide_eq_true_eq, List.all_eq_true, List.length_map]
  refine ⟨⟨h.1.1, fun f hf => ?_⟩, h.1.2, fun f hf => ?_⟩
  · obtain ⟨g, hg, rfl⟩ := List.mem_map.1 hf
    have := p.1 g hg
    simp only [factB, sbF, Bool.and_eq_true] at this ⊢
    exact ⟨k _ this.1, k _ this.2⟩
  · obtain ⟨g, hg, rfl⟩ := List.mem_map.1 hf
    have := p.2 g hg
    simp only [atomB, sbA, Bool.and_eq_true] at this ⊢
    exact ⟨this.1, k _ this.2.1, k _ this.2.2⟩
/-- One step of tidying, at a loop's head. -/
theorem tidy_step {m q : Nat} {a : Asn} {s : Int × Int} (h : knownF m a.1 = some s) : tidyN m (q + 1) a = tidyN m q (subB a s.1 s.2) := by
  rw [tidyN, h]
theorem tidy_stop {m q : Nat} {a : Asn} (h : knownF m a.1 = none) : tidyN m q a = a := by
  cases q with
  | zero => rfl
  | succ q => rw [tidyN, h]
theorem known_valid {m : Nat} {a : Asn} {x t : Int} (ha : asnB a = true) (h : knownF m a.1 = some (x, t)) : (0 ≤ x ∧ x ≤ 8) ∧ (0 ≤ t ∧ t ≤ 8) ∧ asnB (subB a x t) = true ∧ cntF m (subB a x t).1 < cntF m a.1 := by
  have hk := known_of h
  have ht := known_term (asn_parts ha).1 hk
  exact ⟨by omega, ht.2, sub_valid ha ht.2, cnt_sub (asn_parts ha).1 hk⟩
theorem nfStep_mem {l : List Fact} {f g : Fact} (h : g ∈ nfStep l f) : g ∈ l ∨ g = ordF f := by
  rw [nfStep] at h
  split at h
  · exact .inl h
  · split at h
    · exact .inl h
    · rcases List.mem_append.1 h with h | h
      · exact .inl h
      · exact .inr (List.mem_singleton.1 h)
theorem nfFold_mem : ∀ {l m : List Fact} {g : Fact}, g ∈ l.foldl nfStep m → g ∈ m ∨ ∃ f ∈ l, g = ordF f
  | [], m, g, h => .inl h
  | f :: l, m, g, h => by
    rcases nfFold_mem (l := l) (m := nfStep m f) h with h | ⟨k, hk, e⟩
    · rcases nfStep_mem h with h | h
      · exact .inl h
      · exact .inr ⟨f, List.mem_cons_self, h⟩
    · exact .inr ⟨k, List.mem_cons_of_mem _ hk, e⟩
theorem nfF_mem {l : List Fact} {g : Fact} (h : g ∈ nfF l) : ∃ f ∈ l, g = ordF f := by
  rcases nfFold_mem h with h | h
  · cases h
  · exact h
theorem ordF_valid {f : Fact} (h : factB f = true) : factB (ordF f) = true := by
  rw [ordF]; split
  · rw [factB_iff] at h ⊢; exact ⟨h.2, h.1⟩
  · exact h
theorem ordF_fact (v : Int → Int) (f : Fact) : factV v (ordF f) = factV v f := by
  rw [ordF]; split
  · simp only [factV]; rw [show (v f.2.2 == v f.2.1) = (v f.2.1 == v f.2.2) from by rw [Bool.eq_iff_iff, beq_iff_eq, beq_iff_eq]; exact eq_comm]
  · rfl
theorem asn_mk {l1 : List Fact} {l2 : List Atom} (h1 : l1.length ≤ 12) (h2 : ∀ f ∈ l1, factB f = true) (h3 : l2.length ≤ 6) (h4 : ∀ x ∈ l2, atomB x = true) : asnB (l1, l2) = true := by
  rw [asnB, factsB, Bool.and_eq_true, Bool.and_eq_true, Bool.and_eq_true, decide_eq_true_eq, decide_eq_true_eq, List.all_eq_true, List.all_eq_true]
  exact ⟨⟨h1, h2⟩, h3, h4⟩
theorem nf_valid {a : Asn} (ha : asnB a = true) : asnB (nfB a) = true := by
  have h := asnLe ha
  have p := asn_parts ha
  refine asn_mk (Nat.le_trans (nfF_len _) h.1.1) (fun f hf => ?_) (Nat.le_trans (List.length_filter_le _ _) h.1.2) fun f hf => p.2 f (List.mem_filter.1 hf).1
  obtain ⟨g, hg, rfl⟩ := nfF_mem hf
  exact ordF_valid (p.1 g hg)
theorem rest_valid {m : Nat} {a : Asn} (ha : asnB a = true) : asnB (looseL m a, a.2) = true := by
  have h := asnLe ha
  have p := asn_parts ha
  exact asn_mk (Nat.le_trans (List.length_filter_le _ _) h.1.1) (fun f hf => p.1 f (List.mem_filter.1 hf).1) h.1.2 p.2
theorem tidyE_valid {m : Nat} {a : Asn} (ha : asnB a = true) : asnB (tidyE m a) = true := nf_valid (rest_valid ha)
theorem tidyN_valid {m : Nat} : ∀ {n : Nat} {a : Asn}, asnB a = true → asnB (tidyN m n a) = true
  | 0, a, h => h
  | n + 1, a, h => by
    rw [tidyN]
    cases hk : knownF m a.1 with
    | none => exact h
    | some s => exact tidyN_valid (known_valid (t := s.2) (x := s.1) h hk).2.2.1
theorem tidyB_valid {m : Nat} {a : Asn} (ha : asnB a = true) : asnB (tidyB m a) = true := tidyE_valid (tidyN_valid ha)
theorem tidyN_len {m : Nat} : ∀ {n : Nat} {a : Asn}, (tidyN m n a).2.length = a.2.length
  | 0, a => rfl
  | n + 1, a => by
    rw [tidyN]
    cases hk : knownF m a.1 with
    | none => rfl
    | some s => rw [tidyN_len]; simp [subB]
theorem tidyB_len {m : Nat} {a : Asn} : (tidyB m a).2.length ≤ a.2.length := by
  rw [tidyB, tidyE, nfB]
  exact Nat.le_trans (List.length_filter_le _ _) (by rw [tidyN_len]; exact Nat.le_refl _)
/-- A substitution of equals changes no value. -/
theorem sub_val {m : Nat} {a : Asn} {x t : Int} {v : Int → Int} (h : Known m a x t) (hf : ∀ f ∈ a.1, factV v f = true) (n : Int) : v (swT x t n) = v n := by
  obtain ⟨f, hm, h1, hc⟩ := h.mem
  have h2 := hf f hm
  rw [factV, h1] at h2
  simp only [beq_true, beq_iff_eq] at h2
  have hx : v x = v t := by rcases hc with ⟨rfl, rfl⟩ | ⟨rfl, rfl⟩ <;> simp [h2]
  rcases swT_cases x t n with ⟨rfl, e⟩ | ⟨_, e⟩
  · rw [e, hx]
  · rw [e]
theorem fill_sub {x t : Int} {v : Int → Int} (h : ∀ n, v (swT x t n) = v n) : ∀ l : List Atom, fillV v (l.map (sbA x t)) = fillV v l
  | [] => rfl
  | y :: l => by
    have ih := fill_sub h l
    simp only [fillV, List.map_cons, List.filter_cons, sbA, h] at ih ⊢
    split
    · rw [List.map_cons, List.map_cons, ih]; simp only [h]
    · exact ih
theorem fill_nf {v : Int → Int} (l : List Atom) : fillV v (nfA l) = fillV v l := by
  rw [fillV, fillV, nfA, List.filter_filter]
  congr 1
  refine List.filter_congr fun y _ => ?_
  by_cases h1 : y.1 = 1
  · simp [h1]
  · by_cases h2 : y.2.1 = y.2.2
    · simp [h2]
    · simp [h1, h2]
theorem match_same {v : Int → Int} {a b : Asn} (h1 : ∀ f ∈ b.1, factV v f = true) (h2 : fillV v b.2 = fillV v a.2) : MatchV v a b := by
  refine ⟨h1, onesI (fillV v a.2).length, ?_⟩
  rw [h2]; exact shares_refl _
theorem ent_sub {m : Nat} {a : Asn} {x t : Int} (ha : asnB a = true) (h : knownF m a.1 = some (x, t)) : entB a (subB a x t) = true := by
  refine (ent_iff ha (known_valid ha h).2.2.1).2 fun v v0 hp => ?_
  have hv := sub_val (known_of h) hp.facts
  refine match_same (fun f hf => ?_) (fill_sub hv a.2)
  obtain ⟨g, hg, rfl⟩ := List.mem_map.1 hf
  have := hp.facts g hg
  simp only [factV, sbF, hv] at this ⊢
  exact this
theorem ent_tidyN {m : Nat} : ∀ {n : Nat} {a : Asn}, asnB a = true → entB a (tidyN m n a) = true
  | 0, a, h => ent_refl h
  | n + 1, a, h => by
    rw [tidyN]
    cases hk : knownF m a.1 with
    | none => exact ent_refl h
    | some s => exact ent_trans (ent_sub (x := s.1) (t := s.2) h hk) (ent_tidyN (known_valid (t := s.2) (x := s.1) h hk).2.2.1)
theorem ent_tidyE {m : Nat} {a : Asn} (ha : asnB a = true) : entB a (tidyE m a) = true := by
  refine (ent_iff ha (tidyE_valid ha)).2 fun v v0 hp => ?_
  refine match_same (fun f hf => ?_) (fill_nf a.2)
  obtain ⟨g, hg, rfl⟩ := nfF_mem hf
  rw [ordF_fact]
  exact hp.facts g (List.mem_filter.1 hg).1
theorem ent_tidy {m : Nat} {a : Asn} (ha : asnB a = true) : entB a (tidyB m a) = true := ent_trans (ent_tidyN ha) (ent_tidyE (tidyN_valid ha))

/-- How often a term occurs in atoms. -/
def usesN : List Atom → Int → Nat
  | [], _ => 0
  | x :: l, t => (if x.2.1 = t then 1 else 0) + (if x.2.2 = t then 1 else 0) + usesN l t
def keepL (l : List Atom) (i k : Nat) : List Nat := (List.range l.length).filter fun n => (n != i) && (n != k)
def withoutL (l : List Atom) (i k : Nat) : List Atom := (keepL l i k).map (gd l)
def foldX (l : List Atom) (i k : Nat) : Atom := (2, (gd l i).2.1, (gd l k).2.2)
def foldA (a : Asn) (i k : Nat) : Asn := (a.1, foldX a.2 i k :: withoutL a.2 i k)
def tryB (m : Nat) (a : Asn) (i k : Nat) : Option Asn :=
  if (freeB m (gd a.2 i).2.2 && decide (usesN a.2 (gd a.2 i).2.2 = 2)) = true then (if i = k then none else if (gd a.2 k).2.1 = (gd a.2 i).2.2 then (if entB a (foldA a i k) = true then some (foldA a i k) else none) else none) else none
def foldO (m : Nat) (a : Asn) : Option Asn := (List.range a.2.length).findSome? fun i => (List.range a.2.length).findSome? fun k => tryB m a i k
def absN (m : Nat) : Nat → Asn → Asn
  | 0, a => a
  | n + 1, a => match foldO m a with
    | none => a
    | some b => absN m n (tidyB m b)
def absB (m : Nat) (a : Asn) : Asn := absN m 6 (tidyB m a)
theorem usesN_app : ∀ (l r : List Atom) (t : Int), usesN (l ++ r) t = usesN l t + usesN r t
  | [], r, t => by simp [usesN]
  | x :: l, r, t => by rw [List.cons_append, usesN, usesN, usesN_app]; omega
theorem uses_step {l : List Atom} {k : Nat} {t : Int} (h : k < l.length) : usesN (l.take (k + 1)) t = usesN (l.take k) t + ((if (gd l k).2.1 = t then 1 else 0) + (if (gd l k).2.2 = t then 1 else 0)) := by
  rw [take_gd h, usesN_app]; simp [usesN]
theorem usesN_le : ∀ (l : List Atom) (t : Int), usesN l t ≤ 2 * l.length
  | [], t => by simp [usesN]
  | x :: l, t => by
    have := usesN_le l t
    rw [usesN, List.length_cons]
    split <;> split <;> omega
theorem try_some {m : Nat} {a b : Asn} {i k : Nat} (h : tryB m a i k = some b) : (i ≠ k ∧ b = foldA a i k) ∧ entB a b = true := by
  rw [tryB] at h
  split at h
  · split at h
    · cases h
    · split at h
      · split at h
        · obtain rfl := Option.some.inj h
          exact ⟨⟨‹_›, rfl⟩, ‹_›⟩
        · cases h
      · cases h
  · cases h
theorem foldO_some {m : Nat} {a b : Asn} (h : foldO m a = some b) : ∃ i k, i < a.2.length ∧ k < a.2.length ∧ tryB m a i k = some b := by
  obtain ⟨i, hi, h2⟩ := List.exists_of_findSome?_eq_some h
  obtain ⟨k, hk, h3⟩ := List.exists_of_findSome?_eq_some h2
  exact ⟨i, k, List.mem_range.1 hi, List.mem_range.1 hk, h3⟩
theorem keep_cnt {i k : Nat} (hne : i ≠ k) : ∀ n, ((List.range n).filter fun j => (j != i) && (j != k)).length + ((if i < n then 1 else 0) + (if k < n then 1 else 0)) = n
  | 0 => by simp
  | n + 1 => by
    have ih := keep_cnt hne n
    rw [List.range_succ, List.filter_append, List.length_append]
    by_cases h1 : n = i
    · subst h1
      by_cases h3 : k < n
      · simp [h3, show k < n + 1 by omega] at ih ⊢; omega
      · simp [h3, show ¬ k < n + 1 by omega] at ih ⊢; omega
    · by_cases h2 : n = k
      · subst h2
        by_cases h3 : i < n
        · simp [h3, show i < n + 1 by omega] at ih ⊢; omega
        · simp [h3, show ¬ i < n + 1 by omega] at ih ⊢; omega
      · have e1 : (if i < n + 1 then 1 else 0) = (if i < n then 1 else 0) := by
          by_cases h3 : i < n
          · rw [if_pos h3, if_pos (by omega)]
          · rw [if_neg h3, if_neg (by omega)]
        have e2 : (if k < n + 1 then 1 else 0) = (if k < n then 1 else 0) := by
          by_cases h3 : k < n
          · rw [if_pos h3, if_pos (by omega)]
          · rw [if_neg h3, if_neg (by omega)]
        rw [e1, e2]
        simp [h1, h2]; omega
theorem keepL_len {l : List Atom} {i k : Nat} (hi : i < l.length) (hk : k < l.length) (hne : i ≠ k) : (keepL l i k).length + 2 ≤ l.length := by
  have := keep_cnt hne l.length
  rw [if_pos hi, if_pos hk] at this
  rw [keepL]; omega
theorem fold_len {m : Nat} {a b : Asn} (h : foldO m a = some b) : b.2.length + 1 ≤ a.2.length := by
  obtain ⟨i, k, hi, hk, ht⟩ := foldO_some h
  obtain ⟨⟨hne, rfl⟩, _⟩ := try_some ht
  have := keepL_len hi hk hne
  simp only [foldA, withoutL, List.length_cons, List.length_map]; omega
theorem abs_law {m : Nat} : ∀ {n : Nat} {a : Asn}, asnB a = true → entB a (absN m n a) = true ∧ (absN m n a).2.length ≤ a.2.length
  | 0, a, h => ⟨ent_refl h, Nat.le_refl _⟩
  | n + 1, a, h => by
    rw [absN]
    cases hk : foldO m a with
    | none => exact ⟨ent_refl h, Nat.le_refl _⟩
    | some b =>
      obtain ⟨i, k, _, _, ht⟩ := foldO_some hk
      have he := (try_some ht).2
      have hb := (ent_valid he).2
      have ih := abs_law (m := m) (n := n) (tidyB_valid (m := m) hb)
      have hl := fold_len hk
      have hl2 := tidyB_len (m := m) (a := b)
      exact ⟨ent_trans he (ent_trans (ent_tidy hb) ih.1), by have := ih.2; show (absN m n (tidyB m b)).2.length ≤ _; omega⟩
theorem absB_law {m : Nat} {a : Asn} (ha : asnB a = true) : entB a (absB m a) = true ∧ (absB m a).2.length ≤ a.2.length := by
  have h := abs_law (m := m) (n := 6) (tidyB_valid (m := m) ha)
  exact ⟨ent_trans (ent_tidy ha) h.1, Nat.le_trans h.2 tidyB_len⟩
theorem abs_step {m q : Nat} {a b : Asn} (h : foldO m a = some b) : absN m (q + 1) a = absN m q (tidyB m b) := by rw [absN, h]
theorem abs_stop {m q : Nat} {a : Asn} (h : foldO m a = none) : absN m q a = a := by
  cases q with
  | zero => rfl
  | succ q => rw [absN, h]
end Go.Proofs.Ytdjfdopgjlbloaa
