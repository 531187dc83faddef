/- The plain law: how programs run, and that renaming commutes with it. -/
import Derived.Test.YtgfnoinkajfndaaGreatACmd8
import Derived.Test.YtgfnoinkajfndaaGreatAHRen
set_option linter.unusedVariables false
namespace Go.Proofs.YtgfnoinkajfndaaGreat
open Go.RowKit

/-- The least free address. -/
def freeA (hl : List Int) : Option Int := ((List.range 8).find? fun (i : Nat) => !alB hl ((i : Int) + 1)).map fun (i : Nat) => (i : Int) + 1
abbrev St : Type := List Int × List Int
/-- A command without blocks: the code and the state. -/
def basicR (k a b : Int) (s : St) : Int × St :=
  if k = 1 then (0, (s.1.set (a - 1).toNat (tv s.1 b), s.2))
  else if k = 2 then (if alB s.2 (tv s.1 b) = true then (0, (s.1.set (a - 1).toNat (ct s.2 (tv s.1 b)), s.2)) else (1, s))
  else if k = 3 then (if alB s.2 (tv s.1 a) = true then (0, (s.1, s.2.set (tv s.1 a - 1).toNat (tv s.1 b))) else (1, s))
  else if k = 5 then (if alB s.2 (tv s.1 a) = true then (0, (s.1, s.2.set (tv s.1 a - 1).toNat (-1))) else (1, s))
  else match freeA s.2 with
    | some n => (0, (s.1.set (a - 1).toNat n, s.2.set (n - 1).toNat 0))
    | none => (2, s)
/-- Code, state, fuel that is left. -/
abbrev RRes : Type := Int × St × Nat
def loopR (sub : St → Nat → RRes) (t : St → Bool) : Nat → St → Nat → RRes
  | 0, s, _ => (3, s, 0)
  | n + 1, s, f => if t s = true then (if (sub s f).1 = 0 then (if (sub s f).2.2 = 0 then (3, (sub s f).2.1, 0) else loopR sub t n (sub s f).2.1 ((sub s f).2.2 - 1)) else sub s f) else (0, s, f)
def seqR {α : Type} (g : α → St → Nat → RRes) : List α → St → Nat → RRes
  | [], s, f => (0, s, f)
  | c :: r, s, f => if (g c s f).1 = 0 then seqR g r (g c s f).2.1 (g c s f).2.2 else g c s f
def runL : (d : Nat) → List (Cm d) → St → Nat → RRes
  | 0, _, s, f => (0, s, f)
  | d + 1, l, s, f => seqR (fun (c : Cm (d + 1)) s f => if f = 0 then (3, s, 0)
      else if c.kind = 6 then (if factT s.1 c.test = true then runL d c.body s (f - 1) else runL d c.els s (f - 1))
      else if c.kind = 7 then loopR (runL d c.body) (fun s => factT s.1 c.test) f s (f - 1)
      else ((basicR c.kind c.a c.b s).1, (basicR c.kind c.a c.b s).2, f - 1)) l s f
/-- One command. -/
def cmdR {d : Nat} (c : Cm (d + 1)) (s : St) (f : Nat) : RRes :=
  if f = 0 then (3, s, 0)
  else if c.kind = 6 then (if factT s.1 c.test = true then runL d c.body s (f - 1) else runL d c.els s (f - 1))
  else if c.kind = 7 then loopR (runL d c.body) (fun s => factT s.1 c.test) f s (f - 1)
  else ((basicR c.kind c.a c.b s).1, (basicR c.kind c.a c.b s).2, f - 1)
theorem runL_succ {d : Nat} (l : List (Cm (d + 1))) (s : St) (f : Nat) : runL (d + 1) l s f = seqR cmdR l s f := rfl
def okSt (s : St) : Prop := validB s.1 s.2 = true
/-- Some command allocates. -/
def newsB : (d : Nat) → List (Cm d) → Bool
  | 0, _ => false
  | d + 1, l => l.any fun c => decide (Cm.kind c = 4) || (newsB d (Cm.body c) || newsB d (Cm.els c))

theorem progB_iff {n : Int} : progB n = true ↔ 1 ≤ n ∧ n ≤ 4 := by simp [progB]
theorem valid_set_v {vl hl : List Int} (h : validB vl hl = true) (i : Nat) {x : Int} (hx : 0 ≤ x ∧ x ≤ 8) : validB (vl.set i x) hl = true := by
  have hn := valid_len h
  refine valid_of (by rw [List.length_set]; exact hn.1) hn.2 (fun j hj => ?_) (fun j hj => valid_hat h hj)
  by_cases hi : i < vl.length
  · rw [gi_set hi]; split
    · exact hx
    · exact valid_vat h hj
  · rw [List.set_eq_of_length_le (by omega)]; exact valid_vat h hj
theorem valid_set_h {vl hl : List Int} (h : validB vl hl = true) (i : Nat) {x : Int} (hx : -1 ≤ x ∧ x ≤ 8) : validB vl (hl.set i x) = true := by
  have hn := valid_len h
  refine valid_of hn.1 (by rw [List.length_set]; exact hn.2) (fun j hj => valid_vat h hj) (fun j hj => ?_)
  by_cases hi : i < hl.length
  · rw [gi_set hi]; split
    · exact hx
    · exact valid_hat h hj
  · rw [List.set_eq_of_length_le (by omega)]; exact valid_hat h hj
theorem freeA_le {hl : List Int} {n : Int} (h : freeA hl = some n) : 1 ≤ n ∧ n ≤ 8 ∧ alB hl n = false := by
  rw [freeA, Option.map_eq_some_iff] at h
  obtain ⟨i, h, rfl⟩ := h
  have h1 := List.find?_some h
  have h2 := List.mem_range.1 (List.mem_of_find?_eq_some h)
  exact ⟨by omega, by omega, by simpa using h1⟩
/-- What a right command without blocks says of its fields. -/
theorem basic_fields {d : Nat} {c : Cm (d + 1)} (h : basicB c = true) : (0 ≤ c.a ∧ c.a ≤ 8) ∧ (0 ≤ c.b ∧ c.b ≤ 8) := by
  simp only [basicB, Bool.and_eq_true, Bool.or_eq_true, decide_eq_true_eq, progB_iff, isTermB_iff] at h
  omega
theorem headOk_basic {d : Nat} {c : Cm (d + 1)} (h : headOk c = true) (h6 : ¬ c.kind = 6) (h7 : ¬ c.kind = 7) : basicB c = true := by
  rwa [headOk, if_neg h6, if_neg h7] at h
theorem headOk_test {d : Nat} {c : Cm (d + 1)} (h : headOk c = true) (h6 : c.kind = 6 ∨ c.kind = 7) : factB c.test = true := by
  rw [headOk] at h
  rcases h6 with h6 | h6
  · rw [if_pos h6] at h; simp only [Bool.and_eq_true] at h; exact h.2.2.1
  · rw [if_neg (by omega), if_pos h6] at h; simp only [Bool.and_eq_true] at h; exact h.2.2.1
theorem basic_ok {k a b : Int} {s : St} (hs : okSt s) (ha : 0 ≤ a ∧ a ≤ 8) (hb : 0 ≤ b ∧ b ≤ 8) : okSt (basicR k a b s).2 := by
  have h1 := tvT_le hs ha.1 ha.2
  have h2 := tvT_le hs hb.1 hb.2
  rw [basicR]
  split
  · exact valid_set_v hs _ h2
  split
  · split
    · rename_i hal
      exact valid_set_v hs _ ⟨al_ct hal, ct_le hs _⟩
    · exact hs
  split
  · split
    · exact valid_set_h hs _ (by omega)
    · exact hs
  split
  · split
    · exact valid_set_h hs _ (by omega)
    · exact hs
  split
  · rename_i n hn
    have := freeA_le hn
    exact valid_set_h (valid_set_v hs _ (by omega)) _ (by omega)
  · exact hs
theorem shape_succ {d : Nat} {l : List (Cm (d + 1))} {D : Int} (h : shpB (d + 1) l D = true) : ∀ c ∈ l, headOk c = true ∧ shpB d c.body (D - 1) = true ∧ shpB d c.els (D - 1) = true := fun c hc => by
  rw [shpB, Bool.and_eq_true, List.all_eq_true] at h
  have := h.2 c hc
  simpa only [Bool.and_eq_true] using this

theorem loop_ok {sub : St → Nat → RRes} {t : St → Bool} (h : ∀ s f, okSt s → okSt (sub s f).2.1) : ∀ n s f, okSt s → okSt (loopR sub t n s f).2.1
  | 0, s, f, hs => hs
  | n + 1, s, f, hs => by
    rw [loopR]
    split
    · split
      · split
        · exact h s f hs
        · exact loop_ok h n _ _ (h s f hs)
      · exact h s f hs
    · exact hs
theorem seq_ok {α : Type} {g : α → St → Nat → RRes} : ∀ (l : List α) (s : St) (f : Nat), (∀ c ∈ l, ∀ s f, okSt s → okSt (g c s f).2.1) → okSt s → okSt (seqR g l s f).2.1
  | [], s, f, _, hs => hs
  | c :: r, s, f, h, hs => by
    rw [seqR]
    split
    · exact seq_ok r _ _ (fun x hx => h x (List.mem_cons_of_mem _ hx)) (h c (by simp) s f hs)
    · exact h c (by simp) s f hs
theorem run_ok : ∀ (d : Nat) (l : List (Cm d)) (D : Int) (s : St) (f : Nat), shpB d l D = true → okSt s → okSt (runL d l s f).2.1
  | 0, _, _, s, f, _, hs => hs
  | d + 1, l, D, s, f, h, hs => by
    rw [runL_succ]
    refine seq_ok l s f (fun c hc s f hs => ?_) hs
    obtain ⟨h1, h2, h3⟩ := shape_succ h c hc
    rw [cmdR]
    split
    · exact hs
    split
    · split
      · exact run_ok d _ _ s _ h2 hs
      · exact run_ok d _ _ s _ h3 hs
    split
    · exact loop_ok (fun s f hs => run_ok d _ _ s f h2 hs) _ s _ hs
    · rename_i h6 h7
      have hf := basic_fields (headOk_basic h1 h6 h7)
      exact basic_ok hs hf.1 hf.2
/-- Fuel does not grow. -/
theorem loop_fuel {sub : St → Nat → RRes} {t : St → Bool} (h : ∀ s f, (sub s f).2.2 ≤ f) : ∀ n s f, (loopR sub t n s f).2.2 ≤ f
  | 0, s, f => Nat.zero_le _
  | n + 1, s, f => by
    rw [loopR]
    split
    · split
      · split
        · exact Nat.zero_le _
        · exact Nat.le_trans (loop_fuel h n _ _) (Nat.le_trans (Nat.sub_le _ _) (h s f))
      · exact h s f
    · exact Nat.le_refl _
theorem seq_fuel {α : Type} {g : α → St → Nat → RRes} : ∀ (l : List α) (s : St) (f : Nat), (∀ c ∈ l, ∀ s f, (g c s f).2.2 ≤ f) → (seqR g l s f).2.2 ≤ f
  | [], s, f, _ => Nat.le_refl _
  | c :: r, s, f, h => by
    rw [seqR]
    split
    · exact Nat.le_trans (seq_fuel r _ _ fun x hx => h x (List.mem_cons_of_mem _ hx)) (h c (by simp) s f)
    · exact h c (by simp) s f
theorem run_fuel : ∀ (d : Nat) (l : List (Cm d)) (s : St) (f : Nat), (runL d l s f).2.2 ≤ f
  | 0, _, s, f => Nat.le_refl _
  | d + 1, l, s, f => by
    rw [runL_succ]
    refine seq_fuel l s f fun c hc s f => ?_
    rw [cmdR]
    split
    · exact Nat.zero_le _
    split
    · split
      · exact Nat.le_trans (run_fuel d _ s _) (Nat.sub_le _ _)
      · exact Nat.le_trans (run_fuel d _ s _) (Nat.sub_le _ _)
    split
    · exact Nat.le_trans (loop_fuel (fun s f => run_fuel d _ s f) _ s _) (Nat.sub_le _ _)
    · exact Nat.sub_le _ _
/-- The loop's own bound does not matter where it is as great as the fuel. -/
theorem loop_bound {sub : St → Nat → RRes} {t : St → Bool} (h : ∀ s f, (sub s f).2.2 ≤ f) : ∀ (n m : Nat) (s : St) (f : Nat), f < n → f < m → loopR sub t n s f = loopR sub t m s f
  | 0, _, _, _, h1, _ => absurd h1 (Nat.not_lt_zero _)
  | _ + 1, 0, _, _, _, h2 => absurd h2 (Nat.not_lt_zero _)
  | n + 1, m + 1, s, f, h1, h2 => by
    rw [loopR, loopR]
    have := h s f
    by_cases h3 : (sub s f).2.2 = 0
    · rw [if_pos h3, if_pos h3]
    · rw [if_neg h3, if_neg h3, loop_bound h n m _ _ (by omega) (by omega)]

def renSt (ns : List Int) (s : St) : St := (renV ns s.1, renH ns s.2)
theorem renV_set {ns vl : List Int} (i : Nat) (x : Int) : renV ns (vl.set i x) = (renV ns vl).set i (nm ns x) := by
  unfold renV
  rw [List.map_set]
theorem renH_set {ns hl : List Int} (hb : hl.length = 8) (hg : goodTo ns 8 = true) {v : Int} (hv : isAddrB v = true) (x : Int) : renH ns (hl.set (v - 1).toNat x) = (renH ns hl).set (nm ns v - 1).toNat (nm ns x) := by
  have hv1 := isAddrB_iff.1 hv
  have hvn := nm_addr hg hv
  have hb' : (hl.set (v - 1).toNat x).length = 8 := by rw [List.length_set]; exact hb
  refine gi_ext (by rw [renH_len, List.length_set, List.length_set, renH_len]) fun i hi => ?_
  rw [renH_len, hb'] at hi
  obtain ⟨j, h1, h2, h3⟩ := renH_all hb' hg hi
  rw [h3, gi_set (show (v - 1).toNat < hl.length by omega), gi_set (show (nm ns v - 1).toNat < (renH ns hl).length by rw [renH_len, hb]; omega)]
  have e : nm ns v = gi ns (v - 1).toNat := by rw [nm, if_pos hv]
  by_cases hj : (v - 1).toNat = j
  · rw [if_pos hj, if_pos (by rw [e, hj]; omega)]
  · rw [if_neg hj]
    have hne : ¬ (nm ns v - 1).toNat = i := fun h => hj (good_inj' (ns := ns) (m := 8) (by omega) h1 hg (by rw [← e]; omega))
    rw [if_neg hne]
    have := renH_at hb hg h1
    rw [show (gi ns j - 1).toNat = i by omega] at this
    exact this.symm
theorem al_isAddr {hl : List Int} {v : Int} (h : alB hl v = true) : isAddrB v = true := isAddrB_iff.2 (al_addr h)
theorem basic_ren {ns : List Int} (hg : goodTo ns 8 = true) {k a b : Int} {s : St} (hs : okSt s) (ha : 0 ≤ a ∧ a ≤ 8) (hb : 0 ≤ b ∧ b ≤ 8) (hk : k = 1 ∨ k = 2 ∨ k = 3 ∨ k = 5) :
    basicR k a b (renSt ns s) = ((basicR k a b s).1, renSt ns (basicR k a b s).2) := by
  have h8 := (valid_len hs).2
  have e1 : tv (renSt ns s).1 a = nm ns (tv s.1 a) := tvT_ren hs ha.1 ha.2
  have e2 : tv (renSt ns s).1 b = nm ns (tv s.1 b) := tvT_ren hs hb.1 hb.2
  have e3 : ∀ v, alB (renSt ns s).2 (nm ns v) = alB s.2 v := fun v => al_ren hs hg v
  have e4 : ∀ v, ct (renSt ns s).2 (nm ns v) = nm ns (ct s.2 v) := fun v => ct_ren h8 hg v
  rw [basicR, basicR, e1, e2, e3, e3, e4]
  split
  · rw [renSt, renSt, renV_set]
  split
  · split
    · rw [renSt, renSt, renV_set]
    · rfl
  split
  · split
    · rename_i hal
      rw [renSt, renSt, renH_set h8 hg (al_isAddr hal)]
    · rfl
  split
  · split
    · rename_i hal
      rw [renSt, renSt, renH_set h8 hg (al_isAddr hal), show nm ns (-1) = -1 from nm_not (by decide)]
    · rfl
  · omega
theorem loop_ren {ns : List Int} {sub : St → Nat → RRes} {t : St → Bool} (h0 : ∀ s f, okSt s → okSt (sub s f).2.1) (h1 : ∀ s f, okSt s → sub (renSt ns s) f = ((sub s f).1, renSt ns (sub s f).2.1, (sub s f).2.2)) (h2 : ∀ s, okSt s → t (renSt ns s) = t s) :
    ∀ (n : Nat) (s : St) (f : Nat), okSt s → loopR sub t n (renSt ns s) f = ((loopR sub t n s f).1, renSt ns (loopR sub t n s f).2.1, (loopR sub t n s f).2.2)
  | 0, s, f, hs => rfl
  | n + 1, s, f, hs => by
    rw [loopR, loopR, h2 s hs, h1 s f hs]
    by_cases ht : t s = true
    · rw [if_pos ht, if_pos ht]
      by_cases hc : (sub s f).1 = 0
      · rw [if_pos hc, if_pos hc]
        by_cases hz : (sub s f).2.2 = 0
        · rw [if_pos hz, if_pos hz]
        · rw [if_neg hz, if_neg hz]
          exact loop_ren h0 h1 h2 n _ _ (h0 s f hs)
      · rw [if_neg hc, if_neg hc]
    · rw [if_neg ht, if_neg ht]
theorem seq_ren {ns : List Int} {α : Type} {g : α → St → Nat → RRes} : ∀ (l : List α) (s : St) (f : Nat), (∀ c ∈ l, ∀ s f, okSt s → okSt (g c s f).2.1) → (∀ c ∈ l, ∀ s f, okSt s → g c (renSt ns s) f = ((g c s f).1, renSt ns (g c s f).2.1, (g c s f).2.2)) → okSt s →
    seqR g l (renSt ns s) f = ((seqR g l s f).1, renSt ns (seqR g l s f).2.1, (seqR g l s f).2.2)
  | [], s, f, _, _, hs => rfl
  | c :: r, s, f, h0, h1, hs => by
    rw [seqR, seqR, h1 c (by simp) s f hs]
    by_cases hc : (g c s f).1 = 0
    · rw [if_pos hc, if_pos hc]
      exact seq_ren r _ _ (fun x hx => h0 x (List.mem_cons_of_mem _ hx)) (fun x hx => h1 x (List.mem_cons_of_mem _ hx)) (h0 c (by simp) s f hs)
    · rw [if_neg hc, if_neg hc]
theorem basic_kind {d : Nat} {c : Cm (d + 1)} (h : basicB c = true) : c.kind = 1 ∨ c.kind = 2 ∨ c.kind = 3 ∨ c.kind = 4 ∨ c.kind = 5 := by
  simp only [basicB, Bool.and_eq_true, Bool.or_eq_true, decide_eq_true_eq] at h
  omega
/-- A program that does not allocate runs alike after renaming. -/
theorem run_ren {ns : List Int} (hg : goodTo ns 8 = true) : ∀ (d : Nat) (l : List (Cm d)) (D : Int) (s : St) (f : Nat), shpB d l D = true → newsB d l = false → okSt s →
    runL d l (renSt ns s) f = ((runL d l s f).1, renSt ns (runL d l s f).2.1, (runL d l s f).2.2)
  | 0, _, _, s, f, _, _, hs => rfl
  | d + 1, l, D, s, f, h, hn, hs => by
    have hok : ∀ c ∈ l, ∀ s f, okSt s → okSt (cmdR c s f).2.1 := fun c hc s f hs => by
      obtain ⟨h1, h2, h3⟩ := shape_succ h c hc
      rw [cmdR]
      split
      · exact hs
      split
      · split
        · exact run_ok d _ _ s _ h2 hs
        · exact run_ok d _ _ s _ h3 hs
      split
      · exact loop_ok (fun s f hs => run_ok d _ _ s f h2 hs) _ s _ hs
      · rename_i h6 h7
        have hf := basic_fields (headOk_basic h1 h6 h7)
        exact basic_ok hs hf.1 hf.2
    rw [runL_succ, runL_succ]
    refine seq_ren l s f hok (fun c hc s f hs => ?_) hs
    obtain ⟨h1, h2, h3⟩ := shape_succ h c hc
    have hnc : ¬ c.kind = 4 ∧ newsB d c.body = false ∧ newsB d c.els = false := by
      rw [newsB, List.any_eq_false] at hn
      have := hn c hc
      simp only [Bool.or_eq_true, decide_eq_true_eq, not_or, Bool.not_eq_true] at this
      exact this
    rw [cmdR, cmdR]
    by_cases h0 : f = 0
    · rw [if_pos h0, if_pos h0]
    rw [if_neg h0, if_neg h0]
    by_cases h6 : c.kind = 6
    · have ht : factT (renSt ns s).1 c.test = factT s.1 c.test := fact_ren hs hg (headOk_test h1 (.inl h6))
      rw [if_pos h6, if_pos h6, ht]
      by_cases hb : factT s.1 c.test = true
      · rw [if_pos hb, if_pos hb]; exact run_ren hg d _ _ s _ h2 hnc.2.1 hs
      · rw [if_neg hb, if_neg hb]; exact run_ren hg d _ _ s _ h3 hnc.2.2 hs
    rw [if_neg h6, if_neg h6]
    by_cases h7 : c.kind = 7
    · rw [if_pos h7, if_pos h7]
      exact loop_ren (fun s f hs => run_ok d _ _ s f h2 hs) (fun s f hs => run_ren hg d _ _ s f h2 hnc.2.1 hs) (fun s hs => fact_ren hs hg (headOk_test h1 (.inr h7))) _ s _ hs
    rw [if_neg h7, if_neg h7]
    have hbb := headOk_basic h1 h6 h7
    have hf := basic_fields hbb
    have hk := basic_kind hbb
    rw [basic_ren hg hs hf.1 hf.2 (by omega)]
end Go.Proofs.YtgfnoinkajfndaaGreat
